import Derived.Test.YtnndiicpiolddaaProg
import Derived.Test.YtnndiicpiolddaaAbSee
import Derived.Test.YtnndiicpiolddaaShelfContains
import Derived.Lib.IndexAny
set_option linter.unusedVariables false
namespace Go.Proofs.Ytnndiicpiolddaa.val
open Go Go.Ab
theorem named : Named Try.prog := by
  have h : Try.prog.funcs.toList.all (fun fn => !(fn.name == "runtime.NumGoroutine")) = true := by kernel_rfl
  intro g fn hf
  have := List.all_eq_true.1 h fn (by rw [Array.getElem?_eq_some_iff] at hf; obtain ⟨h1, rfl⟩ := hf; simp)
  simpa using this
/-- strings.Contains at one byte. -/
def prims : Prims := fun f =>
  match Nat.beq f 127 with
  | true => some fun args _ => (match args with | [.S s, .S [c]] => some (true, .B (s.contains c)) | _ => none)
  | false => none
theorem at127 : Try.prog.funcs[127]? = some (fnOf Try.prog 127) := by kernel_rfl
theorem contains_map : ∀ (l : List UInt8) (b : UInt8), (l.map fun c => (c.toNat : Int)).contains (b.toNat : Int) = l.contains b
  | [], b => rfl
  | a :: l, b => by
    simp only [List.map_cons, List.contains_cons, contains_map l b]
    congr 1
    rw [Bool.eq_iff_iff]
    simp only [beq_iff_eq]
    constructor
    · intro h; exact UInt8.toNat_inj.1 (by omega)
    · intro h; rw [h]
theorem prims_ok : PrimsOk Try.prog prims := by
  intro f g h args m v E w cargs hS ha hg
  unfold prims at h
  split at h
  · rename_i hf
    obtain rfl := Nat.eq_of_beq_eq_true hf
    cases h
    dsimp only at hg
    split at hg
    · rename_i s c
      cases hg
      simp only [VsRel, VRel] at ha
      obtain ⟨c0, r0, e0, ⟨t, rfl, ht, _⟩, c1, r1, rfl, ⟨u, rfl, hu, _⟩, rfl⟩ := ha
      refine ⟨⟨_, at127, by kernel_rfl⟩, ?_⟩
      obtain ⟨b, hb, hbc⟩ : ∃ b : UInt8, u = ⟨#[b]⟩ ∧ (b.toNat : Int) = c := by
        obtain ⟨⟨l⟩⟩ := u
        match l, hu with
        | [b], hu => simp [bytesI] at hu; exact ⟨b, rfl, hu⟩
      subst hb
      have hc : cargs = #[.string t, .string ⟨#[b]⟩] := by apply Array.ext'; simpa using e0
      subst hc
      refine (Try.strings_Contains_one t b w).mono fun e w' he => ?_
      obtain ⟨rfl, rfl⟩ := he
      refine ⟨E, Step.refl hS, ?_⟩
      show VRel E (.B (s.contains c)) _
      simp only [VRel]
      rw [← ht, ← hbc, bytesI, contains_map, Lib.contains_iff_indexByte]
    · cases hg
  · cases h
def C0 : CC := call Try.prog prims 1000
theorem C0_ok : CallsOk Try.prog C0 := call_sound named prims_ok 1000
theorem at25 : Try.prog.funcs[25]? = some (fnOf Try.prog 25) := by kernel_rfl
abbrev Y25 : Type := (Prop) → Prop
set_option maxHeartbeats 4000000 in
set_option maxRecDepth 100000 in
def F25   (k1 : Prop) : Prop :=
  (k1)
theorem F25_ok   (K : V → Mem → Prop) : cbody Try.prog C0 (fun _ => none) 1000 (fnOf Try.prog 25) [] [] K =
    F25   (K (.B true) []) := by kernel_rfl
def G25 : Y25 := F25 
def VT25 (f : Y25) (F : Prop) (args : List V) (m : Mem) (K : V → Mem → Prop) : Prop :=
  (seeNil args F (seeNil m F (f  (K (.B true) []))))
def T25 (f : Y25) (C : CC) : CC := fun g args m K =>
  match Nat.beq g 25 with
  | true => VT25 f (C g args m K) args m K
  | false => C g args m K
set_option maxRecDepth 100000 in
theorem T25_ok {C : CC} (hC : CallsOk Try.prog C) : CallsOk Try.prog (T25 G25 C) := by
  intro g args m K E w cargs hS ha h
  unfold T25 at h
  split at h
  · rename_i hg
    obtain rfl := Nat.eq_of_beq_eq_true hg
    unfold VT25 at h
    replace h := seeNil_use h
    rcases h with h | ⟨rfl, h⟩
    · exact hC _ _ _ _ _ _ _ hS ha h
    replace h := seeNil_use h
    rcases h with h | ⟨rfl, h⟩
    · exact hC _ _ _ _ _ _ _ hS ha h
    exact cbody_use named C0_ok at25 (l := 0) rfl (LoopsOk.none _ _) (F25_ok   K) hS ha h
  · exact hC _ _ _ _ _ _ _ hS ha h
theorem at24 : Try.prog.funcs[24]? = some (fnOf Try.prog 24) := by kernel_rfl
abbrev Y24 : Type := Int → (Prop) → Prop
set_option maxHeartbeats 4000000 in
set_option maxRecDepth 100000 in
def F24  (a : Int) (k1 : Prop) : Prop :=
  (k1)
theorem F24_ok  (a : Int) (K : V → Mem → Prop) : cbody Try.prog C0 (fun _ => none) 1000 (fnOf Try.prog 24) [(.I .i64 a)] [] K =
    F24  a (K (.I .i64 a) []) := by kernel_rfl
def G24 : Y24 := F24 
def VT24 (f : Y24) (F : Prop) (args : List V) (m : Mem) (K : V → Mem → Prop) : Prop :=
  (seeCons args F fun a1 q2 => (seeI .i64 a1 F fun a => (seeNil q2 F (seeNil m F (f a (K (.I .i64 a) []))))))
def T24 (f : Y24) (C : CC) : CC := fun g args m K =>
  match Nat.beq g 24 with
  | true => VT24 f (C g args m K) args m K
  | false => C g args m K
set_option maxRecDepth 100000 in
theorem T24_ok {C : CC} (hC : CallsOk Try.prog C) : CallsOk Try.prog (T24 G24 C) := by
  intro g args m K E w cargs hS ha h
  unfold T24 at h
  split at h
  · rename_i hg
    obtain rfl := Nat.eq_of_beq_eq_true hg
    unfold VT24 at h
    replace h := seeCons_use h
    rcases h with h | ⟨a1, q2, rfl, h⟩
    · exact hC _ _ _ _ _ _ _ hS ha h
    replace h := seeI_use h
    rcases h with h | ⟨a, rfl, h⟩
    · exact hC _ _ _ _ _ _ _ hS ha h
    replace h := seeNil_use h
    rcases h with h | ⟨rfl, h⟩
    · exact hC _ _ _ _ _ _ _ hS ha h
    replace h := seeNil_use h
    rcases h with h | ⟨rfl, h⟩
    · exact hC _ _ _ _ _ _ _ hS ha h
    exact cbody_use named C0_ok at24 (l := 0) rfl (LoopsOk.none _ _) (F24_ok  a K) hS ha h
  · exact hC _ _ _ _ _ _ _ hS ha h
theorem at54 : Try.prog.funcs[54]? = some (fnOf Try.prog 54) := by kernel_rfl
abbrev Y54 : Type := Int → (List Int → Prop) → (List Int → Prop) → (List Int → Prop) → (List Int → Prop) → (List Int → Prop) → (List Int → Prop) → (List Int → Prop) → Prop
set_option maxHeartbeats 4000000 in
set_option maxRecDepth 100000 in
def F54  (t : Int) (k1 : List Int → Prop) (k2 : List Int → Prop) (k3 : List Int → Prop) (k4 : List Int → Prop) (k5 : List Int → Prop) (k6 : List Int → Prop) (k7 : List Int → Prop) : Prop :=
  (bif (decide (t < (0 : Int))) then (k1 ([] : List Int)) else (bif (decide (t ≥ (64 : Int))) then (k1 ([] : List Int)) else (bif (t == (63 : Int)) then (k1 ([] : List Int)) else (bif (t == (62 : Int)) then (k1 ([] : List Int)) else (bif (t == (61 : Int)) then (k1 ([] : List Int)) else (bif (t == (60 : Int)) then (k1 ([] : List Int)) else (bif (t == (59 : Int)) then (k1 ([] : List Int)) else (bif (t == (58 : Int)) then (k1 ([] : List Int)) else (bif (t == (57 : Int)) then (k1 ([] : List Int)) else (bif (t == (56 : Int)) then (k1 ([] : List Int)) else (bif (t == (55 : Int)) then (k1 ([] : List Int)) else (bif (t == (54 : Int)) then (k1 ([] : List Int)) else (bif (t == (53 : Int)) then (k1 ([] : List Int)) else (bif (t == (52 : Int)) then (k1 ([] : List Int)) else (bif (t == (51 : Int)) then (k1 ([] : List Int)) else (bif (t == (50 : Int)) then (k1 ([] : List Int)) else (bif (t == (49 : Int)) then (k1 ([] : List Int)) else (bif (t == (48 : Int)) then (k1 ([] : List Int)) else (bif (t == (47 : Int)) then (k1 ([] : List Int)) else (bif (t == (46 : Int)) then (k1 ([] : List Int)) else (bif (t == (45 : Int)) then (k1 ([] : List Int)) else (bif (t == (44 : Int)) then (k1 ([] : List Int)) else (bif (t == (43 : Int)) then (k1 ([] : List Int)) else (bif (t == (42 : Int)) then (k1 ([] : List Int)) else (bif (t == (41 : Int)) then (k1 ([] : List Int)) else (bif (t == (40 : Int)) then (k1 ([] : List Int)) else (bif (t == (39 : Int)) then (k1 ([] : List Int)) else (bif (t == (38 : Int)) then (k1 ([] : List Int)) else (bif (t == (37 : Int)) then (k1 ([(73 : Int), (82 : Int), (69 : Int), (76 : Int), (65 : Int), (84 : Int), (73 : Int), (86 : Int), (69 : Int)] : List Int)) else (bif (t == (36 : Int)) then (k1 ([] : List Int)) else (bif (t == (35 : Int)) then (k1 ([] : List Int)) else (bif (t == (34 : Int)) then (k1 ([] : List Int)) else (bif (t == (33 : Int)) then (k1 ([] : List Int)) else (bif (t == (32 : Int)) then (k1 ([] : List Int)) else (bif (t == (31 : Int)) then (k1 ([] : List Int)) else (bif (t == (30 : Int)) then (k1 ([] : List Int)) else (bif (t == (29 : Int)) then (k1 ([] : List Int)) else (bif (t == (28 : Int)) then (k1 ([] : List Int)) else (bif (t == (27 : Int)) then (k1 ([] : List Int)) else (bif (t == (26 : Int)) then (k1 ([] : List Int)) else (bif (t == (25 : Int)) then (k1 ([] : List Int)) else (bif (t == (24 : Int)) then (k1 ([] : List Int)) else (bif (t == (23 : Int)) then (k2 ([(84 : Int), (80 : Int), (79 : Int), (70 : Int), (70 : Int), (51 : Int), (50 : Int)] : List Int)) else (bif (t == (22 : Int)) then (k3 ([(71 : Int), (79 : Int), (84 : Int), (84 : Int), (80 : Int), (79 : Int), (70 : Int), (70 : Int)] : List Int)) else (bif (t == (21 : Int)) then (k2 ([(68 : Int), (84 : Int), (80 : Int), (79 : Int), (70 : Int), (70 : Int), (51 : Int), (50 : Int)] : List Int)) else (bif (t == (20 : Int)) then (k1 ([(84 : Int), (76 : Int), (83 : Int), (76 : Int), (68 : Int)] : List Int)) else (bif (t == (19 : Int)) then (k1 ([(84 : Int), (76 : Int), (83 : Int), (71 : Int), (68 : Int)] : List Int)) else (bif (t == (18 : Int)) then (k1 ([] : List Int)) else (bif (t == (17 : Int)) then (k1 ([] : List Int)) else (bif (t == (16 : Int)) then (k1 ([] : List Int)) else (bif (t == (15 : Int)) then (k1 ([] : List Int)) else (bif (t == (14 : Int)) then (k1 ([] : List Int)) else (bif (t == (13 : Int)) then (k1 ([] : List Int)) else (bif (t == (12 : Int)) then (k1 ([] : List Int)) else (bif (t == (11 : Int)) then (k4 ([(51 : Int), (50 : Int), (83 : Int)] : List Int)) else (bif (t == (10 : Int)) then (k5 ([(51 : Int), (50 : Int)] : List Int)) else (bif (t == (9 : Int)) then (k3 ([(71 : Int), (79 : Int), (84 : Int), (80 : Int), (67 : Int), (82 : Int), (69 : Int), (76 : Int)] : List Int)) else (bif (t == (8 : Int)) then (k1 ([(82 : Int), (69 : Int), (76 : Int), (65 : Int), (84 : Int), (73 : Int), (86 : Int), (69 : Int)] : List Int)) else (bif (t == (7 : Int)) then (k1 ([] : List Int)) else (bif (t == (6 : Int)) then (k1 ([(71 : Int), (76 : Int), (79 : Int), (66 : Int), (95 : Int), (68 : Int), (65 : Int), (84 : Int)] : List Int)) else (bif (t == (5 : Int)) then (k1 ([] : List Int)) else (bif (t == (4 : Int)) then (k6 ([(80 : Int), (76 : Int), (84 : Int), (51 : Int), (50 : Int)] : List Int)) else (bif (t == (3 : Int)) then (k1 ([] : List Int)) else (bif (t == (2 : Int)) then (k6 ([(80 : Int), (67 : Int), (51 : Int), (50 : Int)] : List Int)) else (bif (t == (1 : Int)) then (k7 ([(54 : Int), (52 : Int)] : List Int)) else (bif (t == (0 : Int)) then (k1 ([(78 : Int), (79 : Int), (78 : Int), (69 : Int)] : List Int)) else False))))))))))))))))))))))))))))))))))))))))))))))))))))))))))))))))))
theorem F54_ok  (t : Int) (K : V → Mem → Prop) : cbody Try.prog C0 (fun _ => none) 1000 (fnOf Try.prog 54) [(.I .i64 t)] [] K =
    F54  t (fun (u0 : List Int) => K (.tup [(.agg [(.S u0), (.I .i64 (0 : Int)), .nilf, .nilf]), (.B false)]) []) (fun (u0 : List Int) => K (.tup [(.agg [(.S u0), (.I .i64 (4 : Int)), (.fn (.func 91) [] []), (.fn (.func 88) [] [])]), (.B true)]) []) (fun (u0 : List Int) => K (.tup [(.agg [(.S u0), (.I .i64 (4 : Int)), (.fn (.func 90) [] []), (.fn (.func 88) [] [])]), (.B true)]) []) (fun (u0 : List Int) => K (.tup [(.agg [(.S u0), (.I .i64 (4 : Int)), (.fn (.func 85) [] []), (.fn (.func 88) [] [])]), (.B true)]) []) (fun (u0 : List Int) => K (.tup [(.agg [(.S u0), (.I .i64 (4 : Int)), (.fn (.func 85) [] []), (.fn (.func 89) [] [])]), (.B true)]) []) (fun (u0 : List Int) => K (.tup [(.agg [(.S u0), (.I .i64 (4 : Int)), (.fn (.func 87) [] []), (.fn (.func 88) [] [])]), (.B true)]) []) (fun (u0 : List Int) => K (.tup [(.agg [(.S u0), (.I .i64 (8 : Int)), (.fn (.func 85) [] []), (.fn (.func 86) [] [])]), (.B true)]) []) := by kernel_rfl
def G54 : Y54 := F54 
def VT54 (f : Y54) (F : Prop) (args : List V) (m : Mem) (K : V → Mem → Prop) : Prop :=
  (seeCons args F fun a1 q2 => (seeI .i64 a1 F fun t => (seeNil q2 F (seeNil m F (f t (fun (u0 : List Int) => K (.tup [(.agg [(.S u0), (.I .i64 (0 : Int)), .nilf, .nilf]), (.B false)]) []) (fun (u0 : List Int) => K (.tup [(.agg [(.S u0), (.I .i64 (4 : Int)), (.fn (.func 91) [] []), (.fn (.func 88) [] [])]), (.B true)]) []) (fun (u0 : List Int) => K (.tup [(.agg [(.S u0), (.I .i64 (4 : Int)), (.fn (.func 90) [] []), (.fn (.func 88) [] [])]), (.B true)]) []) (fun (u0 : List Int) => K (.tup [(.agg [(.S u0), (.I .i64 (4 : Int)), (.fn (.func 85) [] []), (.fn (.func 88) [] [])]), (.B true)]) []) (fun (u0 : List Int) => K (.tup [(.agg [(.S u0), (.I .i64 (4 : Int)), (.fn (.func 85) [] []), (.fn (.func 89) [] [])]), (.B true)]) []) (fun (u0 : List Int) => K (.tup [(.agg [(.S u0), (.I .i64 (4 : Int)), (.fn (.func 87) [] []), (.fn (.func 88) [] [])]), (.B true)]) []) (fun (u0 : List Int) => K (.tup [(.agg [(.S u0), (.I .i64 (8 : Int)), (.fn (.func 85) [] []), (.fn (.func 86) [] [])]), (.B true)]) []))))))
def T54 (f : Y54) (C : CC) : CC := fun g args m K =>
  match Nat.beq g 54 with
  | true => VT54 f (C g args m K) args m K
  | false => C g args m K
set_option maxRecDepth 100000 in
theorem T54_ok {C : CC} (hC : CallsOk Try.prog C) : CallsOk Try.prog (T54 G54 C) := by
  intro g args m K E w cargs hS ha h
  unfold T54 at h
  split at h
  · rename_i hg
    obtain rfl := Nat.eq_of_beq_eq_true hg
    unfold VT54 at h
    replace h := seeCons_use h
    rcases h with h | ⟨a1, q2, rfl, h⟩
    · exact hC _ _ _ _ _ _ _ hS ha h
    replace h := seeI_use h
    rcases h with h | ⟨t, rfl, h⟩
    · exact hC _ _ _ _ _ _ _ hS ha h
    replace h := seeNil_use h
    rcases h with h | ⟨rfl, h⟩
    · exact hC _ _ _ _ _ _ _ hS ha h
    replace h := seeNil_use h
    rcases h with h | ⟨rfl, h⟩
    · exact hC _ _ _ _ _ _ _ hS ha h
    exact cbody_use named C0_ok at54 (l := 0) rfl (LoopsOk.none _ _) (F54_ok  t K) hS ha h
  · exact hC _ _ _ _ _ _ _ hS ha h
theorem at23 : Try.prog.funcs[23]? = some (fnOf Try.prog 23) := by kernel_rfl
abbrev Y23 : Type := Int → Int → Int → Int → Int → Int → (Int → Int → Prop) → Prop
set_option maxHeartbeats 4000000 in
set_option maxRecDepth 100000 in
def F23 (f54 : Y54) (t : Int) (ps : Int) (pad : Int) (pp : Int) (pg : Int) (ptp : Int) (k1 : Int → Int → Prop) : Prop :=
  (f54 t (fun (xs1 : List Int) => (k1 (0 : Int) (200 : Int))) (fun (xs2 : List Int) => (bif (decide (ps < (-1152921504606846976 : Int))) then (k1 (0 : Int) (11 : Int)) else (bif (decide (ps > (1152921504606846976 : Int))) then (k1 (0 : Int) (11 : Int)) else (bif (decide (pad < (-1152921504606846976 : Int))) then (k1 (0 : Int) (11 : Int)) else (bif (decide (pad > (1152921504606846976 : Int))) then (k1 (0 : Int) (11 : Int)) else (bif (decide (pp < (-1152921504606846976 : Int))) then (k1 (0 : Int) (11 : Int)) else (bif (decide (pp > (1152921504606846976 : Int))) then (k1 (0 : Int) (11 : Int)) else (bif (decide (pg < (-1152921504606846976 : Int))) then (k1 (0 : Int) (11 : Int)) else (bif (decide (pg > (1152921504606846976 : Int))) then (k1 (0 : Int) (11 : Int)) else (bif (decide (ptp < (-1152921504606846976 : Int))) then (k1 (0 : Int) (11 : Int)) else (bif (decide (ptp > (1152921504606846976 : Int))) then (k1 (0 : Int) (11 : Int)) else (k1 (IntKind.wrap .i64 ((IntKind.wrap .i64 (ps + pad)) - ptp)) (0 : Int))))))))))))) (fun (xs3 : List Int) => (bif (decide (ps < (-1152921504606846976 : Int))) then (k1 (0 : Int) (11 : Int)) else (bif (decide (ps > (1152921504606846976 : Int))) then (k1 (0 : Int) (11 : Int)) else (bif (decide (pad < (-1152921504606846976 : Int))) then (k1 (0 : Int) (11 : Int)) else (bif (decide (pad > (1152921504606846976 : Int))) then (k1 (0 : Int) (11 : Int)) else (bif (decide (pp < (-1152921504606846976 : Int))) then (k1 (0 : Int) (11 : Int)) else (bif (decide (pp > (1152921504606846976 : Int))) then (k1 (0 : Int) (11 : Int)) else (bif (decide (pg < (-1152921504606846976 : Int))) then (k1 (0 : Int) (11 : Int)) else (bif (decide (pg > (1152921504606846976 : Int))) then (k1 (0 : Int) (11 : Int)) else (bif (decide (ptp < (-1152921504606846976 : Int))) then (k1 (0 : Int) (11 : Int)) else (bif (decide (ptp > (1152921504606846976 : Int))) then (k1 (0 : Int) (11 : Int)) else (k1 (IntKind.wrap .i64 ((IntKind.wrap .i64 (pg + pad)) - pp)) (0 : Int))))))))))))) (fun (xs4 : List Int) => (bif (decide (ps < (-1152921504606846976 : Int))) then (k1 (0 : Int) (11 : Int)) else (bif (decide (ps > (1152921504606846976 : Int))) then (k1 (0 : Int) (11 : Int)) else (bif (decide (pad < (-1152921504606846976 : Int))) then (k1 (0 : Int) (11 : Int)) else (bif (decide (pad > (1152921504606846976 : Int))) then (k1 (0 : Int) (11 : Int)) else (bif (decide (pp < (-1152921504606846976 : Int))) then (k1 (0 : Int) (11 : Int)) else (bif (decide (pp > (1152921504606846976 : Int))) then (k1 (0 : Int) (11 : Int)) else (bif (decide (pg < (-1152921504606846976 : Int))) then (k1 (0 : Int) (11 : Int)) else (bif (decide (pg > (1152921504606846976 : Int))) then (k1 (0 : Int) (11 : Int)) else (bif (decide (ptp < (-1152921504606846976 : Int))) then (k1 (0 : Int) (11 : Int)) else (bif (decide (ptp > (1152921504606846976 : Int))) then (k1 (0 : Int) (11 : Int)) else (k1 (IntKind.wrap .i64 (ps + pad)) (0 : Int))))))))))))) (fun (xs5 : List Int) => (bif (decide (ps < (-1152921504606846976 : Int))) then (k1 (0 : Int) (11 : Int)) else (bif (decide (ps > (1152921504606846976 : Int))) then (k1 (0 : Int) (11 : Int)) else (bif (decide (pad < (-1152921504606846976 : Int))) then (k1 (0 : Int) (11 : Int)) else (bif (decide (pad > (1152921504606846976 : Int))) then (k1 (0 : Int) (11 : Int)) else (bif (decide (pp < (-1152921504606846976 : Int))) then (k1 (0 : Int) (11 : Int)) else (bif (decide (pp > (1152921504606846976 : Int))) then (k1 (0 : Int) (11 : Int)) else (bif (decide (pg < (-1152921504606846976 : Int))) then (k1 (0 : Int) (11 : Int)) else (bif (decide (pg > (1152921504606846976 : Int))) then (k1 (0 : Int) (11 : Int)) else (bif (decide (ptp < (-1152921504606846976 : Int))) then (k1 (0 : Int) (11 : Int)) else (bif (decide (ptp > (1152921504606846976 : Int))) then (k1 (0 : Int) (11 : Int)) else (k1 (IntKind.wrap .i64 (ps + pad)) (0 : Int))))))))))))) (fun (xs6 : List Int) => (bif (decide (ps < (-1152921504606846976 : Int))) then (k1 (0 : Int) (11 : Int)) else (bif (decide (ps > (1152921504606846976 : Int))) then (k1 (0 : Int) (11 : Int)) else (bif (decide (pad < (-1152921504606846976 : Int))) then (k1 (0 : Int) (11 : Int)) else (bif (decide (pad > (1152921504606846976 : Int))) then (k1 (0 : Int) (11 : Int)) else (bif (decide (pp < (-1152921504606846976 : Int))) then (k1 (0 : Int) (11 : Int)) else (bif (decide (pp > (1152921504606846976 : Int))) then (k1 (0 : Int) (11 : Int)) else (bif (decide (pg < (-1152921504606846976 : Int))) then (k1 (0 : Int) (11 : Int)) else (bif (decide (pg > (1152921504606846976 : Int))) then (k1 (0 : Int) (11 : Int)) else (bif (decide (ptp < (-1152921504606846976 : Int))) then (k1 (0 : Int) (11 : Int)) else (bif (decide (ptp > (1152921504606846976 : Int))) then (k1 (0 : Int) (11 : Int)) else (k1 (IntKind.wrap .i64 ((IntKind.wrap .i64 (ps + pad)) - pp)) (0 : Int))))))))))))) (fun (xs7 : List Int) => (bif (decide (ps < (-1152921504606846976 : Int))) then (k1 (0 : Int) (11 : Int)) else (bif (decide (ps > (1152921504606846976 : Int))) then (k1 (0 : Int) (11 : Int)) else (bif (decide (pad < (-1152921504606846976 : Int))) then (k1 (0 : Int) (11 : Int)) else (bif (decide (pad > (1152921504606846976 : Int))) then (k1 (0 : Int) (11 : Int)) else (bif (decide (pp < (-1152921504606846976 : Int))) then (k1 (0 : Int) (11 : Int)) else (bif (decide (pp > (1152921504606846976 : Int))) then (k1 (0 : Int) (11 : Int)) else (bif (decide (pg < (-1152921504606846976 : Int))) then (k1 (0 : Int) (11 : Int)) else (bif (decide (pg > (1152921504606846976 : Int))) then (k1 (0 : Int) (11 : Int)) else (bif (decide (ptp < (-1152921504606846976 : Int))) then (k1 (0 : Int) (11 : Int)) else (bif (decide (ptp > (1152921504606846976 : Int))) then (k1 (0 : Int) (11 : Int)) else (k1 (IntKind.wrap .i64 (ps + pad)) (0 : Int))))))))))))))
theorem F23_ok (f54 : Y54) (t : Int) (ps : Int) (pad : Int) (pp : Int) (pg : Int) (ptp : Int) (K : V → Mem → Prop) : cbody Try.prog (T54 f54 C0) (fun _ => none) 1000 (fnOf Try.prog 23) [(.I .i64 t), (.agg [(.I .i64 ps), (.I .i64 pad), (.I .i64 pp), (.I .i64 pg), (.I .i64 ptp)])] [] K =
    F23 f54 t ps pad pp pg ptp (fun (u0 : Int) (u1 : Int) => K (.tup [(.I .i64 u0), (.I .i64 u1)]) []) := by kernel_rfl
def G23 : Y23 := F23 G54
def VT23 (f : Y23) (F : Prop) (args : List V) (m : Mem) (K : V → Mem → Prop) : Prop :=
  (seeCons args F fun a1 q2 => (seeI .i64 a1 F fun t => (seeCons q2 F fun a3 q4 => (seeAgg a3 F fun vs5 => (seeCons vs5 F fun a6 q7 => (seeI .i64 a6 F fun ps => (seeCons q7 F fun a8 q9 => (seeI .i64 a8 F fun pad => (seeCons q9 F fun a10 q11 => (seeI .i64 a10 F fun pp => (seeCons q11 F fun a12 q13 => (seeI .i64 a12 F fun pg => (seeCons q13 F fun a14 q15 => (seeI .i64 a14 F fun ptp => (seeNil q15 F (seeNil q4 F (seeNil m F (f t ps pad pp pg ptp (fun (u0 : Int) (u1 : Int) => K (.tup [(.I .i64 u0), (.I .i64 u1)]) [])))))))))))))))))))
def T23 (f : Y23) (C : CC) : CC := fun g args m K =>
  match Nat.beq g 23 with
  | true => VT23 f (C g args m K) args m K
  | false => C g args m K
set_option maxRecDepth 100000 in
theorem T23_ok {C : CC} (hC : CallsOk Try.prog C) : CallsOk Try.prog (T23 G23 C) := by
  intro g args m K E w cargs hS ha h
  unfold T23 at h
  split at h
  · rename_i hg
    obtain rfl := Nat.eq_of_beq_eq_true hg
    unfold VT23 at h
    replace h := seeCons_use h
    rcases h with h | ⟨a1, q2, rfl, h⟩
    · exact hC _ _ _ _ _ _ _ hS ha h
    replace h := seeI_use h
    rcases h with h | ⟨t, rfl, h⟩
    · exact hC _ _ _ _ _ _ _ hS ha h
    replace h := seeCons_use h
    rcases h with h | ⟨a3, q4, rfl, h⟩
    · exact hC _ _ _ _ _ _ _ hS ha h
    replace h := seeAgg_use h
    rcases h with h | ⟨vs5, rfl, h⟩
    · exact hC _ _ _ _ _ _ _ hS ha h
    replace h := seeCons_use h
    rcases h with h | ⟨a6, q7, rfl, h⟩
    · exact hC _ _ _ _ _ _ _ hS ha h
    replace h := seeI_use h
    rcases h with h | ⟨ps, rfl, h⟩
    · exact hC _ _ _ _ _ _ _ hS ha h
    replace h := seeCons_use h
    rcases h with h | ⟨a8, q9, rfl, h⟩
    · exact hC _ _ _ _ _ _ _ hS ha h
    replace h := seeI_use h
    rcases h with h | ⟨pad, rfl, h⟩
    · exact hC _ _ _ _ _ _ _ hS ha h
    replace h := seeCons_use h
    rcases h with h | ⟨a10, q11, rfl, h⟩
    · exact hC _ _ _ _ _ _ _ hS ha h
    replace h := seeI_use h
    rcases h with h | ⟨pp, rfl, h⟩
    · exact hC _ _ _ _ _ _ _ hS ha h
    replace h := seeCons_use h
    rcases h with h | ⟨a12, q13, rfl, h⟩
    · exact hC _ _ _ _ _ _ _ hS ha h
    replace h := seeI_use h
    rcases h with h | ⟨pg, rfl, h⟩
    · exact hC _ _ _ _ _ _ _ hS ha h
    replace h := seeCons_use h
    rcases h with h | ⟨a14, q15, rfl, h⟩
    · exact hC _ _ _ _ _ _ _ hS ha h
    replace h := seeI_use h
    rcases h with h | ⟨ptp, rfl, h⟩
    · exact hC _ _ _ _ _ _ _ hS ha h
    replace h := seeNil_use h
    rcases h with h | ⟨rfl, h⟩
    · exact hC _ _ _ _ _ _ _ hS ha h
    replace h := seeNil_use h
    rcases h with h | ⟨rfl, h⟩
    · exact hC _ _ _ _ _ _ _ hS ha h
    replace h := seeNil_use h
    rcases h with h | ⟨rfl, h⟩
    · exact hC _ _ _ _ _ _ _ hS ha h
    exact cbody_use named (T54_ok C0_ok) at23 (l := 0) rfl (LoopsOk.none _ _) (F23_ok G54 t ps pad pp pg ptp K) hS ha h
  · exact hC _ _ _ _ _ _ _ hS ha h
theorem at28 : Try.prog.funcs[28]? = some (fnOf Try.prog 28) := by kernel_rfl
abbrev Y28 : Type := Int → Int → Int → Int → Int → (Prop) → Prop
set_option maxHeartbeats 4000000 in
set_option maxRecDepth 100000 in
def F28  (ps : Int) (pad : Int) (pp : Int) (pg : Int) (ptp : Int) (k1 : Prop) : Prop :=
  (k1)
theorem F28_ok  (ps : Int) (pad : Int) (pp : Int) (pg : Int) (ptp : Int) (K : V → Mem → Prop) : cbody Try.prog C0 (fun _ => none) 1000 (fnOf Try.prog 28) [(.agg [(.I .i64 ps), (.I .i64 pad), (.I .i64 pp), (.I .i64 pg), (.I .i64 ptp)])] [] K =
    F28  ps pad pp pg ptp (K (.agg [(.I .i64 ps), (.I .i64 pad), (.I .i64 pp), (.I .i64 pg), (.I .i64 ptp)]) []) := by kernel_rfl
def G28 : Y28 := F28 
def VT28 (f : Y28) (F : Prop) (args : List V) (m : Mem) (K : V → Mem → Prop) : Prop :=
  (seeCons args F fun a1 q2 => (seeAgg a1 F fun vs3 => (seeCons vs3 F fun a4 q5 => (seeI .i64 a4 F fun ps => (seeCons q5 F fun a6 q7 => (seeI .i64 a6 F fun pad => (seeCons q7 F fun a8 q9 => (seeI .i64 a8 F fun pp => (seeCons q9 F fun a10 q11 => (seeI .i64 a10 F fun pg => (seeCons q11 F fun a12 q13 => (seeI .i64 a12 F fun ptp => (seeNil q13 F (seeNil q2 F (seeNil m F (f ps pad pp pg ptp (K (.agg [(.I .i64 ps), (.I .i64 pad), (.I .i64 pp), (.I .i64 pg), (.I .i64 ptp)]) [])))))))))))))))))
def T28 (f : Y28) (C : CC) : CC := fun g args m K =>
  match Nat.beq g 28 with
  | true => VT28 f (C g args m K) args m K
  | false => C g args m K
set_option maxRecDepth 100000 in
theorem T28_ok {C : CC} (hC : CallsOk Try.prog C) : CallsOk Try.prog (T28 G28 C) := by
  intro g args m K E w cargs hS ha h
  unfold T28 at h
  split at h
  · rename_i hg
    obtain rfl := Nat.eq_of_beq_eq_true hg
    unfold VT28 at h
    replace h := seeCons_use h
    rcases h with h | ⟨a1, q2, rfl, h⟩
    · exact hC _ _ _ _ _ _ _ hS ha h
    replace h := seeAgg_use h
    rcases h with h | ⟨vs3, rfl, h⟩
    · exact hC _ _ _ _ _ _ _ hS ha h
    replace h := seeCons_use h
    rcases h with h | ⟨a4, q5, rfl, h⟩
    · exact hC _ _ _ _ _ _ _ hS ha h
    replace h := seeI_use h
    rcases h with h | ⟨ps, rfl, h⟩
    · exact hC _ _ _ _ _ _ _ hS ha h
    replace h := seeCons_use h
    rcases h with h | ⟨a6, q7, rfl, h⟩
    · exact hC _ _ _ _ _ _ _ hS ha h
    replace h := seeI_use h
    rcases h with h | ⟨pad, rfl, h⟩
    · exact hC _ _ _ _ _ _ _ hS ha h
    replace h := seeCons_use h
    rcases h with h | ⟨a8, q9, rfl, h⟩
    · exact hC _ _ _ _ _ _ _ hS ha h
    replace h := seeI_use h
    rcases h with h | ⟨pp, rfl, h⟩
    · exact hC _ _ _ _ _ _ _ hS ha h
    replace h := seeCons_use h
    rcases h with h | ⟨a10, q11, rfl, h⟩
    · exact hC _ _ _ _ _ _ _ hS ha h
    replace h := seeI_use h
    rcases h with h | ⟨pg, rfl, h⟩
    · exact hC _ _ _ _ _ _ _ hS ha h
    replace h := seeCons_use h
    rcases h with h | ⟨a12, q13, rfl, h⟩
    · exact hC _ _ _ _ _ _ _ hS ha h
    replace h := seeI_use h
    rcases h with h | ⟨ptp, rfl, h⟩
    · exact hC _ _ _ _ _ _ _ hS ha h
    replace h := seeNil_use h
    rcases h with h | ⟨rfl, h⟩
    · exact hC _ _ _ _ _ _ _ hS ha h
    replace h := seeNil_use h
    rcases h with h | ⟨rfl, h⟩
    · exact hC _ _ _ _ _ _ _ hS ha h
    replace h := seeNil_use h
    rcases h with h | ⟨rfl, h⟩
    · exact hC _ _ _ _ _ _ _ hS ha h
    exact cbody_use named C0_ok at28 (l := 0) rfl (LoopsOk.none _ _) (F28_ok  ps pad pp pg ptp K) hS ha h
  · exact hC _ _ _ _ _ _ _ hS ha h
theorem at31 : Try.prog.funcs[31]? = some (fnOf Try.prog 31) := by kernel_rfl
abbrev Y31 : Type := Int → (Int → Int → Prop) → Prop
set_option maxHeartbeats 4000000 in
set_option maxRecDepth 100000 in
def F31 (f54 : Y54) (t : Int) (k1 : Int → Int → Prop) : Prop :=
  (f54 t (fun (xs1 : List Int) => (k1 (0 : Int) (200 : Int))) (fun (xs2 : List Int) => (k1 (4 : Int) (0 : Int))) (fun (xs3 : List Int) => (k1 (4 : Int) (0 : Int))) (fun (xs4 : List Int) => (k1 (4 : Int) (0 : Int))) (fun (xs5 : List Int) => (k1 (4 : Int) (0 : Int))) (fun (xs6 : List Int) => (k1 (4 : Int) (0 : Int))) (fun (xs7 : List Int) => (k1 (8 : Int) (0 : Int))))
theorem F31_ok (f54 : Y54) (t : Int) (K : V → Mem → Prop) : cbody Try.prog (T54 f54 C0) (fun _ => none) 1000 (fnOf Try.prog 31) [(.I .i64 t)] [] K =
    F31 f54 t (fun (u0 : Int) (u1 : Int) => K (.tup [(.I .i64 u0), (.I .i64 u1)]) []) := by kernel_rfl
def G31 : Y31 := F31 G54
def VT31 (f : Y31) (F : Prop) (args : List V) (m : Mem) (K : V → Mem → Prop) : Prop :=
  (seeCons args F fun a1 q2 => (seeI .i64 a1 F fun t => (seeNil q2 F (seeNil m F (f t (fun (u0 : Int) (u1 : Int) => K (.tup [(.I .i64 u0), (.I .i64 u1)]) []))))))
def T31 (f : Y31) (C : CC) : CC := fun g args m K =>
  match Nat.beq g 31 with
  | true => VT31 f (C g args m K) args m K
  | false => C g args m K
set_option maxRecDepth 100000 in
theorem T31_ok {C : CC} (hC : CallsOk Try.prog C) : CallsOk Try.prog (T31 G31 C) := by
  intro g args m K E w cargs hS ha h
  unfold T31 at h
  split at h
  · rename_i hg
    obtain rfl := Nat.eq_of_beq_eq_true hg
    unfold VT31 at h
    replace h := seeCons_use h
    rcases h with h | ⟨a1, q2, rfl, h⟩
    · exact hC _ _ _ _ _ _ _ hS ha h
    replace h := seeI_use h
    rcases h with h | ⟨t, rfl, h⟩
    · exact hC _ _ _ _ _ _ _ hS ha h
    replace h := seeNil_use h
    rcases h with h | ⟨rfl, h⟩
    · exact hC _ _ _ _ _ _ _ hS ha h
    replace h := seeNil_use h
    rcases h with h | ⟨rfl, h⟩
    · exact hC _ _ _ _ _ _ _ hS ha h
    exact cbody_use named (T54_ok C0_ok) at31 (l := 0) rfl (LoopsOk.none _ _) (F31_ok G54 t K) hS ha h
  · exact hC _ _ _ _ _ _ _ hS ha h
theorem at32 : Try.prog.funcs[32]? = some (fnOf Try.prog 32) := by kernel_rfl
abbrev Y32a : Type := Int → (Prop) → (Prop) → (Prop) → Prop
set_option maxHeartbeats 4000000 in
set_option maxRecDepth 100000 in
def F32a  (t : Int) (k1 : Prop) (k2 : Prop) (k3 : Prop) : Prop :=
  (bif (t == (1 : Int)) then (k1) else (bif (t == (2 : Int)) then (bif (t == (2 : Int)) then (k2) else (k3)) else (bif (t == (4 : Int)) then (bif (t == (4 : Int)) then (k2) else (k3)) else (bif (t == (10 : Int)) then (bif (t == (10 : Int)) then (k2) else (k3)) else (bif (t == (11 : Int)) then (bif (t == (11 : Int)) then (k2) else (k3)) else (bif (t == (9 : Int)) then (bif (t == (9 : Int)) then (k2) else (k3)) else (bif (t == (22 : Int)) then (bif (t == (22 : Int)) then (k2) else (k3)) else (bif (t == (23 : Int)) then (bif (t == (23 : Int)) then (k2) else (k3)) else (bif (t == (21 : Int)) then (k2) else (k3))))))))))
theorem F32a_ok  (t : Int) (K : V → Mem → Prop) : cbody Try.prog C0 (fun _ => none) 1000 (fnOf Try.prog 32) [(.I .i64 t)] [] K =
    F32a  t (K (.tup [(.I .i64 (8 : Int)), (.I .i64 (0 : Int))]) []) (K (.tup [(.I .i64 (4 : Int)), (.I .i64 (0 : Int))]) []) (K (.tup [(.I .i64 (0 : Int)), (.I .i64 (200 : Int))]) []) := by kernel_rfl
def G32a : Y32a := F32a 
def VT32a (f : Y32a) (F : Prop) (args : List V) (m : Mem) (K : V → Mem → Prop) : Prop :=
  (seeCons args F fun a1 q2 => (seeI .i64 a1 F fun t => (seeNil q2 F (seeNil m F (f t (K (.tup [(.I .i64 (8 : Int)), (.I .i64 (0 : Int))]) []) (K (.tup [(.I .i64 (4 : Int)), (.I .i64 (0 : Int))]) []) (K (.tup [(.I .i64 (0 : Int)), (.I .i64 (200 : Int))]) []))))))
def T32a (f : Y32a) (C : CC) : CC := fun g args m K =>
  match Nat.beq g 32 with
  | true => VT32a f (C g args m K) args m K
  | false => C g args m K
set_option maxRecDepth 100000 in
theorem T32a_ok {C : CC} (hC : CallsOk Try.prog C) : CallsOk Try.prog (T32a G32a C) := by
  intro g args m K E w cargs hS ha h
  unfold T32a at h
  split at h
  · rename_i hg
    obtain rfl := Nat.eq_of_beq_eq_true hg
    unfold VT32a at h
    replace h := seeCons_use h
    rcases h with h | ⟨a1, q2, rfl, h⟩
    · exact hC _ _ _ _ _ _ _ hS ha h
    replace h := seeI_use h
    rcases h with h | ⟨t, rfl, h⟩
    · exact hC _ _ _ _ _ _ _ hS ha h
    replace h := seeNil_use h
    rcases h with h | ⟨rfl, h⟩
    · exact hC _ _ _ _ _ _ _ hS ha h
    replace h := seeNil_use h
    rcases h with h | ⟨rfl, h⟩
    · exact hC _ _ _ _ _ _ _ hS ha h
    exact cbody_use named C0_ok at32 (l := 0) rfl (LoopsOk.none _ _) (F32a_ok  t K) hS ha h
  · exact hC _ _ _ _ _ _ _ hS ha h
theorem at33 : Try.prog.funcs[33]? = some (fnOf Try.prog 33) := by kernel_rfl
abbrev Y33 : Type := Int → Int → Int → Int → Int → Int → (Int → Int → Prop) → Prop
set_option maxHeartbeats 4000000 in
set_option maxRecDepth 100000 in
def F33 (f32a : Y32a) (t : Int) (ps : Int) (pad : Int) (pp : Int) (pg : Int) (ptp : Int) (k1 : Int → Int → Prop) : Prop :=
  (f32a t ((bif (decide (ps < (-1152921504606846976 : Int))) then (k1 (0 : Int) (11 : Int)) else (bif (decide (ps > (1152921504606846976 : Int))) then (k1 (0 : Int) (11 : Int)) else (bif (decide (pad < (-1152921504606846976 : Int))) then (k1 (0 : Int) (11 : Int)) else (bif (decide (pad > (1152921504606846976 : Int))) then (k1 (0 : Int) (11 : Int)) else (bif (decide (pp < (-1152921504606846976 : Int))) then (k1 (0 : Int) (11 : Int)) else (bif (decide (pp > (1152921504606846976 : Int))) then (k1 (0 : Int) (11 : Int)) else (bif (decide (pg < (-1152921504606846976 : Int))) then (k1 (0 : Int) (11 : Int)) else (bif (decide (pg > (1152921504606846976 : Int))) then (k1 (0 : Int) (11 : Int)) else (bif (decide (ptp < (-1152921504606846976 : Int))) then (k1 (0 : Int) (11 : Int)) else (bif (decide (ptp > (1152921504606846976 : Int))) then (k1 (0 : Int) (11 : Int)) else (bif (t == (2 : Int)) then (bif (t == (2 : Int)) then (k1 (IntKind.wrap .i64 ((IntKind.wrap .i64 (ps + pad)) - pp)) (0 : Int)) else (bif (t == (9 : Int)) then (bif (t == (9 : Int)) then (k1 (IntKind.wrap .i64 ((IntKind.wrap .i64 (pg + pad)) - pp)) (0 : Int)) else (bif (t == (23 : Int)) then (bif (t == (23 : Int)) then (k1 (IntKind.wrap .i64 ((IntKind.wrap .i64 (ps + pad)) - ptp)) (0 : Int)) else (k1 (IntKind.wrap .i64 (ps + pad)) (0 : Int))) else (bif (t == (21 : Int)) then (k1 (IntKind.wrap .i64 ((IntKind.wrap .i64 (ps + pad)) - ptp)) (0 : Int)) else (k1 (IntKind.wrap .i64 (ps + pad)) (0 : Int))))) else (bif (t == (22 : Int)) then (k1 (IntKind.wrap .i64 ((IntKind.wrap .i64 (pg + pad)) - pp)) (0 : Int)) else (bif (t == (23 : Int)) then (bif (t == (23 : Int)) then (k1 (IntKind.wrap .i64 ((IntKind.wrap .i64 (ps + pad)) - ptp)) (0 : Int)) else (k1 (IntKind.wrap .i64 (ps + pad)) (0 : Int))) else (bif (t == (21 : Int)) then (k1 (IntKind.wrap .i64 ((IntKind.wrap .i64 (ps + pad)) - ptp)) (0 : Int)) else (k1 (IntKind.wrap .i64 (ps + pad)) (0 : Int))))))) else (bif (t == (4 : Int)) then (k1 (IntKind.wrap .i64 ((IntKind.wrap .i64 (ps + pad)) - pp)) (0 : Int)) else (bif (t == (9 : Int)) then (bif (t == (9 : Int)) then (k1 (IntKind.wrap .i64 ((IntKind.wrap .i64 (pg + pad)) - pp)) (0 : Int)) else (bif (t == (23 : Int)) then (bif (t == (23 : Int)) then (k1 (IntKind.wrap .i64 ((IntKind.wrap .i64 (ps + pad)) - ptp)) (0 : Int)) else (k1 (IntKind.wrap .i64 (ps + pad)) (0 : Int))) else (bif (t == (21 : Int)) then (k1 (IntKind.wrap .i64 ((IntKind.wrap .i64 (ps + pad)) - ptp)) (0 : Int)) else (k1 (IntKind.wrap .i64 (ps + pad)) (0 : Int))))) else (bif (t == (22 : Int)) then (k1 (IntKind.wrap .i64 ((IntKind.wrap .i64 (pg + pad)) - pp)) (0 : Int)) else (bif (t == (23 : Int)) then (bif (t == (23 : Int)) then (k1 (IntKind.wrap .i64 ((IntKind.wrap .i64 (ps + pad)) - ptp)) (0 : Int)) else (k1 (IntKind.wrap .i64 (ps + pad)) (0 : Int))) else (bif (t == (21 : Int)) then (k1 (IntKind.wrap .i64 ((IntKind.wrap .i64 (ps + pad)) - ptp)) (0 : Int)) else (k1 (IntKind.wrap .i64 (ps + pad)) (0 : Int))))))))))))))))))) ((bif (decide (ps < (-1152921504606846976 : Int))) then (k1 (0 : Int) (11 : Int)) else (bif (decide (ps > (1152921504606846976 : Int))) then (k1 (0 : Int) (11 : Int)) else (bif (decide (pad < (-1152921504606846976 : Int))) then (k1 (0 : Int) (11 : Int)) else (bif (decide (pad > (1152921504606846976 : Int))) then (k1 (0 : Int) (11 : Int)) else (bif (decide (pp < (-1152921504606846976 : Int))) then (k1 (0 : Int) (11 : Int)) else (bif (decide (pp > (1152921504606846976 : Int))) then (k1 (0 : Int) (11 : Int)) else (bif (decide (pg < (-1152921504606846976 : Int))) then (k1 (0 : Int) (11 : Int)) else (bif (decide (pg > (1152921504606846976 : Int))) then (k1 (0 : Int) (11 : Int)) else (bif (decide (ptp < (-1152921504606846976 : Int))) then (k1 (0 : Int) (11 : Int)) else (bif (decide (ptp > (1152921504606846976 : Int))) then (k1 (0 : Int) (11 : Int)) else (bif (t == (2 : Int)) then (bif (t == (2 : Int)) then (k1 (IntKind.wrap .i64 ((IntKind.wrap .i64 (ps + pad)) - pp)) (0 : Int)) else (bif (t == (9 : Int)) then (bif (t == (9 : Int)) then (k1 (IntKind.wrap .i64 ((IntKind.wrap .i64 (pg + pad)) - pp)) (0 : Int)) else (bif (t == (23 : Int)) then (bif (t == (23 : Int)) then (k1 (IntKind.wrap .i64 ((IntKind.wrap .i64 (ps + pad)) - ptp)) (0 : Int)) else (k1 (IntKind.wrap .i64 (ps + pad)) (0 : Int))) else (bif (t == (21 : Int)) then (k1 (IntKind.wrap .i64 ((IntKind.wrap .i64 (ps + pad)) - ptp)) (0 : Int)) else (k1 (IntKind.wrap .i64 (ps + pad)) (0 : Int))))) else (bif (t == (22 : Int)) then (k1 (IntKind.wrap .i64 ((IntKind.wrap .i64 (pg + pad)) - pp)) (0 : Int)) else (bif (t == (23 : Int)) then (bif (t == (23 : Int)) then (k1 (IntKind.wrap .i64 ((IntKind.wrap .i64 (ps + pad)) - ptp)) (0 : Int)) else (k1 (IntKind.wrap .i64 (ps + pad)) (0 : Int))) else (bif (t == (21 : Int)) then (k1 (IntKind.wrap .i64 ((IntKind.wrap .i64 (ps + pad)) - ptp)) (0 : Int)) else (k1 (IntKind.wrap .i64 (ps + pad)) (0 : Int))))))) else (bif (t == (4 : Int)) then (k1 (IntKind.wrap .i64 ((IntKind.wrap .i64 (ps + pad)) - pp)) (0 : Int)) else (bif (t == (9 : Int)) then (bif (t == (9 : Int)) then (k1 (IntKind.wrap .i64 ((IntKind.wrap .i64 (pg + pad)) - pp)) (0 : Int)) else (bif (t == (23 : Int)) then (bif (t == (23 : Int)) then (k1 (IntKind.wrap .i64 ((IntKind.wrap .i64 (ps + pad)) - ptp)) (0 : Int)) else (k1 (IntKind.wrap .i64 (ps + pad)) (0 : Int))) else (bif (t == (21 : Int)) then (k1 (IntKind.wrap .i64 ((IntKind.wrap .i64 (ps + pad)) - ptp)) (0 : Int)) else (k1 (IntKind.wrap .i64 (ps + pad)) (0 : Int))))) else (bif (t == (22 : Int)) then (k1 (IntKind.wrap .i64 ((IntKind.wrap .i64 (pg + pad)) - pp)) (0 : Int)) else (bif (t == (23 : Int)) then (bif (t == (23 : Int)) then (k1 (IntKind.wrap .i64 ((IntKind.wrap .i64 (ps + pad)) - ptp)) (0 : Int)) else (k1 (IntKind.wrap .i64 (ps + pad)) (0 : Int))) else (bif (t == (21 : Int)) then (k1 (IntKind.wrap .i64 ((IntKind.wrap .i64 (ps + pad)) - ptp)) (0 : Int)) else (k1 (IntKind.wrap .i64 (ps + pad)) (0 : Int))))))))))))))))))) ((k1 (0 : Int) (200 : Int))))
theorem F33_ok (f32a : Y32a) (t : Int) (ps : Int) (pad : Int) (pp : Int) (pg : Int) (ptp : Int) (K : V → Mem → Prop) : cbody Try.prog (T32a f32a C0) (fun _ => none) 1000 (fnOf Try.prog 33) [(.I .i64 t), (.agg [(.I .i64 ps), (.I .i64 pad), (.I .i64 pp), (.I .i64 pg), (.I .i64 ptp)])] [] K =
    F33 f32a t ps pad pp pg ptp (fun (u0 : Int) (u1 : Int) => K (.tup [(.I .i64 u0), (.I .i64 u1)]) []) := by kernel_rfl
def G33 : Y33 := F33 G32a
def VT33 (f : Y33) (F : Prop) (args : List V) (m : Mem) (K : V → Mem → Prop) : Prop :=
  (seeCons args F fun a1 q2 => (seeI .i64 a1 F fun t => (seeCons q2 F fun a3 q4 => (seeAgg a3 F fun vs5 => (seeCons vs5 F fun a6 q7 => (seeI .i64 a6 F fun ps => (seeCons q7 F fun a8 q9 => (seeI .i64 a8 F fun pad => (seeCons q9 F fun a10 q11 => (seeI .i64 a10 F fun pp => (seeCons q11 F fun a12 q13 => (seeI .i64 a12 F fun pg => (seeCons q13 F fun a14 q15 => (seeI .i64 a14 F fun ptp => (seeNil q15 F (seeNil q4 F (seeNil m F (f t ps pad pp pg ptp (fun (u0 : Int) (u1 : Int) => K (.tup [(.I .i64 u0), (.I .i64 u1)]) [])))))))))))))))))))
def T33 (f : Y33) (C : CC) : CC := fun g args m K =>
  match Nat.beq g 33 with
  | true => VT33 f (C g args m K) args m K
  | false => C g args m K
set_option maxRecDepth 100000 in
theorem T33_ok {C : CC} (hC : CallsOk Try.prog C) : CallsOk Try.prog (T33 G33 C) := by
  intro g args m K E w cargs hS ha h
  unfold T33 at h
  split at h
  · rename_i hg
    obtain rfl := Nat.eq_of_beq_eq_true hg
    unfold VT33 at h
    replace h := seeCons_use h
    rcases h with h | ⟨a1, q2, rfl, h⟩
    · exact hC _ _ _ _ _ _ _ hS ha h
    replace h := seeI_use h
    rcases h with h | ⟨t, rfl, h⟩
    · exact hC _ _ _ _ _ _ _ hS ha h
    replace h := seeCons_use h
    rcases h with h | ⟨a3, q4, rfl, h⟩
    · exact hC _ _ _ _ _ _ _ hS ha h
    replace h := seeAgg_use h
    rcases h with h | ⟨vs5, rfl, h⟩
    · exact hC _ _ _ _ _ _ _ hS ha h
    replace h := seeCons_use h
    rcases h with h | ⟨a6, q7, rfl, h⟩
    · exact hC _ _ _ _ _ _ _ hS ha h
    replace h := seeI_use h
    rcases h with h | ⟨ps, rfl, h⟩
    · exact hC _ _ _ _ _ _ _ hS ha h
    replace h := seeCons_use h
    rcases h with h | ⟨a8, q9, rfl, h⟩
    · exact hC _ _ _ _ _ _ _ hS ha h
    replace h := seeI_use h
    rcases h with h | ⟨pad, rfl, h⟩
    · exact hC _ _ _ _ _ _ _ hS ha h
    replace h := seeCons_use h
    rcases h with h | ⟨a10, q11, rfl, h⟩
    · exact hC _ _ _ _ _ _ _ hS ha h
    replace h := seeI_use h
    rcases h with h | ⟨pp, rfl, h⟩
    · exact hC _ _ _ _ _ _ _ hS ha h
    replace h := seeCons_use h
    rcases h with h | ⟨a12, q13, rfl, h⟩
    · exact hC _ _ _ _ _ _ _ hS ha h
    replace h := seeI_use h
    rcases h with h | ⟨pg, rfl, h⟩
    · exact hC _ _ _ _ _ _ _ hS ha h
    replace h := seeCons_use h
    rcases h with h | ⟨a14, q15, rfl, h⟩
    · exact hC _ _ _ _ _ _ _ hS ha h
    replace h := seeI_use h
    rcases h with h | ⟨ptp, rfl, h⟩
    · exact hC _ _ _ _ _ _ _ hS ha h
    replace h := seeNil_use h
    rcases h with h | ⟨rfl, h⟩
    · exact hC _ _ _ _ _ _ _ hS ha h
    replace h := seeNil_use h
    rcases h with h | ⟨rfl, h⟩
    · exact hC _ _ _ _ _ _ _ hS ha h
    replace h := seeNil_use h
    rcases h with h | ⟨rfl, h⟩
    · exact hC _ _ _ _ _ _ _ hS ha h
    exact cbody_use named (T32a_ok C0_ok) at33 (l := 0) rfl (LoopsOk.none _ _) (F33_ok G32a t ps pad pp pg ptp K) hS ha h
  · exact hC _ _ _ _ _ _ _ hS ha h
theorem at35 : Try.prog.funcs[35]? = some (fnOf Try.prog 35) := by kernel_rfl
abbrev Y35 : Type := Int → Int → (Bool → Int → Prop) → Prop
set_option maxHeartbeats 4000000 in
set_option maxRecDepth 100000 in
def F35 (f32a : Y32a) (t : Int) (n : Int) (k1 : Bool → Int → Prop) : Prop :=
  (f32a t ((k1 true (0 : Int))) ((bif (t == (10 : Int)) then (bif (decide (n ≥ (0 : Int))) then (k1 (decide (n < (4294967296 : Int))) (0 : Int)) else (k1 false (0 : Int))) else (bif (decide (n ≥ (-2147483648 : Int))) then (k1 (decide (n < (2147483648 : Int))) (0 : Int)) else (k1 false (0 : Int))))) ((k1 false (200 : Int))))
theorem F35_ok (f32a : Y32a) (t : Int) (n : Int) (K : V → Mem → Prop) : cbody Try.prog (T32a f32a C0) (fun _ => none) 1000 (fnOf Try.prog 35) [(.I .i64 t), (.I .i64 n)] [] K =
    F35 f32a t n (fun (u0 : Bool) (u1 : Int) => K (.tup [(.B u0), (.I .i64 u1)]) []) := by kernel_rfl
def G35 : Y35 := F35 G32a
def VT35 (f : Y35) (F : Prop) (args : List V) (m : Mem) (K : V → Mem → Prop) : Prop :=
  (seeCons args F fun a1 q2 => (seeI .i64 a1 F fun t => (seeCons q2 F fun a3 q4 => (seeI .i64 a3 F fun n => (seeNil q4 F (seeNil m F (f t n (fun (u0 : Bool) (u1 : Int) => K (.tup [(.B u0), (.I .i64 u1)]) []))))))))
def T35 (f : Y35) (C : CC) : CC := fun g args m K =>
  match Nat.beq g 35 with
  | true => VT35 f (C g args m K) args m K
  | false => C g args m K
set_option maxRecDepth 100000 in
theorem T35_ok {C : CC} (hC : CallsOk Try.prog C) : CallsOk Try.prog (T35 G35 C) := by
  intro g args m K E w cargs hS ha h
  unfold T35 at h
  split at h
  · rename_i hg
    obtain rfl := Nat.eq_of_beq_eq_true hg
    unfold VT35 at h
    replace h := seeCons_use h
    rcases h with h | ⟨a1, q2, rfl, h⟩
    · exact hC _ _ _ _ _ _ _ hS ha h
    replace h := seeI_use h
    rcases h with h | ⟨t, rfl, h⟩
    · exact hC _ _ _ _ _ _ _ hS ha h
    replace h := seeCons_use h
    rcases h with h | ⟨a3, q4, rfl, h⟩
    · exact hC _ _ _ _ _ _ _ hS ha h
    replace h := seeI_use h
    rcases h with h | ⟨n, rfl, h⟩
    · exact hC _ _ _ _ _ _ _ hS ha h
    replace h := seeNil_use h
    rcases h with h | ⟨rfl, h⟩
    · exact hC _ _ _ _ _ _ _ hS ha h
    replace h := seeNil_use h
    rcases h with h | ⟨rfl, h⟩
    · exact hC _ _ _ _ _ _ _ hS ha h
    exact cbody_use named (T32a_ok C0_ok) at35 (l := 0) rfl (LoopsOk.none _ _) (F35_ok G32a t n K) hS ha h
  · exact hC _ _ _ _ _ _ _ hS ha h
abbrev Y32 : Type := Int → (Int → Int → Prop) → Prop
set_option maxHeartbeats 4000000 in
set_option maxRecDepth 100000 in
def F32  (t : Int) (k1 : Int → Int → Prop) : Prop :=
  (bif (t == (1 : Int)) then (k1 (8 : Int) (0 : Int)) else (bif (t == (2 : Int)) then (bif (t == (2 : Int)) then (k1 (4 : Int) (0 : Int)) else (k1 (0 : Int) (200 : Int))) else (bif (t == (4 : Int)) then (bif (t == (4 : Int)) then (k1 (4 : Int) (0 : Int)) else (k1 (0 : Int) (200 : Int))) else (bif (t == (10 : Int)) then (bif (t == (10 : Int)) then (k1 (4 : Int) (0 : Int)) else (k1 (0 : Int) (200 : Int))) else (bif (t == (11 : Int)) then (bif (t == (11 : Int)) then (k1 (4 : Int) (0 : Int)) else (k1 (0 : Int) (200 : Int))) else (bif (t == (9 : Int)) then (bif (t == (9 : Int)) then (k1 (4 : Int) (0 : Int)) else (k1 (0 : Int) (200 : Int))) else (bif (t == (22 : Int)) then (bif (t == (22 : Int)) then (k1 (4 : Int) (0 : Int)) else (k1 (0 : Int) (200 : Int))) else (bif (t == (23 : Int)) then (bif (t == (23 : Int)) then (k1 (4 : Int) (0 : Int)) else (k1 (0 : Int) (200 : Int))) else (bif (t == (21 : Int)) then (k1 (4 : Int) (0 : Int)) else (k1 (0 : Int) (200 : Int)))))))))))
theorem F32_ok  (t : Int) (K : V → Mem → Prop) : cbody Try.prog C0 (fun _ => none) 1000 (fnOf Try.prog 32) [(.I .i64 t)] [] K =
    F32  t (fun (u0 : Int) (u1 : Int) => K (.tup [(.I .i64 u0), (.I .i64 u1)]) []) := by kernel_rfl
def G32 : Y32 := F32 
def VT32 (f : Y32) (F : Prop) (args : List V) (m : Mem) (K : V → Mem → Prop) : Prop :=
  (seeCons args F fun a1 q2 => (seeI .i64 a1 F fun t => (seeNil q2 F (seeNil m F (f t (fun (u0 : Int) (u1 : Int) => K (.tup [(.I .i64 u0), (.I .i64 u1)]) []))))))
def T32 (f : Y32) (C : CC) : CC := fun g args m K =>
  match Nat.beq g 32 with
  | true => VT32 f (C g args m K) args m K
  | false => C g args m K
set_option maxRecDepth 100000 in
theorem T32_ok {C : CC} (hC : CallsOk Try.prog C) : CallsOk Try.prog (T32 G32 C) := by
  intro g args m K E w cargs hS ha h
  unfold T32 at h
  split at h
  · rename_i hg
    obtain rfl := Nat.eq_of_beq_eq_true hg
    unfold VT32 at h
    replace h := seeCons_use h
    rcases h with h | ⟨a1, q2, rfl, h⟩
    · exact hC _ _ _ _ _ _ _ hS ha h
    replace h := seeI_use h
    rcases h with h | ⟨t, rfl, h⟩
    · exact hC _ _ _ _ _ _ _ hS ha h
    replace h := seeNil_use h
    rcases h with h | ⟨rfl, h⟩
    · exact hC _ _ _ _ _ _ _ hS ha h
    replace h := seeNil_use h
    rcases h with h | ⟨rfl, h⟩
    · exact hC _ _ _ _ _ _ _ hS ha h
    exact cbody_use named C0_ok at32 (l := 0) rfl (LoopsOk.none _ _) (F32_ok  t K) hS ha h
  · exact hC _ _ _ _ _ _ _ hS ha h
theorem at34 : Try.prog.funcs[34]? = some (fnOf Try.prog 34) := by kernel_rfl
abbrev Y34 : Type := Int → Int → (Bool → Int → Prop) → Prop
set_option maxHeartbeats 4000000 in
set_option maxRecDepth 100000 in
def F34 (f54 : Y54) (t : Int) (n : Int) (k1 : Bool → Int → Prop) : Prop :=
  (f54 t (fun (xs1 : List Int) => (k1 false (200 : Int))) (fun (xs2 : List Int) => (bif (decide (n ≥ (-2147483648 : Int))) then (k1 (decide (n < (2147483648 : Int))) (0 : Int)) else (k1 false (0 : Int)))) (fun (xs3 : List Int) => (bif (decide (n ≥ (-2147483648 : Int))) then (k1 (decide (n < (2147483648 : Int))) (0 : Int)) else (k1 false (0 : Int)))) (fun (xs4 : List Int) => (bif (decide (n ≥ (-2147483648 : Int))) then (k1 (decide (n < (2147483648 : Int))) (0 : Int)) else (k1 false (0 : Int)))) (fun (xs5 : List Int) => (bif (decide (n < (0 : Int))) then (k1 false (0 : Int)) else (k1 (decide (n < (4294967296 : Int))) (0 : Int)))) (fun (xs6 : List Int) => (bif (decide (n ≥ (-2147483648 : Int))) then (k1 (decide (n < (2147483648 : Int))) (0 : Int)) else (k1 false (0 : Int)))) (fun (xs7 : List Int) => (k1 true (0 : Int))))
theorem F34_ok (f54 : Y54) (t : Int) (n : Int) (K : V → Mem → Prop) : cbody Try.prog (T54 f54 C0) (fun _ => none) 1000 (fnOf Try.prog 34) [(.I .i64 t), (.I .i64 n)] [] K =
    F34 f54 t n (fun (u0 : Bool) (u1 : Int) => K (.tup [(.B u0), (.I .i64 u1)]) []) := by kernel_rfl
def G34 : Y34 := F34 G54
def VT34 (f : Y34) (F : Prop) (args : List V) (m : Mem) (K : V → Mem → Prop) : Prop :=
  (seeCons args F fun a1 q2 => (seeI .i64 a1 F fun t => (seeCons q2 F fun a3 q4 => (seeI .i64 a3 F fun n => (seeNil q4 F (seeNil m F (f t n (fun (u0 : Bool) (u1 : Int) => K (.tup [(.B u0), (.I .i64 u1)]) []))))))))
def T34 (f : Y34) (C : CC) : CC := fun g args m K =>
  match Nat.beq g 34 with
  | true => VT34 f (C g args m K) args m K
  | false => C g args m K
set_option maxRecDepth 100000 in
theorem T34_ok {C : CC} (hC : CallsOk Try.prog C) : CallsOk Try.prog (T34 G34 C) := by
  intro g args m K E w cargs hS ha h
  unfold T34 at h
  split at h
  · rename_i hg
    obtain rfl := Nat.eq_of_beq_eq_true hg
    unfold VT34 at h
    replace h := seeCons_use h
    rcases h with h | ⟨a1, q2, rfl, h⟩
    · exact hC _ _ _ _ _ _ _ hS ha h
    replace h := seeI_use h
    rcases h with h | ⟨t, rfl, h⟩
    · exact hC _ _ _ _ _ _ _ hS ha h
    replace h := seeCons_use h
    rcases h with h | ⟨a3, q4, rfl, h⟩
    · exact hC _ _ _ _ _ _ _ hS ha h
    replace h := seeI_use h
    rcases h with h | ⟨n, rfl, h⟩
    · exact hC _ _ _ _ _ _ _ hS ha h
    replace h := seeNil_use h
    rcases h with h | ⟨rfl, h⟩
    · exact hC _ _ _ _ _ _ _ hS ha h
    replace h := seeNil_use h
    rcases h with h | ⟨rfl, h⟩
    · exact hC _ _ _ _ _ _ _ hS ha h
    exact cbody_use named (T54_ok C0_ok) at34 (l := 0) rfl (LoopsOk.none _ _) (F34_ok G54 t n K) hS ha h
  · exact hC _ _ _ _ _ _ _ hS ha h
theorem at36 : Try.prog.funcs[36]? = some (fnOf Try.prog 36) := by kernel_rfl
abbrev Y36 : Type := Int → (Bool → Bool → Prop) → Prop
set_option maxHeartbeats 4000000 in
set_option maxRecDepth 100000 in
def F36  (t : Int) (k1 : Bool → Bool → Prop) : Prop :=
  (k1 (t == (9 : Int)) (t == (22 : Int)))
theorem F36_ok  (t : Int) (K : V → Mem → Prop) : cbody Try.prog C0 (fun _ => none) 1000 (fnOf Try.prog 36) [(.I .i64 t)] [] K =
    F36  t (fun (u0 : Bool) (u1 : Bool) => K (.tup [(.B u0), (.B u1)]) []) := by kernel_rfl
def G36 : Y36 := F36 
def VT36 (f : Y36) (F : Prop) (args : List V) (m : Mem) (K : V → Mem → Prop) : Prop :=
  (seeCons args F fun a1 q2 => (seeI .i64 a1 F fun t => (seeNil q2 F (seeNil m F (f t (fun (u0 : Bool) (u1 : Bool) => K (.tup [(.B u0), (.B u1)]) []))))))
def T36 (f : Y36) (C : CC) : CC := fun g args m K =>
  match Nat.beq g 36 with
  | true => VT36 f (C g args m K) args m K
  | false => C g args m K
set_option maxRecDepth 100000 in
theorem T36_ok {C : CC} (hC : CallsOk Try.prog C) : CallsOk Try.prog (T36 G36 C) := by
  intro g args m K E w cargs hS ha h
  unfold T36 at h
  split at h
  · rename_i hg
    obtain rfl := Nat.eq_of_beq_eq_true hg
    unfold VT36 at h
    replace h := seeCons_use h
    rcases h with h | ⟨a1, q2, rfl, h⟩
    · exact hC _ _ _ _ _ _ _ hS ha h
    replace h := seeI_use h
    rcases h with h | ⟨t, rfl, h⟩
    · exact hC _ _ _ _ _ _ _ hS ha h
    replace h := seeNil_use h
    rcases h with h | ⟨rfl, h⟩
    · exact hC _ _ _ _ _ _ _ hS ha h
    replace h := seeNil_use h
    rcases h with h | ⟨rfl, h⟩
    · exact hC _ _ _ _ _ _ _ hS ha h
    exact cbody_use named C0_ok at36 (l := 0) rfl (LoopsOk.none _ _) (F36_ok  t K) hS ha h
  · exact hC _ _ _ _ _ _ _ hS ha h
theorem at37 : Try.prog.funcs[37]? = some (fnOf Try.prog 37) := by kernel_rfl
abbrev Y37 : Type := Int → (Bool → Bool → Prop) → Prop
set_option maxHeartbeats 4000000 in
set_option maxRecDepth 100000 in
def F37  (t : Int) (k1 : Bool → Bool → Prop) : Prop :=
  (k1 (t == (9 : Int)) (t == (22 : Int)))
theorem F37_ok  (t : Int) (K : V → Mem → Prop) : cbody Try.prog C0 (fun _ => none) 1000 (fnOf Try.prog 37) [(.I .i64 t)] [] K =
    F37  t (fun (u0 : Bool) (u1 : Bool) => K (.tup [(.B u0), (.B u1)]) []) := by kernel_rfl
def G37 : Y37 := F37 
def VT37 (f : Y37) (F : Prop) (args : List V) (m : Mem) (K : V → Mem → Prop) : Prop :=
  (seeCons args F fun a1 q2 => (seeI .i64 a1 F fun t => (seeNil q2 F (seeNil m F (f t (fun (u0 : Bool) (u1 : Bool) => K (.tup [(.B u0), (.B u1)]) []))))))
def T37 (f : Y37) (C : CC) : CC := fun g args m K =>
  match Nat.beq g 37 with
  | true => VT37 f (C g args m K) args m K
  | false => C g args m K
set_option maxRecDepth 100000 in
theorem T37_ok {C : CC} (hC : CallsOk Try.prog C) : CallsOk Try.prog (T37 G37 C) := by
  intro g args m K E w cargs hS ha h
  unfold T37 at h
  split at h
  · rename_i hg
    obtain rfl := Nat.eq_of_beq_eq_true hg
    unfold VT37 at h
    replace h := seeCons_use h
    rcases h with h | ⟨a1, q2, rfl, h⟩
    · exact hC _ _ _ _ _ _ _ hS ha h
    replace h := seeI_use h
    rcases h with h | ⟨t, rfl, h⟩
    · exact hC _ _ _ _ _ _ _ hS ha h
    replace h := seeNil_use h
    rcases h with h | ⟨rfl, h⟩
    · exact hC _ _ _ _ _ _ _ hS ha h
    replace h := seeNil_use h
    rcases h with h | ⟨rfl, h⟩
    · exact hC _ _ _ _ _ _ _ hS ha h
    exact cbody_use named C0_ok at37 (l := 0) rfl (LoopsOk.none _ _) (F37_ok  t K) hS ha h
  · exact hC _ _ _ _ _ _ _ hS ha h
theorem at38 : Try.prog.funcs[38]? = some (fnOf Try.prog 38) := by kernel_rfl
abbrev Y38 : Type := Int → (Bool → Prop) → Prop
set_option maxHeartbeats 4000000 in
set_option maxRecDepth 100000 in
def F38  (t : Int) (k1 : Bool → Prop) : Prop :=
  (k1 (t == (1 : Int)))
theorem F38_ok  (t : Int) (K : V → Mem → Prop) : cbody Try.prog C0 (fun _ => none) 1000 (fnOf Try.prog 38) [(.I .i64 t)] [] K =
    F38  t (fun (u0 : Bool) => K (.B u0) []) := by kernel_rfl
def G38 : Y38 := F38 
def VT38 (f : Y38) (F : Prop) (args : List V) (m : Mem) (K : V → Mem → Prop) : Prop :=
  (seeCons args F fun a1 q2 => (seeI .i64 a1 F fun t => (seeNil q2 F (seeNil m F (f t (fun (u0 : Bool) => K (.B u0) []))))))
def T38 (f : Y38) (C : CC) : CC := fun g args m K =>
  match Nat.beq g 38 with
  | true => VT38 f (C g args m K) args m K
  | false => C g args m K
set_option maxRecDepth 100000 in
theorem T38_ok {C : CC} (hC : CallsOk Try.prog C) : CallsOk Try.prog (T38 G38 C) := by
  intro g args m K E w cargs hS ha h
  unfold T38 at h
  split at h
  · rename_i hg
    obtain rfl := Nat.eq_of_beq_eq_true hg
    unfold VT38 at h
    replace h := seeCons_use h
    rcases h with h | ⟨a1, q2, rfl, h⟩
    · exact hC _ _ _ _ _ _ _ hS ha h
    replace h := seeI_use h
    rcases h with h | ⟨t, rfl, h⟩
    · exact hC _ _ _ _ _ _ _ hS ha h
    replace h := seeNil_use h
    rcases h with h | ⟨rfl, h⟩
    · exact hC _ _ _ _ _ _ _ hS ha h
    replace h := seeNil_use h
    rcases h with h | ⟨rfl, h⟩
    · exact hC _ _ _ _ _ _ _ hS ha h
    exact cbody_use named C0_ok at38 (l := 0) rfl (LoopsOk.none _ _) (F38_ok  t K) hS ha h
  · exact hC _ _ _ _ _ _ _ hS ha h
theorem at39 : Try.prog.funcs[39]? = some (fnOf Try.prog 39) := by kernel_rfl
abbrev Y39 : Type := Int → (Bool → Prop) → Prop
set_option maxHeartbeats 4000000 in
set_option maxRecDepth 100000 in
def F39  (t : Int) (k1 : Bool → Prop) : Prop :=
  (k1 (t == (1 : Int)))
theorem F39_ok  (t : Int) (K : V → Mem → Prop) : cbody Try.prog C0 (fun _ => none) 1000 (fnOf Try.prog 39) [(.I .i64 t)] [] K =
    F39  t (fun (u0 : Bool) => K (.B u0) []) := by kernel_rfl
def G39 : Y39 := F39 
def VT39 (f : Y39) (F : Prop) (args : List V) (m : Mem) (K : V → Mem → Prop) : Prop :=
  (seeCons args F fun a1 q2 => (seeI .i64 a1 F fun t => (seeNil q2 F (seeNil m F (f t (fun (u0 : Bool) => K (.B u0) []))))))
def T39 (f : Y39) (C : CC) : CC := fun g args m K =>
  match Nat.beq g 39 with
  | true => VT39 f (C g args m K) args m K
  | false => C g args m K
set_option maxRecDepth 100000 in
theorem T39_ok {C : CC} (hC : CallsOk Try.prog C) : CallsOk Try.prog (T39 G39 C) := by
  intro g args m K E w cargs hS ha h
  unfold T39 at h
  split at h
  · rename_i hg
    obtain rfl := Nat.eq_of_beq_eq_true hg
    unfold VT39 at h
    replace h := seeCons_use h
    rcases h with h | ⟨a1, q2, rfl, h⟩
    · exact hC _ _ _ _ _ _ _ hS ha h
    replace h := seeI_use h
    rcases h with h | ⟨t, rfl, h⟩
    · exact hC _ _ _ _ _ _ _ hS ha h
    replace h := seeNil_use h
    rcases h with h | ⟨rfl, h⟩
    · exact hC _ _ _ _ _ _ _ hS ha h
    replace h := seeNil_use h
    rcases h with h | ⟨rfl, h⟩
    · exact hC _ _ _ _ _ _ _ hS ha h
    exact cbody_use named C0_ok at39 (l := 0) rfl (LoopsOk.none _ _) (F39_ok  t K) hS ha h
  · exact hC _ _ _ _ _ _ _ hS ha h
theorem at40 : Try.prog.funcs[40]? = some (fnOf Try.prog 40) := by kernel_rfl
abbrev Y40 : Type := Int → (List Int → Prop) → Prop
set_option maxHeartbeats 4000000 in
set_option maxRecDepth 100000 in
def F40 (f54 : Y54) (t : Int) (k1 : List Int → Prop) : Prop :=
  (f54 t (fun (xs1 : List Int) => (bif (xs1 == ([] : List Int)) then (k1 ([] : List Int)) else (bif (decide (((9 : Nat) + (List.length xs1)) ≤ (4611686018427387904 : Nat))) then (k1 (([(82 : Int), (95 : Int), (88 : Int), (56 : Int), (54 : Int), (95 : Int), (54 : Int), (52 : Int), (95 : Int)] : List Int) ++ xs1)) else False))) (fun (xs2 : List Int) => (bif (xs2 == ([] : List Int)) then (k1 ([] : List Int)) else (bif (decide (((9 : Nat) + (List.length xs2)) ≤ (4611686018427387904 : Nat))) then (k1 (([(82 : Int), (95 : Int), (88 : Int), (56 : Int), (54 : Int), (95 : Int), (54 : Int), (52 : Int), (95 : Int)] : List Int) ++ xs2)) else False))) (fun (xs3 : List Int) => (bif (xs3 == ([] : List Int)) then (k1 ([] : List Int)) else (bif (decide (((9 : Nat) + (List.length xs3)) ≤ (4611686018427387904 : Nat))) then (k1 (([(82 : Int), (95 : Int), (88 : Int), (56 : Int), (54 : Int), (95 : Int), (54 : Int), (52 : Int), (95 : Int)] : List Int) ++ xs3)) else False))) (fun (xs4 : List Int) => (bif (xs4 == ([] : List Int)) then (k1 ([] : List Int)) else (bif (decide (((9 : Nat) + (List.length xs4)) ≤ (4611686018427387904 : Nat))) then (k1 (([(82 : Int), (95 : Int), (88 : Int), (56 : Int), (54 : Int), (95 : Int), (54 : Int), (52 : Int), (95 : Int)] : List Int) ++ xs4)) else False))) (fun (xs5 : List Int) => (bif (xs5 == ([] : List Int)) then (k1 ([] : List Int)) else (bif (decide (((9 : Nat) + (List.length xs5)) ≤ (4611686018427387904 : Nat))) then (k1 (([(82 : Int), (95 : Int), (88 : Int), (56 : Int), (54 : Int), (95 : Int), (54 : Int), (52 : Int), (95 : Int)] : List Int) ++ xs5)) else False))) (fun (xs6 : List Int) => (bif (xs6 == ([] : List Int)) then (k1 ([] : List Int)) else (bif (decide (((9 : Nat) + (List.length xs6)) ≤ (4611686018427387904 : Nat))) then (k1 (([(82 : Int), (95 : Int), (88 : Int), (56 : Int), (54 : Int), (95 : Int), (54 : Int), (52 : Int), (95 : Int)] : List Int) ++ xs6)) else False))) (fun (xs7 : List Int) => (bif (xs7 == ([] : List Int)) then (k1 ([] : List Int)) else (bif (decide (((9 : Nat) + (List.length xs7)) ≤ (4611686018427387904 : Nat))) then (k1 (([(82 : Int), (95 : Int), (88 : Int), (56 : Int), (54 : Int), (95 : Int), (54 : Int), (52 : Int), (95 : Int)] : List Int) ++ xs7)) else False))))
theorem F40_ok (f54 : Y54) (t : Int) (K : V → Mem → Prop) : cbody Try.prog (T54 f54 C0) (fun _ => none) 1000 (fnOf Try.prog 40) [(.I .i64 t)] [] K =
    F40 f54 t (fun (u0 : List Int) => K (.S u0) []) := by kernel_rfl
def G40 : Y40 := F40 G54
def VT40 (f : Y40) (F : Prop) (args : List V) (m : Mem) (K : V → Mem → Prop) : Prop :=
  (seeCons args F fun a1 q2 => (seeI .i64 a1 F fun t => (seeNil q2 F (seeNil m F (f t (fun (u0 : List Int) => K (.S u0) []))))))
def T40 (f : Y40) (C : CC) : CC := fun g args m K =>
  match Nat.beq g 40 with
  | true => VT40 f (C g args m K) args m K
  | false => C g args m K
set_option maxRecDepth 100000 in
theorem T40_ok {C : CC} (hC : CallsOk Try.prog C) : CallsOk Try.prog (T40 G40 C) := by
  intro g args m K E w cargs hS ha h
  unfold T40 at h
  split at h
  · rename_i hg
    obtain rfl := Nat.eq_of_beq_eq_true hg
    unfold VT40 at h
    replace h := seeCons_use h
    rcases h with h | ⟨a1, q2, rfl, h⟩
    · exact hC _ _ _ _ _ _ _ hS ha h
    replace h := seeI_use h
    rcases h with h | ⟨t, rfl, h⟩
    · exact hC _ _ _ _ _ _ _ hS ha h
    replace h := seeNil_use h
    rcases h with h | ⟨rfl, h⟩
    · exact hC _ _ _ _ _ _ _ hS ha h
    replace h := seeNil_use h
    rcases h with h | ⟨rfl, h⟩
    · exact hC _ _ _ _ _ _ _ hS ha h
    exact cbody_use named (T54_ok C0_ok) at40 (l := 0) rfl (LoopsOk.none _ _) (F40_ok G54 t K) hS ha h
  · exact hC _ _ _ _ _ _ _ hS ha h
theorem at41 : Try.prog.funcs[41]? = some (fnOf Try.prog 41) := by kernel_rfl
abbrev Y41 : Type := Int → (List Int → Prop) → Prop
set_option maxHeartbeats 4000000 in
set_option maxRecDepth 100000 in
def F41  (t : Int) (k1 : List Int → Prop) : Prop :=
  (bif (t == (0 : Int)) then (k1 ([(82 : Int), (95 : Int), (88 : Int), (56 : Int), (54 : Int), (95 : Int), (54 : Int), (52 : Int), (95 : Int), (78 : Int), (79 : Int), (78 : Int), (69 : Int)] : List Int)) else (bif (t == (1 : Int)) then (k1 ([(82 : Int), (95 : Int), (88 : Int), (56 : Int), (54 : Int), (95 : Int), (54 : Int), (52 : Int), (95 : Int), (54 : Int), (52 : Int)] : List Int)) else (bif (t == (2 : Int)) then (k1 ([(82 : Int), (95 : Int), (88 : Int), (56 : Int), (54 : Int), (95 : Int), (54 : Int), (52 : Int), (95 : Int), (80 : Int), (67 : Int), (51 : Int), (50 : Int)] : List Int)) else (bif (t == (4 : Int)) then (k1 ([(82 : Int), (95 : Int), (88 : Int), (56 : Int), (54 : Int), (95 : Int), (54 : Int), (52 : Int), (95 : Int), (80 : Int), (76 : Int), (84 : Int), (51 : Int), (50 : Int)] : List Int)) else (bif (t == (6 : Int)) then (k1 ([(82 : Int), (95 : Int), (88 : Int), (56 : Int), (54 : Int), (95 : Int), (54 : Int), (52 : Int), (95 : Int), (71 : Int), (76 : Int), (79 : Int), (66 : Int), (95 : Int), (68 : Int), (65 : Int), (84 : Int)] : List Int)) else (bif (t == (8 : Int)) then (k1 ([(82 : Int), (95 : Int), (88 : Int), (56 : Int), (54 : Int), (95 : Int), (54 : Int), (52 : Int), (95 : Int), (82 : Int), (69 : Int), (76 : Int), (65 : Int), (84 : Int), (73 : Int), (86 : Int), (69 : Int)] : List Int)) else (bif (t == (9 : Int)) then (k1 ([(82 : Int), (95 : Int), (88 : Int), (56 : Int), (54 : Int), (95 : Int), (54 : Int), (52 : Int), (95 : Int), (71 : Int), (79 : Int), (84 : Int), (80 : Int), (67 : Int), (82 : Int), (69 : Int), (76 : Int)] : List Int)) else (bif (t == (10 : Int)) then (k1 ([(82 : Int), (95 : Int), (88 : Int), (56 : Int), (54 : Int), (95 : Int), (54 : Int), (52 : Int), (95 : Int), (51 : Int), (50 : Int)] : List Int)) else (bif (t == (11 : Int)) then (k1 ([(82 : Int), (95 : Int), (88 : Int), (56 : Int), (54 : Int), (95 : Int), (54 : Int), (52 : Int), (95 : Int), (51 : Int), (50 : Int), (83 : Int)] : List Int)) else (bif (t == (19 : Int)) then (k1 ([(82 : Int), (95 : Int), (88 : Int), (56 : Int), (54 : Int), (95 : Int), (54 : Int), (52 : Int), (95 : Int), (84 : Int), (76 : Int), (83 : Int), (71 : Int), (68 : Int)] : List Int)) else (bif (t == (20 : Int)) then (k1 ([(82 : Int), (95 : Int), (88 : Int), (56 : Int), (54 : Int), (95 : Int), (54 : Int), (52 : Int), (95 : Int), (84 : Int), (76 : Int), (83 : Int), (76 : Int), (68 : Int)] : List Int)) else (bif (t == (21 : Int)) then (k1 ([(82 : Int), (95 : Int), (88 : Int), (56 : Int), (54 : Int), (95 : Int), (54 : Int), (52 : Int), (95 : Int), (68 : Int), (84 : Int), (80 : Int), (79 : Int), (70 : Int), (70 : Int), (51 : Int), (50 : Int)] : List Int)) else (bif (t == (22 : Int)) then (k1 ([(82 : Int), (95 : Int), (88 : Int), (56 : Int), (54 : Int), (95 : Int), (54 : Int), (52 : Int), (95 : Int), (71 : Int), (79 : Int), (84 : Int), (84 : Int), (80 : Int), (79 : Int), (70 : Int), (70 : Int)] : List Int)) else (bif (t == (23 : Int)) then (k1 ([(82 : Int), (95 : Int), (88 : Int), (56 : Int), (54 : Int), (95 : Int), (54 : Int), (52 : Int), (95 : Int), (84 : Int), (80 : Int), (79 : Int), (70 : Int), (70 : Int), (51 : Int), (50 : Int)] : List Int)) else (bif (t == (37 : Int)) then (k1 ([(82 : Int), (95 : Int), (88 : Int), (56 : Int), (54 : Int), (95 : Int), (54 : Int), (52 : Int), (95 : Int), (73 : Int), (82 : Int), (69 : Int), (76 : Int), (65 : Int), (84 : Int), (73 : Int), (86 : Int), (69 : Int)] : List Int)) else (k1 ([] : List Int)))))))))))))))))
theorem F41_ok  (t : Int) (K : V → Mem → Prop) : cbody Try.prog C0 (fun _ => none) 1000 (fnOf Try.prog 41) [(.I .i64 t)] [] K =
    F41  t (fun (u0 : List Int) => K (.S u0) []) := by kernel_rfl
def G41 : Y41 := F41 
def VT41 (f : Y41) (F : Prop) (args : List V) (m : Mem) (K : V → Mem → Prop) : Prop :=
  (seeCons args F fun a1 q2 => (seeI .i64 a1 F fun t => (seeNil q2 F (seeNil m F (f t (fun (u0 : List Int) => K (.S u0) []))))))
def T41 (f : Y41) (C : CC) : CC := fun g args m K =>
  match Nat.beq g 41 with
  | true => VT41 f (C g args m K) args m K
  | false => C g args m K
set_option maxRecDepth 100000 in
theorem T41_ok {C : CC} (hC : CallsOk Try.prog C) : CallsOk Try.prog (T41 G41 C) := by
  intro g args m K E w cargs hS ha h
  unfold T41 at h
  split at h
  · rename_i hg
    obtain rfl := Nat.eq_of_beq_eq_true hg
    unfold VT41 at h
    replace h := seeCons_use h
    rcases h with h | ⟨a1, q2, rfl, h⟩
    · exact hC _ _ _ _ _ _ _ hS ha h
    replace h := seeI_use h
    rcases h with h | ⟨t, rfl, h⟩
    · exact hC _ _ _ _ _ _ _ hS ha h
    replace h := seeNil_use h
    rcases h with h | ⟨rfl, h⟩
    · exact hC _ _ _ _ _ _ _ hS ha h
    replace h := seeNil_use h
    rcases h with h | ⟨rfl, h⟩
    · exact hC _ _ _ _ _ _ _ hS ha h
    exact cbody_use named C0_ok at41 (l := 0) rfl (LoopsOk.none _ _) (F41_ok  t K) hS ha h
  · exact hC _ _ _ _ _ _ _ hS ha h
theorem at9 : Try.prog.funcs[9]? = some (fnOf Try.prog 9) := by kernel_rfl
abbrev Y9 : Type := Int → Int → Int → Int → Int → Int → Int → (Prop) → (Prop) → Prop
set_option maxHeartbeats 4000000 in
set_option maxRecDepth 100000 in
def F9 (f25 : Y25) (f24 : Y24) (f23 : Y23) (f28 : Y28) (f31 : Y31) (f33 : Y33) (f35 : Y35) (f32 : Y32) (f34 : Y34) (f36 : Y36) (f37 : Y37) (f38 : Y38) (f39 : Y39) (f40 : Y40) (f41 : Y41) (t : Int) (ps : Int) (pad : Int) (pp : Int) (pg : Int) (ptp : Int) (n : Int) (k1 : Prop) (k2 : Prop) : Prop :=
  (f31 t (fun (n1 : Int) (n2 : Int) => (f32 t (fun (n3 : Int) (n4 : Int) => (f23 t ps pad pp pg ptp (fun (n5 : Int) (n6 : Int) => (f28 ps pad pp pg ptp ((f33 t ps pad pp pg ptp (fun (n7 : Int) (n8 : Int) => (f34 t n (fun (b9 : Bool) (n10 : Int) => (f35 t n (fun (b11 : Bool) (n12 : Int) => (f36 t (fun (b13 : Bool) (b14 : Bool) => (f37 t (fun (b15 : Bool) (b16 : Bool) => (bif (n1 == n3) then (f24 n2 ((bif (n2 == n4) then (bif (n5 == n7) then (f24 n6 ((bif (n6 == n8) then (bif (b9 == b11) then (f24 n10 ((bif (n10 == n12) then (bif (b13 == b15) then (bif (b14 == b16) then (f38 t (fun (b17 : Bool) => (f39 t (fun (b18 : Bool) => (bif (b17 == b18) then (f40 t (fun (xs19 : List Int) => (f41 t (fun (xs20 : List Int) => (bif (xs19 == xs20) then (f25 ((k1))) else (k2)))))) else (k2)))))) else (k2)) else (k2)) else (k2)))) else (k2)) else (k2)))) else (k2)) else (k2)))) else (k2))))))))))))))))))))
theorem F9_ok (f25 : Y25) (f24 : Y24) (f23 : Y23) (f28 : Y28) (f31 : Y31) (f33 : Y33) (f35 : Y35) (f32 : Y32) (f34 : Y34) (f36 : Y36) (f37 : Y37) (f38 : Y38) (f39 : Y39) (f40 : Y40) (f41 : Y41) (t : Int) (ps : Int) (pad : Int) (pp : Int) (pg : Int) (ptp : Int) (n : Int) (K : V → Mem → Prop) : cbody Try.prog (T25 f25 (T24 f24 (T23 f23 (T28 f28 (T31 f31 (T33 f33 (T35 f35 (T32 f32 (T34 f34 (T36 f36 (T37 f37 (T38 f38 (T39 f39 (T40 f40 (T41 f41 C0))))))))))))))) (fun _ => none) 1000 (fnOf Try.prog 9) [(.I .i64 t), (.agg [(.I .i64 ps), (.I .i64 pad), (.I .i64 pp), (.I .i64 pg), (.I .i64 ptp)]), (.I .i64 n)] [] K =
    F9 f25 f24 f23 f28 f31 f33 f35 f32 f34 f36 f37 f38 f39 f40 f41 t ps pad pp pg ptp n (K (.B true) []) (K (.B false) []) := by kernel_rfl
def G9 : Y9 := F9 G25 G24 G23 G28 G31 G33 G35 G32 G34 G36 G37 G38 G39 G40 G41
def VT9 (f : Y9) (F : Prop) (args : List V) (m : Mem) (K : V → Mem → Prop) : Prop :=
  (seeCons args F fun a1 q2 => (seeI .i64 a1 F fun t => (seeCons q2 F fun a3 q4 => (seeAgg a3 F fun vs5 => (seeCons vs5 F fun a6 q7 => (seeI .i64 a6 F fun ps => (seeCons q7 F fun a8 q9 => (seeI .i64 a8 F fun pad => (seeCons q9 F fun a10 q11 => (seeI .i64 a10 F fun pp => (seeCons q11 F fun a12 q13 => (seeI .i64 a12 F fun pg => (seeCons q13 F fun a14 q15 => (seeI .i64 a14 F fun ptp => (seeNil q15 F (seeCons q4 F fun a16 q17 => (seeI .i64 a16 F fun n => (seeNil q17 F (seeNil m F (f t ps pad pp pg ptp n (K (.B true) []) (K (.B false) [])))))))))))))))))))))
def T9 (f : Y9) (C : CC) : CC := fun g args m K =>
  match Nat.beq g 9 with
  | true => VT9 f (C g args m K) args m K
  | false => C g args m K
set_option maxRecDepth 100000 in
theorem T9_ok {C : CC} (hC : CallsOk Try.prog C) : CallsOk Try.prog (T9 G9 C) := by
  intro g args m K E w cargs hS ha h
  unfold T9 at h
  split at h
  · rename_i hg
    obtain rfl := Nat.eq_of_beq_eq_true hg
    unfold VT9 at h
    replace h := seeCons_use h
    rcases h with h | ⟨a1, q2, rfl, h⟩
    · exact hC _ _ _ _ _ _ _ hS ha h
    replace h := seeI_use h
    rcases h with h | ⟨t, rfl, h⟩
    · exact hC _ _ _ _ _ _ _ hS ha h
    replace h := seeCons_use h
    rcases h with h | ⟨a3, q4, rfl, h⟩
    · exact hC _ _ _ _ _ _ _ hS ha h
    replace h := seeAgg_use h
    rcases h with h | ⟨vs5, rfl, h⟩
    · exact hC _ _ _ _ _ _ _ hS ha h
    replace h := seeCons_use h
    rcases h with h | ⟨a6, q7, rfl, h⟩
    · exact hC _ _ _ _ _ _ _ hS ha h
    replace h := seeI_use h
    rcases h with h | ⟨ps, rfl, h⟩
    · exact hC _ _ _ _ _ _ _ hS ha h
    replace h := seeCons_use h
    rcases h with h | ⟨a8, q9, rfl, h⟩
    · exact hC _ _ _ _ _ _ _ hS ha h
    replace h := seeI_use h
    rcases h with h | ⟨pad, rfl, h⟩
    · exact hC _ _ _ _ _ _ _ hS ha h
    replace h := seeCons_use h
    rcases h with h | ⟨a10, q11, rfl, h⟩
    · exact hC _ _ _ _ _ _ _ hS ha h
    replace h := seeI_use h
    rcases h with h | ⟨pp, rfl, h⟩
    · exact hC _ _ _ _ _ _ _ hS ha h
    replace h := seeCons_use h
    rcases h with h | ⟨a12, q13, rfl, h⟩
    · exact hC _ _ _ _ _ _ _ hS ha h
    replace h := seeI_use h
    rcases h with h | ⟨pg, rfl, h⟩
    · exact hC _ _ _ _ _ _ _ hS ha h
    replace h := seeCons_use h
    rcases h with h | ⟨a14, q15, rfl, h⟩
    · exact hC _ _ _ _ _ _ _ hS ha h
    replace h := seeI_use h
    rcases h with h | ⟨ptp, rfl, h⟩
    · exact hC _ _ _ _ _ _ _ hS ha h
    replace h := seeNil_use h
    rcases h with h | ⟨rfl, h⟩
    · exact hC _ _ _ _ _ _ _ hS ha h
    replace h := seeCons_use h
    rcases h with h | ⟨a16, q17, rfl, h⟩
    · exact hC _ _ _ _ _ _ _ hS ha h
    replace h := seeI_use h
    rcases h with h | ⟨n, rfl, h⟩
    · exact hC _ _ _ _ _ _ _ hS ha h
    replace h := seeNil_use h
    rcases h with h | ⟨rfl, h⟩
    · exact hC _ _ _ _ _ _ _ hS ha h
    replace h := seeNil_use h
    rcases h with h | ⟨rfl, h⟩
    · exact hC _ _ _ _ _ _ _ hS ha h
    exact cbody_use named (T25_ok (T24_ok (T23_ok (T28_ok (T31_ok (T33_ok (T35_ok (T32_ok (T34_ok (T36_ok (T37_ok (T38_ok (T39_ok (T40_ok (T41_ok C0_ok))))))))))))))) at9 (l := 0) rfl (LoopsOk.none _ _) (F9_ok G25 G24 G23 G28 G31 G33 G35 G32 G34 G36 G37 G38 G39 G40 G41 t ps pad pp pg ptp n K) hS ha h
  · exact hC _ _ _ _ _ _ _ hS ha h
end Go.Proofs.Ytnndiicpiolddaa.val
