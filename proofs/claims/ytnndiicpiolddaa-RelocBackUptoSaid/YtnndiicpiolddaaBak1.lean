import Derived.Test.YtnndiicpiolddaaProg
import Derived.Test.YtnndiicpiolddaaAbSee
import Derived.Test.YtnndiicpiolddaaShelfContains
import Derived.Lib.IndexAny
set_option linter.unusedVariables false
namespace Go.Proofs.Ytnndiicpiolddaa.bak
open Go Go.Ab
theorem named : Named Try.prog := by
  have h : Try.prog.funcs.toList.all (fun fn => !(fn.name == "runtime.NumGoroutine")) = true := by kernel_rfl
  intro g fn hf
  have := List.all_eq_true.1 h fn (by rw [Array.getElem?_eq_some_iff] at hf; obtain ⟨h1, rfl⟩ := hf; simp)
  simpa using this
/-- strings.Contains at one byte. -/
def prims : Prims := fun f =>
  match Nat.beq f 127 with
  | true => some fun args _ => (match args with | [.S s, .S [c]] => some (true, .B (s.contains c)) | _ => none)
  | false => none
theorem at127 : Try.prog.funcs[127]? = some (fnOf Try.prog 127) := by kernel_rfl
theorem contains_map : ∀ (l : List UInt8) (b : UInt8), (l.map fun c => (c.toNat : Int)).contains (b.toNat : Int) = l.contains b
  | [], b => rfl
  | a :: l, b => by
    simp only [List.map_cons, List.contains_cons, contains_map l b]
    congr 1
    rw [Bool.eq_iff_iff]
    simp only [beq_iff_eq]
    constructor
    · intro h; exact UInt8.toNat_inj.1 (by omega)
    · intro h; rw [h]
theorem prims_ok : PrimsOk Try.prog prims := by
  intro f g h args m v E w cargs hS ha hg
  unfold prims at h
  split at h
  · rename_i hf
    obtain rfl := Nat.eq_of_beq_eq_true hf
    cases h
    dsimp only at hg
    split at hg
    · rename_i s c
      cases hg
      simp only [VsRel, VRel] at ha
      obtain ⟨c0, r0, e0, ⟨t, rfl, ht, _⟩, c1, r1, rfl, ⟨u, rfl, hu, _⟩, rfl⟩ := ha
      refine ⟨⟨_, at127, by kernel_rfl⟩, ?_⟩
      obtain ⟨b, hb, hbc⟩ : ∃ b : UInt8, u = ⟨#[b]⟩ ∧ (b.toNat : Int) = c := by
        obtain ⟨⟨l⟩⟩ := u
        match l, hu with
        | [b], hu => simp [bytesI] at hu; exact ⟨b, rfl, hu⟩
      subst hb
      have hc : cargs = #[.string t, .string ⟨#[b]⟩] := by apply Array.ext'; simpa using e0
      subst hc
      refine (Try.strings_Contains_one t b w).mono fun e w' he => ?_
      obtain ⟨rfl, rfl⟩ := he
      refine ⟨E, Step.refl hS, ?_⟩
      show VRel E (.B (s.contains c)) _
      simp only [VRel]
      rw [← ht, ← hbc, bytesI, contains_map, Lib.contains_iff_indexByte]
    · cases hg
  · cases h
def C0 : CC := call Try.prog prims 1000
theorem C0_ok : CallsOk Try.prog C0 := call_sound named prims_ok 1000
theorem at25 : Try.prog.funcs[25]? = some (fnOf Try.prog 25) := by kernel_rfl
abbrev Y25 : Type := (Prop) → Prop
set_option maxHeartbeats 4000000 in
set_option maxRecDepth 100000 in
def F25   (k1 : Prop) : Prop :=
  (k1)
theorem F25_ok   (K : V → Mem → Prop) : cbody Try.prog C0 (fun _ => none) 1000 (fnOf Try.prog 25) [] [] K =
    F25   (K (.B true) []) := by kernel_rfl
def G25 : Y25 := F25 
def VT25 (f : Y25) (F : Prop) (args : List V) (m : Mem) (K : V → Mem → Prop) : Prop :=
  (seeNil args F (seeNil m F (f  (K (.B true) []))))
def T25 (f : Y25) (C : CC) : CC := fun g args m K =>
  match Nat.beq g 25 with
  | true => VT25 f (C g args m K) args m K
  | false => C g args m K
set_option maxRecDepth 100000 in
theorem T25_ok {C : CC} (hC : CallsOk Try.prog C) : CallsOk Try.prog (T25 G25 C) := by
  intro g args m K E w cargs hS ha h
  unfold T25 at h
  split at h
  · rename_i hg
    obtain rfl := Nat.eq_of_beq_eq_true hg
    unfold VT25 at h
    replace h := seeNil_use h
    rcases h with h | ⟨rfl, h⟩
    · exact hC _ _ _ _ _ _ _ hS ha h
    replace h := seeNil_use h
    rcases h with h | ⟨rfl, h⟩
    · exact hC _ _ _ _ _ _ _ hS ha h
    exact cbody_use named C0_ok at25 (l := 0) rfl (LoopsOk.none _ _) (F25_ok   K) hS ha h
  · exact hC _ _ _ _ _ _ _ hS ha h
theorem at24 : Try.prog.funcs[24]? = some (fnOf Try.prog 24) := by kernel_rfl
abbrev Y24 : Type := Int → (Prop) → Prop
set_option maxHeartbeats 4000000 in
set_option maxRecDepth 100000 in
def F24  (a : Int) (k1 : Prop) : Prop :=
  (k1)
theorem F24_ok  (a : Int) (K : V → Mem → Prop) : cbody Try.prog C0 (fun _ => none) 1000 (fnOf Try.prog 24) [(.I .i64 a)] [] K =
    F24  a (K (.I .i64 a) []) := by kernel_rfl
def G24 : Y24 := F24 
def VT24 (f : Y24) (F : Prop) (args : List V) (m : Mem) (K : V → Mem → Prop) : Prop :=
  (seeCons args F fun a1 q2 => (seeI .i64 a1 F fun a => (seeNil q2 F (seeNil m F (f a (K (.I .i64 a) []))))))
def T24 (f : Y24) (C : CC) : CC := fun g args m K =>
  match Nat.beq g 24 with
  | true => VT24 f (C g args m K) args m K
  | false => C g args m K
set_option maxRecDepth 100000 in
theorem T24_ok {C : CC} (hC : CallsOk Try.prog C) : CallsOk Try.prog (T24 G24 C) := by
  intro g args m K E w cargs hS ha h
  unfold T24 at h
  split at h
  · rename_i hg
    obtain rfl := Nat.eq_of_beq_eq_true hg
    unfold VT24 at h
    replace h := seeCons_use h
    rcases h with h | ⟨a1, q2, rfl, h⟩
    · exact hC _ _ _ _ _ _ _ hS ha h
    replace h := seeI_use h
    rcases h with h | ⟨a, rfl, h⟩
    · exact hC _ _ _ _ _ _ _ hS ha h
    replace h := seeNil_use h
    rcases h with h | ⟨rfl, h⟩
    · exact hC _ _ _ _ _ _ _ hS ha h
    replace h := seeNil_use h
    rcases h with h | ⟨rfl, h⟩
    · exact hC _ _ _ _ _ _ _ hS ha h
    exact cbody_use named C0_ok at24 (l := 0) rfl (LoopsOk.none _ _) (F24_ok  a K) hS ha h
  · exact hC _ _ _ _ _ _ _ hS ha h
theorem at54 : Try.prog.funcs[54]? = some (fnOf Try.prog 54) := by kernel_rfl
abbrev Y54 : Type := Int → (List Int → Prop) → (List Int → Prop) → (List Int → Prop) → (List Int → Prop) → (List Int → Prop) → (List Int → Prop) → (List Int → Prop) → Prop
set_option maxHeartbeats 4000000 in
set_option maxRecDepth 100000 in
def F54  (t : Int) (k1 : List Int → Prop) (k2 : List Int → Prop) (k3 : List Int → Prop) (k4 : List Int → Prop) (k5 : List Int → Prop) (k6 : List Int → Prop) (k7 : List Int → Prop) : Prop :=
  (bif (decide (t < (0 : Int))) then (k1 ([] : List Int)) else (bif (decide (t ≥ (64 : Int))) then (k1 ([] : List Int)) else (bif (t == (63 : Int)) then (k1 ([] : List Int)) else (bif (t == (62 : Int)) then (k1 ([] : List Int)) else (bif (t == (61 : Int)) then (k1 ([] : List Int)) else (bif (t == (60 : Int)) then (k1 ([] : List Int)) else (bif (t == (59 : Int)) then (k1 ([] : List Int)) else (bif (t == (58 : Int)) then (k1 ([] : List Int)) else (bif (t == (57 : Int)) then (k1 ([] : List Int)) else (bif (t == (56 : Int)) then (k1 ([] : List Int)) else (bif (t == (55 : Int)) then (k1 ([] : List Int)) else (bif (t == (54 : Int)) then (k1 ([] : List Int)) else (bif (t == (53 : Int)) then (k1 ([] : List Int)) else (bif (t == (52 : Int)) then (k1 ([] : List Int)) else (bif (t == (51 : Int)) then (k1 ([] : List Int)) else (bif (t == (50 : Int)) then (k1 ([] : List Int)) else (bif (t == (49 : Int)) then (k1 ([] : List Int)) else (bif (t == (48 : Int)) then (k1 ([] : List Int)) else (bif (t == (47 : Int)) then (k1 ([] : List Int)) else (bif (t == (46 : Int)) then (k1 ([] : List Int)) else (bif (t == (45 : Int)) then (k1 ([] : List Int)) else (bif (t == (44 : Int)) then (k1 ([] : List Int)) else (bif (t == (43 : Int)) then (k1 ([] : List Int)) else (bif (t == (42 : Int)) then (k1 ([] : List Int)) else (bif (t == (41 : Int)) then (k1 ([] : List Int)) else (bif (t == (40 : Int)) then (k1 ([] : List Int)) else (bif (t == (39 : Int)) then (k1 ([] : List Int)) else (bif (t == (38 : Int)) then (k1 ([] : List Int)) else (bif (t == (37 : Int)) then (k1 ([(73 : Int), (82 : Int), (69 : Int), (76 : Int), (65 : Int), (84 : Int), (73 : Int), (86 : Int), (69 : Int)] : List Int)) else (bif (t == (36 : Int)) then (k1 ([] : List Int)) else (bif (t == (35 : Int)) then (k1 ([] : List Int)) else (bif (t == (34 : Int)) then (k1 ([] : List Int)) else (bif (t == (33 : Int)) then (k1 ([] : List Int)) else (bif (t == (32 : Int)) then (k1 ([] : List Int)) else (bif (t == (31 : Int)) then (k1 ([] : List Int)) else (bif (t == (30 : Int)) then (k1 ([] : List Int)) else (bif (t == (29 : Int)) then (k1 ([] : List Int)) else (bif (t == (28 : Int)) then (k1 ([] : List Int)) else (bif (t == (27 : Int)) then (k1 ([] : List Int)) else (bif (t == (26 : Int)) then (k1 ([] : List Int)) else (bif (t == (25 : Int)) then (k1 ([] : List Int)) else (bif (t == (24 : Int)) then (k1 ([] : List Int)) else (bif (t == (23 : Int)) then (k2 ([(84 : Int), (80 : Int), (79 : Int), (70 : Int), (70 : Int), (51 : Int), (50 : Int)] : List Int)) else (bif (t == (22 : Int)) then (k3 ([(71 : Int), (79 : Int), (84 : Int), (84 : Int), (80 : Int), (79 : Int), (70 : Int), (70 : Int)] : List Int)) else (bif (t == (21 : Int)) then (k2 ([(68 : Int), (84 : Int), (80 : Int), (79 : Int), (70 : Int), (70 : Int), (51 : Int), (50 : Int)] : List Int)) else (bif (t == (20 : Int)) then (k1 ([(84 : Int), (76 : Int), (83 : Int), (76 : Int), (68 : Int)] : List Int)) else (bif (t == (19 : Int)) then (k1 ([(84 : Int), (76 : Int), (83 : Int), (71 : Int), (68 : Int)] : List Int)) else (bif (t == (18 : Int)) then (k1 ([] : List Int)) else (bif (t == (17 : Int)) then (k1 ([] : List Int)) else (bif (t == (16 : Int)) then (k1 ([] : List Int)) else (bif (t == (15 : Int)) then (k1 ([] : List Int)) else (bif (t == (14 : Int)) then (k1 ([] : List Int)) else (bif (t == (13 : Int)) then (k1 ([] : List Int)) else (bif (t == (12 : Int)) then (k1 ([] : List Int)) else (bif (t == (11 : Int)) then (k4 ([(51 : Int), (50 : Int), (83 : Int)] : List Int)) else (bif (t == (10 : Int)) then (k5 ([(51 : Int), (50 : Int)] : List Int)) else (bif (t == (9 : Int)) then (k3 ([(71 : Int), (79 : Int), (84 : Int), (80 : Int), (67 : Int), (82 : Int), (69 : Int), (76 : Int)] : List Int)) else (bif (t == (8 : Int)) then (k1 ([(82 : Int), (69 : Int), (76 : Int), (65 : Int), (84 : Int), (73 : Int), (86 : Int), (69 : Int)] : List Int)) else (bif (t == (7 : Int)) then (k1 ([] : List Int)) else (bif (t == (6 : Int)) then (k1 ([(71 : Int), (76 : Int), (79 : Int), (66 : Int), (95 : Int), (68 : Int), (65 : Int), (84 : Int)] : List Int)) else (bif (t == (5 : Int)) then (k1 ([] : List Int)) else (bif (t == (4 : Int)) then (k6 ([(80 : Int), (76 : Int), (84 : Int), (51 : Int), (50 : Int)] : List Int)) else (bif (t == (3 : Int)) then (k1 ([] : List Int)) else (bif (t == (2 : Int)) then (k6 ([(80 : Int), (67 : Int), (51 : Int), (50 : Int)] : List Int)) else (bif (t == (1 : Int)) then (k7 ([(54 : Int), (52 : Int)] : List Int)) else (bif (t == (0 : Int)) then (k1 ([(78 : Int), (79 : Int), (78 : Int), (69 : Int)] : List Int)) else False))))))))))))))))))))))))))))))))))))))))))))))))))))))))))))))))))
theorem F54_ok  (t : Int) (K : V → Mem → Prop) : cbody Try.prog C0 (fun _ => none) 1000 (fnOf Try.prog 54) [(.I .i64 t)] [] K =
    F54  t (fun (u0 : List Int) => K (.tup [(.agg [(.S u0), (.I .i64 (0 : Int)), .nilf, .nilf]), (.B false)]) []) (fun (u0 : List Int) => K (.tup [(.agg [(.S u0), (.I .i64 (4 : Int)), (.fn (.func 91) [] []), (.fn (.func 88) [] [])]), (.B true)]) []) (fun (u0 : List Int) => K (.tup [(.agg [(.S u0), (.I .i64 (4 : Int)), (.fn (.func 90) [] []), (.fn (.func 88) [] [])]), (.B true)]) []) (fun (u0 : List Int) => K (.tup [(.agg [(.S u0), (.I .i64 (4 : Int)), (.fn (.func 85) [] []), (.fn (.func 88) [] [])]), (.B true)]) []) (fun (u0 : List Int) => K (.tup [(.agg [(.S u0), (.I .i64 (4 : Int)), (.fn (.func 85) [] []), (.fn (.func 89) [] [])]), (.B true)]) []) (fun (u0 : List Int) => K (.tup [(.agg [(.S u0), (.I .i64 (4 : Int)), (.fn (.func 87) [] []), (.fn (.func 88) [] [])]), (.B true)]) []) (fun (u0 : List Int) => K (.tup [(.agg [(.S u0), (.I .i64 (8 : Int)), (.fn (.func 85) [] []), (.fn (.func 86) [] [])]), (.B true)]) []) := by kernel_rfl
def G54 : Y54 := F54 
def VT54 (f : Y54) (F : Prop) (args : List V) (m : Mem) (K : V → Mem → Prop) : Prop :=
  (seeCons args F fun a1 q2 => (seeI .i64 a1 F fun t => (seeNil q2 F (seeNil m F (f t (fun (u0 : List Int) => K (.tup [(.agg [(.S u0), (.I .i64 (0 : Int)), .nilf, .nilf]), (.B false)]) []) (fun (u0 : List Int) => K (.tup [(.agg [(.S u0), (.I .i64 (4 : Int)), (.fn (.func 91) [] []), (.fn (.func 88) [] [])]), (.B true)]) []) (fun (u0 : List Int) => K (.tup [(.agg [(.S u0), (.I .i64 (4 : Int)), (.fn (.func 90) [] []), (.fn (.func 88) [] [])]), (.B true)]) []) (fun (u0 : List Int) => K (.tup [(.agg [(.S u0), (.I .i64 (4 : Int)), (.fn (.func 85) [] []), (.fn (.func 88) [] [])]), (.B true)]) []) (fun (u0 : List Int) => K (.tup [(.agg [(.S u0), (.I .i64 (4 : Int)), (.fn (.func 85) [] []), (.fn (.func 89) [] [])]), (.B true)]) []) (fun (u0 : List Int) => K (.tup [(.agg [(.S u0), (.I .i64 (4 : Int)), (.fn (.func 87) [] []), (.fn (.func 88) [] [])]), (.B true)]) []) (fun (u0 : List Int) => K (.tup [(.agg [(.S u0), (.I .i64 (8 : Int)), (.fn (.func 85) [] []), (.fn (.func 86) [] [])]), (.B true)]) []))))))
def T54 (f : Y54) (C : CC) : CC := fun g args m K =>
  match Nat.beq g 54 with
  | true => VT54 f (C g args m K) args m K
  | false => C g args m K
set_option maxRecDepth 100000 in
theorem T54_ok {C : CC} (hC : CallsOk Try.prog C) : CallsOk Try.prog (T54 G54 C) := by
  intro g args m K E w cargs hS ha h
  unfold T54 at h
  split at h
  · rename_i hg
    obtain rfl := Nat.eq_of_beq_eq_true hg
    unfold VT54 at h
    replace h := seeCons_use h
    rcases h with h | ⟨a1, q2, rfl, h⟩
    · exact hC _ _ _ _ _ _ _ hS ha h
    replace h := seeI_use h
    rcases h with h | ⟨t, rfl, h⟩
    · exact hC _ _ _ _ _ _ _ hS ha h
    replace h := seeNil_use h
    rcases h with h | ⟨rfl, h⟩
    · exact hC _ _ _ _ _ _ _ hS ha h
    replace h := seeNil_use h
    rcases h with h | ⟨rfl, h⟩
    · exact hC _ _ _ _ _ _ _ hS ha h
    exact cbody_use named C0_ok at54 (l := 0) rfl (LoopsOk.none _ _) (F54_ok  t K) hS ha h
  · exact hC _ _ _ _ _ _ _ hS ha h
theorem at23 : Try.prog.funcs[23]? = some (fnOf Try.prog 23) := by kernel_rfl
abbrev Y23 : Type := Int → Int → Int → Int → Int → Int → (Int → Int → Prop) → Prop
set_option maxHeartbeats 4000000 in
set_option maxRecDepth 100000 in
def F23 (f54 : Y54) (t : Int) (ps : Int) (pad : Int) (pp : Int) (pg : Int) (ptp : Int) (k1 : Int → Int → Prop) : Prop :=
  (f54 t (fun (xs1 : List Int) => (k1 (0 : Int) (200 : Int))) (fun (xs2 : List Int) => (bif (decide (ps < (-1152921504606846976 : Int))) then (k1 (0 : Int) (11 : Int)) else (bif (decide (ps > (1152921504606846976 : Int))) then (k1 (0 : Int) (11 : Int)) else (bif (decide (pad < (-1152921504606846976 : Int))) then (k1 (0 : Int) (11 : Int)) else (bif (decide (pad > (1152921504606846976 : Int))) then (k1 (0 : Int) (11 : Int)) else (bif (decide (pp < (-1152921504606846976 : Int))) then (k1 (0 : Int) (11 : Int)) else (bif (decide (pp > (1152921504606846976 : Int))) then (k1 (0 : Int) (11 : Int)) else (bif (decide (pg < (-1152921504606846976 : Int))) then (k1 (0 : Int) (11 : Int)) else (bif (decide (pg > (1152921504606846976 : Int))) then (k1 (0 : Int) (11 : Int)) else (bif (decide (ptp < (-1152921504606846976 : Int))) then (k1 (0 : Int) (11 : Int)) else (bif (decide (ptp > (1152921504606846976 : Int))) then (k1 (0 : Int) (11 : Int)) else (k1 (IntKind.wrap .i64 ((IntKind.wrap .i64 (ps + pad)) - ptp)) (0 : Int))))))))))))) (fun (xs3 : List Int) => (bif (decide (ps < (-1152921504606846976 : Int))) then (k1 (0 : Int) (11 : Int)) else (bif (decide (ps > (1152921504606846976 : Int))) then (k1 (0 : Int) (11 : Int)) else (bif (decide (pad < (-1152921504606846976 : Int))) then (k1 (0 : Int) (11 : Int)) else (bif (decide (pad > (1152921504606846976 : Int))) then (k1 (0 : Int) (11 : Int)) else (bif (decide (pp < (-1152921504606846976 : Int))) then (k1 (0 : Int) (11 : Int)) else (bif (decide (pp > (1152921504606846976 : Int))) then (k1 (0 : Int) (11 : Int)) else (bif (decide (pg < (-1152921504606846976 : Int))) then (k1 (0 : Int) (11 : Int)) else (bif (decide (pg > (1152921504606846976 : Int))) then (k1 (0 : Int) (11 : Int)) else (bif (decide (ptp < (-1152921504606846976 : Int))) then (k1 (0 : Int) (11 : Int)) else (bif (decide (ptp > (1152921504606846976 : Int))) then (k1 (0 : Int) (11 : Int)) else (k1 (IntKind.wrap .i64 ((IntKind.wrap .i64 (pg + pad)) - pp)) (0 : Int))))))))))))) (fun (xs4 : List Int) => (bif (decide (ps < (-1152921504606846976 : Int))) then (k1 (0 : Int) (11 : Int)) else (bif (decide (ps > (1152921504606846976 : Int))) then (k1 (0 : Int) (11 : Int)) else (bif (decide (pad < (-1152921504606846976 : Int))) then (k1 (0 : Int) (11 : Int)) else (bif (decide (pad > (1152921504606846976 : Int))) then (k1 (0 : Int) (11 : Int)) else (bif (decide (pp < (-1152921504606846976 : Int))) then (k1 (0 : Int) (11 : Int)) else (bif (decide (pp > (1152921504606846976 : Int))) then (k1 (0 : Int) (11 : Int)) else (bif (decide (pg < (-1152921504606846976 : Int))) then (k1 (0 : Int) (11 : Int)) else (bif (decide (pg > (1152921504606846976 : Int))) then (k1 (0 : Int) (11 : Int)) else (bif (decide (ptp < (-1152921504606846976 : Int))) then (k1 (0 : Int) (11 : Int)) else (bif (decide (ptp > (1152921504606846976 : Int))) then (k1 (0 : Int) (11 : Int)) else (k1 (IntKind.wrap .i64 (ps + pad)) (0 : Int))))))))))))) (fun (xs5 : List Int) => (bif (decide (ps < (-1152921504606846976 : Int))) then (k1 (0 : Int) (11 : Int)) else (bif (decide (ps > (1152921504606846976 : Int))) then (k1 (0 : Int) (11 : Int)) else (bif (decide (pad < (-1152921504606846976 : Int))) then (k1 (0 : Int) (11 : Int)) else (bif (decide (pad > (1152921504606846976 : Int))) then (k1 (0 : Int) (11 : Int)) else (bif (decide (pp < (-1152921504606846976 : Int))) then (k1 (0 : Int) (11 : Int)) else (bif (decide (pp > (1152921504606846976 : Int))) then (k1 (0 : Int) (11 : Int)) else (bif (decide (pg < (-1152921504606846976 : Int))) then (k1 (0 : Int) (11 : Int)) else (bif (decide (pg > (1152921504606846976 : Int))) then (k1 (0 : Int) (11 : Int)) else (bif (decide (ptp < (-1152921504606846976 : Int))) then (k1 (0 : Int) (11 : Int)) else (bif (decide (ptp > (1152921504606846976 : Int))) then (k1 (0 : Int) (11 : Int)) else (k1 (IntKind.wrap .i64 (ps + pad)) (0 : Int))))))))))))) (fun (xs6 : List Int) => (bif (decide (ps < (-1152921504606846976 : Int))) then (k1 (0 : Int) (11 : Int)) else (bif (decide (ps > (1152921504606846976 : Int))) then (k1 (0 : Int) (11 : Int)) else (bif (decide (pad < (-1152921504606846976 : Int))) then (k1 (0 : Int) (11 : Int)) else (bif (decide (pad > (1152921504606846976 : Int))) then (k1 (0 : Int) (11 : Int)) else (bif (decide (pp < (-1152921504606846976 : Int))) then (k1 (0 : Int) (11 : Int)) else (bif (decide (pp > (1152921504606846976 : Int))) then (k1 (0 : Int) (11 : Int)) else (bif (decide (pg < (-1152921504606846976 : Int))) then (k1 (0 : Int) (11 : Int)) else (bif (decide (pg > (1152921504606846976 : Int))) then (k1 (0 : Int) (11 : Int)) else (bif (decide (ptp < (-1152921504606846976 : Int))) then (k1 (0 : Int) (11 : Int)) else (bif (decide (ptp > (1152921504606846976 : Int))) then (k1 (0 : Int) (11 : Int)) else (k1 (IntKind.wrap .i64 ((IntKind.wrap .i64 (ps + pad)) - pp)) (0 : Int))))))))))))) (fun (xs7 : List Int) => (bif (decide (ps < (-1152921504606846976 : Int))) then (k1 (0 : Int) (11 : Int)) else (bif (decide (ps > (1152921504606846976 : Int))) then (k1 (0 : Int) (11 : Int)) else (bif (decide (pad < (-1152921504606846976 : Int))) then (k1 (0 : Int) (11 : Int)) else (bif (decide (pad > (1152921504606846976 : Int))) then (k1 (0 : Int) (11 : Int)) else (bif (decide (pp < (-1152921504606846976 : Int))) then (k1 (0 : Int) (11 : Int)) else (bif (decide (pp > (1152921504606846976 : Int))) then (k1 (0 : Int) (11 : Int)) else (bif (decide (pg < (-1152921504606846976 : Int))) then (k1 (0 : Int) (11 : Int)) else (bif (decide (pg > (1152921504606846976 : Int))) then (k1 (0 : Int) (11 : Int)) else (bif (decide (ptp < (-1152921504606846976 : Int))) then (k1 (0 : Int) (11 : Int)) else (bif (decide (ptp > (1152921504606846976 : Int))) then (k1 (0 : Int) (11 : Int)) else (k1 (IntKind.wrap .i64 (ps + pad)) (0 : Int))))))))))))))
theorem F23_ok (f54 : Y54) (t : Int) (ps : Int) (pad : Int) (pp : Int) (pg : Int) (ptp : Int) (K : V → Mem → Prop) : cbody Try.prog (T54 f54 C0) (fun _ => none) 1000 (fnOf Try.prog 23) [(.I .i64 t), (.agg [(.I .i64 ps), (.I .i64 pad), (.I .i64 pp), (.I .i64 pg), (.I .i64 ptp)])] [] K =
    F23 f54 t ps pad pp pg ptp (fun (u0 : Int) (u1 : Int) => K (.tup [(.I .i64 u0), (.I .i64 u1)]) []) := by kernel_rfl
def G23 : Y23 := F23 G54
def VT23 (f : Y23) (F : Prop) (args : List V) (m : Mem) (K : V → Mem → Prop) : Prop :=
  (seeCons args F fun a1 q2 => (seeI .i64 a1 F fun t => (seeCons q2 F fun a3 q4 => (seeAgg a3 F fun vs5 => (seeCons vs5 F fun a6 q7 => (seeI .i64 a6 F fun ps => (seeCons q7 F fun a8 q9 => (seeI .i64 a8 F fun pad => (seeCons q9 F fun a10 q11 => (seeI .i64 a10 F fun pp => (seeCons q11 F fun a12 q13 => (seeI .i64 a12 F fun pg => (seeCons q13 F fun a14 q15 => (seeI .i64 a14 F fun ptp => (seeNil q15 F (seeNil q4 F (seeNil m F (f t ps pad pp pg ptp (fun (u0 : Int) (u1 : Int) => K (.tup [(.I .i64 u0), (.I .i64 u1)]) [])))))))))))))))))))
def T23 (f : Y23) (C : CC) : CC := fun g args m K =>
  match Nat.beq g 23 with
  | true => VT23 f (C g args m K) args m K
  | false => C g args m K
set_option maxRecDepth 100000 in
theorem T23_ok {C : CC} (hC : CallsOk Try.prog C) : CallsOk Try.prog (T23 G23 C) := by
  intro g args m K E w cargs hS ha h
  unfold T23 at h
  split at h
  · rename_i hg
    obtain rfl := Nat.eq_of_beq_eq_true hg
    unfold VT23 at h
    replace h := seeCons_use h
    rcases h with h | ⟨a1, q2, rfl, h⟩
    · exact hC _ _ _ _ _ _ _ hS ha h
    replace h := seeI_use h
    rcases h with h | ⟨t, rfl, h⟩
    · exact hC _ _ _ _ _ _ _ hS ha h
    replace h := seeCons_use h
    rcases h with h | ⟨a3, q4, rfl, h⟩
    · exact hC _ _ _ _ _ _ _ hS ha h
    replace h := seeAgg_use h
    rcases h with h | ⟨vs5, rfl, h⟩
    · exact hC _ _ _ _ _ _ _ hS ha h
    replace h := seeCons_use h
    rcases h with h | ⟨a6, q7, rfl, h⟩
    · exact hC _ _ _ _ _ _ _ hS ha h
    replace h := seeI_use h
    rcases h with h | ⟨ps, rfl, h⟩
    · exact hC _ _ _ _ _ _ _ hS ha h
    replace h := seeCons_use h
    rcases h with h | ⟨a8, q9, rfl, h⟩
    · exact hC _ _ _ _ _ _ _ hS ha h
    replace h := seeI_use h
    rcases h with h | ⟨pad, rfl, h⟩
    · exact hC _ _ _ _ _ _ _ hS ha h
    replace h := seeCons_use h
    rcases h with h | ⟨a10, q11, rfl, h⟩
    · exact hC _ _ _ _ _ _ _ hS ha h
    replace h := seeI_use h
    rcases h with h | ⟨pp, rfl, h⟩
    · exact hC _ _ _ _ _ _ _ hS ha h
    replace h := seeCons_use h
    rcases h with h | ⟨a12, q13, rfl, h⟩
    · exact hC _ _ _ _ _ _ _ hS ha h
    replace h := seeI_use h
    rcases h with h | ⟨pg, rfl, h⟩
    · exact hC _ _ _ _ _ _ _ hS ha h
    replace h := seeCons_use h
    rcases h with h | ⟨a14, q15, rfl, h⟩
    · exact hC _ _ _ _ _ _ _ hS ha h
    replace h := seeI_use h
    rcases h with h | ⟨ptp, rfl, h⟩
    · exact hC _ _ _ _ _ _ _ hS ha h
    replace h := seeNil_use h
    rcases h with h | ⟨rfl, h⟩
    · exact hC _ _ _ _ _ _ _ hS ha h
    replace h := seeNil_use h
    rcases h with h | ⟨rfl, h⟩
    · exact hC _ _ _ _ _ _ _ hS ha h
    replace h := seeNil_use h
    rcases h with h | ⟨rfl, h⟩
    · exact hC _ _ _ _ _ _ _ hS ha h
    exact cbody_use named (T54_ok C0_ok) at23 (l := 0) rfl (LoopsOk.none _ _) (F23_ok G54 t ps pad pp pg ptp K) hS ha h
  · exact hC _ _ _ _ _ _ _ hS ha h
theorem at28 : Try.prog.funcs[28]? = some (fnOf Try.prog 28) := by kernel_rfl
abbrev Y28 : Type := Int → Int → Int → Int → Int → (Prop) → Prop
set_option maxHeartbeats 4000000 in
set_option maxRecDepth 100000 in
def F28  (ps : Int) (pad : Int) (pp : Int) (pg : Int) (ptp : Int) (k1 : Prop) : Prop :=
  (k1)
theorem F28_ok  (ps : Int) (pad : Int) (pp : Int) (pg : Int) (ptp : Int) (K : V → Mem → Prop) : cbody Try.prog C0 (fun _ => none) 1000 (fnOf Try.prog 28) [(.agg [(.I .i64 ps), (.I .i64 pad), (.I .i64 pp), (.I .i64 pg), (.I .i64 ptp)])] [] K =
    F28  ps pad pp pg ptp (K (.agg [(.I .i64 ps), (.I .i64 pad), (.I .i64 pp), (.I .i64 pg), (.I .i64 ptp)]) []) := by kernel_rfl
def G28 : Y28 := F28 
def VT28 (f : Y28) (F : Prop) (args : List V) (m : Mem) (K : V → Mem → Prop) : Prop :=
  (seeCons args F fun a1 q2 => (seeAgg a1 F fun vs3 => (seeCons vs3 F fun a4 q5 => (seeI .i64 a4 F fun ps => (seeCons q5 F fun a6 q7 => (seeI .i64 a6 F fun pad => (seeCons q7 F fun a8 q9 => (seeI .i64 a8 F fun pp => (seeCons q9 F fun a10 q11 => (seeI .i64 a10 F fun pg => (seeCons q11 F fun a12 q13 => (seeI .i64 a12 F fun ptp => (seeNil q13 F (seeNil q2 F (seeNil m F (f ps pad pp pg ptp (K (.agg [(.I .i64 ps), (.I .i64 pad), (.I .i64 pp), (.I .i64 pg), (.I .i64 ptp)]) [])))))))))))))))))
def T28 (f : Y28) (C : CC) : CC := fun g args m K =>
  match Nat.beq g 28 with
  | true => VT28 f (C g args m K) args m K
  | false => C g args m K
set_option maxRecDepth 100000 in
theorem T28_ok {C : CC} (hC : CallsOk Try.prog C) : CallsOk Try.prog (T28 G28 C) := by
  intro g args m K E w cargs hS ha h
  unfold T28 at h
  split at h
  · rename_i hg
    obtain rfl := Nat.eq_of_beq_eq_true hg
    unfold VT28 at h
    replace h := seeCons_use h
    rcases h with h | ⟨a1, q2, rfl, h⟩
    · exact hC _ _ _ _ _ _ _ hS ha h
    replace h := seeAgg_use h
    rcases h with h | ⟨vs3, rfl, h⟩
    · exact hC _ _ _ _ _ _ _ hS ha h
    replace h := seeCons_use h
    rcases h with h | ⟨a4, q5, rfl, h⟩
    · exact hC _ _ _ _ _ _ _ hS ha h
    replace h := seeI_use h
    rcases h with h | ⟨ps, rfl, h⟩
    · exact hC _ _ _ _ _ _ _ hS ha h
    replace h := seeCons_use h
    rcases h with h | ⟨a6, q7, rfl, h⟩
    · exact hC _ _ _ _ _ _ _ hS ha h
    replace h := seeI_use h
    rcases h with h | ⟨pad, rfl, h⟩
    · exact hC _ _ _ _ _ _ _ hS ha h
    replace h := seeCons_use h
    rcases h with h | ⟨a8, q9, rfl, h⟩
    · exact hC _ _ _ _ _ _ _ hS ha h
    replace h := seeI_use h
    rcases h with h | ⟨pp, rfl, h⟩
    · exact hC _ _ _ _ _ _ _ hS ha h
    replace h := seeCons_use h
    rcases h with h | ⟨a10, q11, rfl, h⟩
    · exact hC _ _ _ _ _ _ _ hS ha h
    replace h := seeI_use h
    rcases h with h | ⟨pg, rfl, h⟩
    · exact hC _ _ _ _ _ _ _ hS ha h
    replace h := seeCons_use h
    rcases h with h | ⟨a12, q13, rfl, h⟩
    · exact hC _ _ _ _ _ _ _ hS ha h
    replace h := seeI_use h
    rcases h with h | ⟨ptp, rfl, h⟩
    · exact hC _ _ _ _ _ _ _ hS ha h
    replace h := seeNil_use h
    rcases h with h | ⟨rfl, h⟩
    · exact hC _ _ _ _ _ _ _ hS ha h
    replace h := seeNil_use h
    rcases h with h | ⟨rfl, h⟩
    · exact hC _ _ _ _ _ _ _ hS ha h
    replace h := seeNil_use h
    rcases h with h | ⟨rfl, h⟩
    · exact hC _ _ _ _ _ _ _ hS ha h
    exact cbody_use named C0_ok at28 (l := 0) rfl (LoopsOk.none _ _) (F28_ok  ps pad pp pg ptp K) hS ha h
  · exact hC _ _ _ _ _ _ _ hS ha h
theorem at31 : Try.prog.funcs[31]? = some (fnOf Try.prog 31) := by kernel_rfl
abbrev Y31 : Type := Int → (Int → Int → Prop) → Prop
set_option maxHeartbeats 4000000 in
set_option maxRecDepth 100000 in
def F31 (f54 : Y54) (t : Int) (k1 : Int → Int → Prop) : Prop :=
  (f54 t (fun (xs1 : List Int) => (k1 (0 : Int) (200 : Int))) (fun (xs2 : List Int) => (k1 (4 : Int) (0 : Int))) (fun (xs3 : List Int) => (k1 (4 : Int) (0 : Int))) (fun (xs4 : List Int) => (k1 (4 : Int) (0 : Int))) (fun (xs5 : List Int) => (k1 (4 : Int) (0 : Int))) (fun (xs6 : List Int) => (k1 (4 : Int) (0 : Int))) (fun (xs7 : List Int) => (k1 (8 : Int) (0 : Int))))
theorem F31_ok (f54 : Y54) (t : Int) (K : V → Mem → Prop) : cbody Try.prog (T54 f54 C0) (fun _ => none) 1000 (fnOf Try.prog 31) [(.I .i64 t)] [] K =
    F31 f54 t (fun (u0 : Int) (u1 : Int) => K (.tup [(.I .i64 u0), (.I .i64 u1)]) []) := by kernel_rfl
def G31 : Y31 := F31 G54
def VT31 (f : Y31) (F : Prop) (args : List V) (m : Mem) (K : V → Mem → Prop) : Prop :=
  (seeCons args F fun a1 q2 => (seeI .i64 a1 F fun t => (seeNil q2 F (seeNil m F (f t (fun (u0 : Int) (u1 : Int) => K (.tup [(.I .i64 u0), (.I .i64 u1)]) []))))))
def T31 (f : Y31) (C : CC) : CC := fun g args m K =>
  match Nat.beq g 31 with
  | true => VT31 f (C g args m K) args m K
  | false => C g args m K
set_option maxRecDepth 100000 in
theorem T31_ok {C : CC} (hC : CallsOk Try.prog C) : CallsOk Try.prog (T31 G31 C) := by
  intro g args m K E w cargs hS ha h
  unfold T31 at h
  split at h
  · rename_i hg
    obtain rfl := Nat.eq_of_beq_eq_true hg
    unfold VT31 at h
    replace h := seeCons_use h
    rcases h with h | ⟨a1, q2, rfl, h⟩
    · exact hC _ _ _ _ _ _ _ hS ha h
    replace h := seeI_use h
    rcases h with h | ⟨t, rfl, h⟩
    · exact hC _ _ _ _ _ _ _ hS ha h
    replace h := seeNil_use h
    rcases h with h | ⟨rfl, h⟩
    · exact hC _ _ _ _ _ _ _ hS ha h
    replace h := seeNil_use h
    rcases h with h | ⟨rfl, h⟩
    · exact hC _ _ _ _ _ _ _ hS ha h
    exact cbody_use named (T54_ok C0_ok) at31 (l := 0) rfl (LoopsOk.none _ _) (F31_ok G54 t K) hS ha h
  · exact hC _ _ _ _ _ _ _ hS ha h
theorem at32 : Try.prog.funcs[32]? = some (fnOf Try.prog 32) := by kernel_rfl
abbrev Y32a : Type := Int → (Prop) → (Prop) → (Prop) → Prop
set_option maxHeartbeats 4000000 in
set_option maxRecDepth 100000 in
def F32a  (t : Int) (k1 : Prop) (k2 : Prop) (k3 : Prop) : Prop :=
  (bif (t == (1 : Int)) then (k1) else (bif (t == (2 : Int)) then (bif (t == (2 : Int)) then (k2) else (k3)) else (bif (t == (4 : Int)) then (bif (t == (4 : Int)) then (k2) else (k3)) else (bif (t == (10 : Int)) then (bif (t == (10 : Int)) then (k2) else (k3)) else (bif (t == (11 : Int)) then (bif (t == (11 : Int)) then (k2) else (k3)) else (bif (t == (9 : Int)) then (bif (t == (9 : Int)) then (k2) else (k3)) else (bif (t == (22 : Int)) then (bif (t == (22 : Int)) then (k2) else (k3)) else (bif (t == (23 : Int)) then (bif (t == (23 : Int)) then (k2) else (k3)) else (bif (t == (21 : Int)) then (k2) else (k3))))))))))
theorem F32a_ok  (t : Int) (K : V → Mem → Prop) : cbody Try.prog C0 (fun _ => none) 1000 (fnOf Try.prog 32) [(.I .i64 t)] [] K =
    F32a  t (K (.tup [(.I .i64 (8 : Int)), (.I .i64 (0 : Int))]) []) (K (.tup [(.I .i64 (4 : Int)), (.I .i64 (0 : Int))]) []) (K (.tup [(.I .i64 (0 : Int)), (.I .i64 (200 : Int))]) []) := by kernel_rfl
def G32a : Y32a := F32a 
def VT32a (f : Y32a) (F : Prop) (args : List V) (m : Mem) (K : V → Mem → Prop) : Prop :=
  (seeCons args F fun a1 q2 => (seeI .i64 a1 F fun t => (seeNil q2 F (seeNil m F (f t (K (.tup [(.I .i64 (8 : Int)), (.I .i64 (0 : Int))]) []) (K (.tup [(.I .i64 (4 : Int)), (.I .i64 (0 : Int))]) []) (K (.tup [(.I .i64 (0 : Int)), (.I .i64 (200 : Int))]) []))))))
def T32a (f : Y32a) (C : CC) : CC := fun g args m K =>
  match Nat.beq g 32 with
  | true => VT32a f (C g args m K) args m K
  | false => C g args m K
set_option maxRecDepth 100000 in
theorem T32a_ok {C : CC} (hC : CallsOk Try.prog C) : CallsOk Try.prog (T32a G32a C) := by
  intro g args m K E w cargs hS ha h
  unfold T32a at h
  split at h
  · rename_i hg
    obtain rfl := Nat.eq_of_beq_eq_true hg
    unfold VT32a at h
    replace h := seeCons_use h
    rcases h with h | ⟨a1, q2, rfl, h⟩
    · exact hC _ _ _ _ _ _ _ hS ha h
    replace h := seeI_use h
    rcases h with h | ⟨t, rfl, h⟩
    · exact hC _ _ _ _ _ _ _ hS ha h
    replace h := seeNil_use h
    rcases h with h | ⟨rfl, h⟩
    · exact hC _ _ _ _ _ _ _ hS ha h
    replace h := seeNil_use h
    rcases h with h | ⟨rfl, h⟩
    · exact hC _ _ _ _ _ _ _ hS ha h
    exact cbody_use named C0_ok at32 (l := 0) rfl (LoopsOk.none _ _) (F32a_ok  t K) hS ha h
  · exact hC _ _ _ _ _ _ _ hS ha h
theorem at33 : Try.prog.funcs[33]? = some (fnOf Try.prog 33) := by kernel_rfl
abbrev Y33 : Type := Int → Int → Int → Int → Int → Int → (Int → Int → Prop) → Prop
set_option maxHeartbeats 4000000 in
set_option maxRecDepth 100000 in
def F33 (f32a : Y32a) (t : Int) (ps : Int) (pad : Int) (pp : Int) (pg : Int) (ptp : Int) (k1 : Int → Int → Prop) : Prop :=
  (f32a t ((bif (decide (ps < (-1152921504606846976 : Int))) then (k1 (0 : Int) (11 : Int)) else (bif (decide (ps > (1152921504606846976 : Int))) then (k1 (0 : Int) (11 : Int)) else (bif (decide (pad < (-1152921504606846976 : Int))) then (k1 (0 : Int) (11 : Int)) else (bif (decide (pad > (1152921504606846976 : Int))) then (k1 (0 : Int) (11 : Int)) else (bif (decide (pp < (-1152921504606846976 : Int))) then (k1 (0 : Int) (11 : Int)) else (bif (decide (pp > (1152921504606846976 : Int))) then (k1 (0 : Int) (11 : Int)) else (bif (decide (pg < (-1152921504606846976 : Int))) then (k1 (0 : Int) (11 : Int)) else (bif (decide (pg > (1152921504606846976 : Int))) then (k1 (0 : Int) (11 : Int)) else (bif (decide (ptp < (-1152921504606846976 : Int))) then (k1 (0 : Int) (11 : Int)) else (bif (decide (ptp > (1152921504606846976 : Int))) then (k1 (0 : Int) (11 : Int)) else (bif (t == (2 : Int)) then (bif (t == (2 : Int)) then (k1 (IntKind.wrap .i64 ((IntKind.wrap .i64 (ps + pad)) - pp)) (0 : Int)) else (bif (t == (9 : Int)) then (bif (t == (9 : Int)) then (k1 (IntKind.wrap .i64 ((IntKind.wrap .i64 (pg + pad)) - pp)) (0 : Int)) else (bif (t == (23 : Int)) then (bif (t == (23 : Int)) then (k1 (IntKind.wrap .i64 ((IntKind.wrap .i64 (ps + pad)) - ptp)) (0 : Int)) else (k1 (IntKind.wrap .i64 (ps + pad)) (0 : Int))) else (bif (t == (21 : Int)) then (k1 (IntKind.wrap .i64 ((IntKind.wrap .i64 (ps + pad)) - ptp)) (0 : Int)) else (k1 (IntKind.wrap .i64 (ps + pad)) (0 : Int))))) else (bif (t == (22 : Int)) then (k1 (IntKind.wrap .i64 ((IntKind.wrap .i64 (pg + pad)) - pp)) (0 : Int)) else (bif (t == (23 : Int)) then (bif (t == (23 : Int)) then (k1 (IntKind.wrap .i64 ((IntKind.wrap .i64 (ps + pad)) - ptp)) (0 : Int)) else (k1 (IntKind.wrap .i64 (ps + pad)) (0 : Int))) else (bif (t == (21 : Int)) then (k1 (IntKind.wrap .i64 ((IntKind.wrap .i64 (ps + pad)) - ptp)) (0 : Int)) else (k1 (IntKind.wrap .i64 (ps + pad)) (0 : Int))))))) else (bif (t == (4 : Int)) then (k1 (IntKind.wrap .i64 ((IntKind.wrap .i64 (ps + pad)) - pp)) (0 : Int)) else (bif (t == (9 : Int)) then (bif (t == (9 : Int)) then (k1 (IntKind.wrap .i64 ((IntKind.wrap .i64 (pg + pad)) - pp)) (0 : Int)) else (bif (t == (23 : Int)) then (bif (t == (23 : Int)) then (k1 (IntKind.wrap .i64 ((IntKind.wrap .i64 (ps + pad)) - ptp)) (0 : Int)) else (k1 (IntKind.wrap .i64 (ps + pad)) (0 : Int))) else (bif (t == (21 : Int)) then (k1 (IntKind.wrap .i64 ((IntKind.wrap .i64 (ps + pad)) - ptp)) (0 : Int)) else (k1 (IntKind.wrap .i64 (ps + pad)) (0 : Int))))) else (bif (t == (22 : Int)) then (k1 (IntKind.wrap .i64 ((IntKind.wrap .i64 (pg + pad)) - pp)) (0 : Int)) else (bif (t == (23 : Int)) then (bif (t == (23 : Int)) then (k1 (IntKind.wrap .i64 ((IntKind.wrap .i64 (ps + pad)) - ptp)) (0 : Int)) else (k1 (IntKind.wrap .i64 (ps + pad)) (0 : Int))) else (bif (t == (21 : Int)) then (k1 (IntKind.wrap .i64 ((IntKind.wrap .i64 (ps + pad)) - ptp)) (0 : Int)) else (k1 (IntKind.wrap .i64 (ps + pad)) (0 : Int))))))))))))))))))) ((bif (decide (ps < (-1152921504606846976 : Int))) then (k1 (0 : Int) (11 : Int)) else (bif (decide (ps > (1152921504606846976 : Int))) then (k1 (0 : Int) (11 : Int)) else (bif (decide (pad < (-1152921504606846976 : Int))) then (k1 (0 : Int) (11 : Int)) else (bif (decide (pad > (1152921504606846976 : Int))) then (k1 (0 : Int) (11 : Int)) else (bif (decide (pp < (-1152921504606846976 : Int))) then (k1 (0 : Int) (11 : Int)) else (bif (decide (pp > (1152921504606846976 : Int))) then (k1 (0 : Int) (11 : Int)) else (bif (decide (pg < (-1152921504606846976 : Int))) then (k1 (0 : Int) (11 : Int)) else (bif (decide (pg > (1152921504606846976 : Int))) then (k1 (0 : Int) (11 : Int)) else (bif (decide (ptp < (-1152921504606846976 : Int))) then (k1 (0 : Int) (11 : Int)) else (bif (decide (ptp > (1152921504606846976 : Int))) then (k1 (0 : Int) (11 : Int)) else (bif (t == (2 : Int)) then (bif (t == (2 : Int)) then (k1 (IntKind.wrap .i64 ((IntKind.wrap .i64 (ps + pad)) - pp)) (0 : Int)) else (bif (t == (9 : Int)) then (bif (t == (9 : Int)) then (k1 (IntKind.wrap .i64 ((IntKind.wrap .i64 (pg + pad)) - pp)) (0 : Int)) else (bif (t == (23 : Int)) then (bif (t == (23 : Int)) then (k1 (IntKind.wrap .i64 ((IntKind.wrap .i64 (ps + pad)) - ptp)) (0 : Int)) else (k1 (IntKind.wrap .i64 (ps + pad)) (0 : Int))) else (bif (t == (21 : Int)) then (k1 (IntKind.wrap .i64 ((IntKind.wrap .i64 (ps + pad)) - ptp)) (0 : Int)) else (k1 (IntKind.wrap .i64 (ps + pad)) (0 : Int))))) else (bif (t == (22 : Int)) then (k1 (IntKind.wrap .i64 ((IntKind.wrap .i64 (pg + pad)) - pp)) (0 : Int)) else (bif (t == (23 : Int)) then (bif (t == (23 : Int)) then (k1 (IntKind.wrap .i64 ((IntKind.wrap .i64 (ps + pad)) - ptp)) (0 : Int)) else (k1 (IntKind.wrap .i64 (ps + pad)) (0 : Int))) else (bif (t == (21 : Int)) then (k1 (IntKind.wrap .i64 ((IntKind.wrap .i64 (ps + pad)) - ptp)) (0 : Int)) else (k1 (IntKind.wrap .i64 (ps + pad)) (0 : Int))))))) else (bif (t == (4 : Int)) then (k1 (IntKind.wrap .i64 ((IntKind.wrap .i64 (ps + pad)) - pp)) (0 : Int)) else (bif (t == (9 : Int)) then (bif (t == (9 : Int)) then (k1 (IntKind.wrap .i64 ((IntKind.wrap .i64 (pg + pad)) - pp)) (0 : Int)) else (bif (t == (23 : Int)) then (bif (t == (23 : Int)) then (k1 (IntKind.wrap .i64 ((IntKind.wrap .i64 (ps + pad)) - ptp)) (0 : Int)) else (k1 (IntKind.wrap .i64 (ps + pad)) (0 : Int))) else (bif (t == (21 : Int)) then (k1 (IntKind.wrap .i64 ((IntKind.wrap .i64 (ps + pad)) - ptp)) (0 : Int)) else (k1 (IntKind.wrap .i64 (ps + pad)) (0 : Int))))) else (bif (t == (22 : Int)) then (k1 (IntKind.wrap .i64 ((IntKind.wrap .i64 (pg + pad)) - pp)) (0 : Int)) else (bif (t == (23 : Int)) then (bif (t == (23 : Int)) then (k1 (IntKind.wrap .i64 ((IntKind.wrap .i64 (ps + pad)) - ptp)) (0 : Int)) else (k1 (IntKind.wrap .i64 (ps + pad)) (0 : Int))) else (bif (t == (21 : Int)) then (k1 (IntKind.wrap .i64 ((IntKind.wrap .i64 (ps + pad)) - ptp)) (0 : Int)) else (k1 (IntKind.wrap .i64 (ps + pad)) (0 : Int))))))))))))))))))) ((k1 (0 : Int) (200 : Int))))
theorem F33_ok (f32a : Y32a) (t : Int) (ps : Int) (pad : Int) (pp : Int) (pg : Int) (ptp : Int) (K : V → Mem → Prop) : cbody Try.prog (T32a f32a C0) (fun _ => none) 1000 (fnOf Try.prog 33) [(.I .i64 t), (.agg [(.I .i64 ps), (.I .i64 pad), (.I .i64 pp), (.I .i64 pg), (.I .i64 ptp)])] [] K =
    F33 f32a t ps pad pp pg ptp (fun (u0 : Int) (u1 : Int) => K (.tup [(.I .i64 u0), (.I .i64 u1)]) []) := by kernel_rfl
def G33 : Y33 := F33 G32a
def VT33 (f : Y33) (F : Prop) (args : List V) (m : Mem) (K : V → Mem → Prop) : Prop :=
  (seeCons args F fun a1 q2 => (seeI .i64 a1 F fun t => (seeCons q2 F fun a3 q4 => (seeAgg a3 F fun vs5 => (seeCons vs5 F fun a6 q7 => (seeI .i64 a6 F fun ps => (seeCons q7 F fun a8 q9 => (seeI .i64 a8 F fun pad => (seeCons q9 F fun a10 q11 => (seeI .i64 a10 F fun pp => (seeCons q11 F fun a12 q13 => (seeI .i64 a12 F fun pg => (seeCons q13 F fun a14 q15 => (seeI .i64 a14 F fun ptp => (seeNil q15 F (seeNil q4 F (seeNil m F (f t ps pad pp pg ptp (fun (u0 : Int) (u1 : Int) => K (.tup [(.I .i64 u0), (.I .i64 u1)]) [])))))))))))))))))))
def T33 (f : Y33) (C : CC) : CC := fun g args m K =>
  match Nat.beq g 33 with
  | true => VT33 f (C g args m K) args m K
  | false => C g args m K
set_option maxRecDepth 100000 in
theorem T33_ok {C : CC} (hC : CallsOk Try.prog C) : CallsOk Try.prog (T33 G33 C) := by
  intro g args m K E w cargs hS ha h
  unfold T33 at h
  split at h
  · rename_i hg
    obtain rfl := Nat.eq_of_beq_eq_true hg
    unfold VT33 at h
    replace h := seeCons_use h
    rcases h with h | ⟨a1, q2, rfl, h⟩
    · exact hC _ _ _ _ _ _ _ hS ha h
    replace h := seeI_use h
    rcases h with h | ⟨t, rfl, h⟩
    · exact hC _ _ _ _ _ _ _ hS ha h
    replace h := seeCons_use h
    rcases h with h | ⟨a3, q4, rfl, h⟩
    · exact hC _ _ _ _ _ _ _ hS ha h
    replace h := seeAgg_use h
    rcases h with h | ⟨vs5, rfl, h⟩
    · exact hC _ _ _ _ _ _ _ hS ha h
    replace h := seeCons_use h
    rcases h with h | ⟨a6, q7, rfl, h⟩
    · exact hC _ _ _ _ _ _ _ hS ha h
    replace h := seeI_use h
    rcases h with h | ⟨ps, rfl, h⟩
    · exact hC _ _ _ _ _ _ _ hS ha h
    replace h := seeCons_use h
    rcases h with h | ⟨a8, q9, rfl, h⟩
    · exact hC _ _ _ _ _ _ _ hS ha h
    replace h := seeI_use h
    rcases h with h | ⟨pad, rfl, h⟩
    · exact hC _ _ _ _ _ _ _ hS ha h
    replace h := seeCons_use h
    rcases h with h | ⟨a10, q11, rfl, h⟩
    · exact hC _ _ _ _ _ _ _ hS ha h
    replace h := seeI_use h
    rcases h with h | ⟨pp, rfl, h⟩
    · exact hC _ _ _ _ _ _ _ hS ha h
    replace h := seeCons_use h
    rcases h with h | ⟨a12, q13, rfl, h⟩
    · exact hC _ _ _ _ _ _ _ hS ha h
    replace h := seeI_use h
    rcases h with h | ⟨pg, rfl, h⟩
    · exact hC _ _ _ _ _ _ _ hS ha h
    replace h := seeCons_use h
    rcases h with h | ⟨a14, q15, rfl, h⟩
    · exact hC _ _ _ _ _ _ _ hS ha h
    replace h := seeI_use h
    rcases h with h | ⟨ptp, rfl, h⟩
    · exact hC _ _ _ _ _ _ _ hS ha h
    replace h := seeNil_use h
    rcases h with h | ⟨rfl, h⟩
    · exact hC _ _ _ _ _ _ _ hS ha h
    replace h := seeNil_use h
    rcases h with h | ⟨rfl, h⟩
    · exact hC _ _ _ _ _ _ _ hS ha h
    replace h := seeNil_use h
    rcases h with h | ⟨rfl, h⟩
    · exact hC _ _ _ _ _ _ _ hS ha h
    exact cbody_use named (T32a_ok C0_ok) at33 (l := 0) rfl (LoopsOk.none _ _) (F33_ok G32a t ps pad pp pg ptp K) hS ha h
  · exact hC _ _ _ _ _ _ _ hS ha h
theorem at35 : Try.prog.funcs[35]? = some (fnOf Try.prog 35) := by kernel_rfl
abbrev Y35 : Type := Int → Int → (Bool → Int → Prop) → Prop
set_option maxHeartbeats 4000000 in
set_option maxRecDepth 100000 in
def F35 (f32a : Y32a) (t : Int) (n : Int) (k1 : Bool → Int → Prop) : Prop :=
  (f32a t ((k1 true (0 : Int))) ((bif (t == (10 : Int)) then (bif (decide (n ≥ (0 : Int))) then (k1 (decide (n < (4294967296 : Int))) (0 : Int)) else (k1 false (0 : Int))) else (bif (decide (n ≥ (-2147483648 : Int))) then (k1 (decide (n < (2147483648 : Int))) (0 : Int)) else (k1 false (0 : Int))))) ((k1 false (200 : Int))))
theorem F35_ok (f32a : Y32a) (t : Int) (n : Int) (K : V → Mem → Prop) : cbody Try.prog (T32a f32a C0) (fun _ => none) 1000 (fnOf Try.prog 35) [(.I .i64 t), (.I .i64 n)] [] K =
    F35 f32a t n (fun (u0 : Bool) (u1 : Int) => K (.tup [(.B u0), (.I .i64 u1)]) []) := by kernel_rfl
def G35 : Y35 := F35 G32a
def VT35 (f : Y35) (F : Prop) (args : List V) (m : Mem) (K : V → Mem → Prop) : Prop :=
  (seeCons args F fun a1 q2 => (seeI .i64 a1 F fun t => (seeCons q2 F fun a3 q4 => (seeI .i64 a3 F fun n => (seeNil q4 F (seeNil m F (f t n (fun (u0 : Bool) (u1 : Int) => K (.tup [(.B u0), (.I .i64 u1)]) []))))))))
def T35 (f : Y35) (C : CC) : CC := fun g args m K =>
  match Nat.beq g 35 with
  | true => VT35 f (C g args m K) args m K
  | false => C g args m K
set_option maxRecDepth 100000 in
theorem T35_ok {C : CC} (hC : CallsOk Try.prog C) : CallsOk Try.prog (T35 G35 C) := by
  intro g args m K E w cargs hS ha h
  unfold T35 at h
  split at h
  · rename_i hg
    obtain rfl := Nat.eq_of_beq_eq_true hg
    unfold VT35 at h
    replace h := seeCons_use h
    rcases h with h | ⟨a1, q2, rfl, h⟩
    · exact hC _ _ _ _ _ _ _ hS ha h
    replace h := seeI_use h
    rcases h with h | ⟨t, rfl, h⟩
    · exact hC _ _ _ _ _ _ _ hS ha h
    replace h := seeCons_use h
    rcases h with h | ⟨a3, q4, rfl, h⟩
    · exact hC _ _ _ _ _ _ _ hS ha h
    replace h := seeI_use h
    rcases h with h | ⟨n, rfl, h⟩
    · exact hC _ _ _ _ _ _ _ hS ha h
    replace h := seeNil_use h
    rcases h with h | ⟨rfl, h⟩
    · exact hC _ _ _ _ _ _ _ hS ha h
    replace h := seeNil_use h
    rcases h with h | ⟨rfl, h⟩
    · exact hC _ _ _ _ _ _ _ hS ha h
    exact cbody_use named (T32a_ok C0_ok) at35 (l := 0) rfl (LoopsOk.none _ _) (F35_ok G32a t n K) hS ha h
  · exact hC _ _ _ _ _ _ _ hS ha h
abbrev Y32 : Type := Int → (Int → Int → Prop) → Prop
set_option maxHeartbeats 4000000 in
set_option maxRecDepth 100000 in
def F32  (t : Int) (k1 : Int → Int → Prop) : Prop :=
  (bif (t == (1 : Int)) then (k1 (8 : Int) (0 : Int)) else (bif (t == (2 : Int)) then (bif (t == (2 : Int)) then (k1 (4 : Int) (0 : Int)) else (k1 (0 : Int) (200 : Int))) else (bif (t == (4 : Int)) then (bif (t == (4 : Int)) then (k1 (4 : Int) (0 : Int)) else (k1 (0 : Int) (200 : Int))) else (bif (t == (10 : Int)) then (bif (t == (10 : Int)) then (k1 (4 : Int) (0 : Int)) else (k1 (0 : Int) (200 : Int))) else (bif (t == (11 : Int)) then (bif (t == (11 : Int)) then (k1 (4 : Int) (0 : Int)) else (k1 (0 : Int) (200 : Int))) else (bif (t == (9 : Int)) then (bif (t == (9 : Int)) then (k1 (4 : Int) (0 : Int)) else (k1 (0 : Int) (200 : Int))) else (bif (t == (22 : Int)) then (bif (t == (22 : Int)) then (k1 (4 : Int) (0 : Int)) else (k1 (0 : Int) (200 : Int))) else (bif (t == (23 : Int)) then (bif (t == (23 : Int)) then (k1 (4 : Int) (0 : Int)) else (k1 (0 : Int) (200 : Int))) else (bif (t == (21 : Int)) then (k1 (4 : Int) (0 : Int)) else (k1 (0 : Int) (200 : Int)))))))))))
theorem F32_ok  (t : Int) (K : V → Mem → Prop) : cbody Try.prog C0 (fun _ => none) 1000 (fnOf Try.prog 32) [(.I .i64 t)] [] K =
    F32  t (fun (u0 : Int) (u1 : Int) => K (.tup [(.I .i64 u0), (.I .i64 u1)]) []) := by kernel_rfl
def G32 : Y32 := F32 
def VT32 (f : Y32) (F : Prop) (args : List V) (m : Mem) (K : V → Mem → Prop) : Prop :=
  (seeCons args F fun a1 q2 => (seeI .i64 a1 F fun t => (seeNil q2 F (seeNil m F (f t (fun (u0 : Int) (u1 : Int) => K (.tup [(.I .i64 u0), (.I .i64 u1)]) []))))))
def T32 (f : Y32) (C : CC) : CC := fun g args m K =>
  match Nat.beq g 32 with
  | true => VT32 f (C g args m K) args m K
  | false => C g args m K
set_option maxRecDepth 100000 in
theorem T32_ok {C : CC} (hC : CallsOk Try.prog C) : CallsOk Try.prog (T32 G32 C) := by
  intro g args m K E w cargs hS ha h
  unfold T32 at h
  split at h
  · rename_i hg
    obtain rfl := Nat.eq_of_beq_eq_true hg
    unfold VT32 at h
    replace h := seeCons_use h
    rcases h with h | ⟨a1, q2, rfl, h⟩
    · exact hC _ _ _ _ _ _ _ hS ha h
    replace h := seeI_use h
    rcases h with h | ⟨t, rfl, h⟩
    · exact hC _ _ _ _ _ _ _ hS ha h
    replace h := seeNil_use h
    rcases h with h | ⟨rfl, h⟩
    · exact hC _ _ _ _ _ _ _ hS ha h
    replace h := seeNil_use h
    rcases h with h | ⟨rfl, h⟩
    · exact hC _ _ _ _ _ _ _ hS ha h
    exact cbody_use named C0_ok at32 (l := 0) rfl (LoopsOk.none _ _) (F32_ok  t K) hS ha h
  · exact hC _ _ _ _ _ _ _ hS ha h
theorem at34 : Try.prog.funcs[34]? = some (fnOf Try.prog 34) := by kernel_rfl
abbrev Y34 : Type := Int → Int → (Bool → Int → Prop) → Prop
set_option maxHeartbeats 4000000 in
set_option maxRecDepth 100000 in
def F34 (f54 : Y54) (t : Int) (n : Int) (k1 : Bool → Int → Prop) : Prop :=
  (f54 t (fun (xs1 : List Int) => (k1 false (200 : Int))) (fun (xs2 : List Int) => (bif (decide (n ≥ (-2147483648 : Int))) then (k1 (decide (n < (2147483648 : Int))) (0 : Int)) else (k1 false (0 : Int)))) (fun (xs3 : List Int) => (bif (decide (n ≥ (-2147483648 : Int))) then (k1 (decide (n < (2147483648 : Int))) (0 : Int)) else (k1 false (0 : Int)))) (fun (xs4 : List Int) => (bif (decide (n ≥ (-2147483648 : Int))) then (k1 (decide (n < (2147483648 : Int))) (0 : Int)) else (k1 false (0 : Int)))) (fun (xs5 : List Int) => (bif (decide (n < (0 : Int))) then (k1 false (0 : Int)) else (k1 (decide (n < (4294967296 : Int))) (0 : Int)))) (fun (xs6 : List Int) => (bif (decide (n ≥ (-2147483648 : Int))) then (k1 (decide (n < (2147483648 : Int))) (0 : Int)) else (k1 false (0 : Int)))) (fun (xs7 : List Int) => (k1 true (0 : Int))))
theorem F34_ok (f54 : Y54) (t : Int) (n : Int) (K : V → Mem → Prop) : cbody Try.prog (T54 f54 C0) (fun _ => none) 1000 (fnOf Try.prog 34) [(.I .i64 t), (.I .i64 n)] [] K =
    F34 f54 t n (fun (u0 : Bool) (u1 : Int) => K (.tup [(.B u0), (.I .i64 u1)]) []) := by kernel_rfl
def G34 : Y34 := F34 G54
def VT34 (f : Y34) (F : Prop) (args : List V) (m : Mem) (K : V → Mem → Prop) : Prop :=
  (seeCons args F fun a1 q2 => (seeI .i64 a1 F fun t => (seeCons q2 F fun a3 q4 => (seeI .i64 a3 F fun n => (seeNil q4 F (seeNil m F (f t n (fun (u0 : Bool) (u1 : Int) => K (.tup [(.B u0), (.I .i64 u1)]) []))))))))
def T34 (f : Y34) (C : CC) : CC := fun g args m K =>
  match Nat.beq g 34 with
  | true => VT34 f (C g args m K) args m K
  | false => C g args m K
set_option maxRecDepth 100000 in
theorem T34_ok {C : CC} (hC : CallsOk Try.prog C) : CallsOk Try.prog (T34 G34 C) := by
  intro g args m K E w cargs hS ha h
  unfold T34 at h
  split at h
  · rename_i hg
    obtain rfl := Nat.eq_of_beq_eq_true hg
    unfold VT34 at h
    replace h := seeCons_use h
    rcases h with h | ⟨a1, q2, rfl, h⟩
    · exact hC _ _ _ _ _ _ _ hS ha h
    replace h := seeI_use h
    rcases h with h | ⟨t, rfl, h⟩
    · exact hC _ _ _ _ _ _ _ hS ha h
    replace h := seeCons_use h
    rcases h with h | ⟨a3, q4, rfl, h⟩
    · exact hC _ _ _ _ _ _ _ hS ha h
    replace h := seeI_use h
    rcases h with h | ⟨n, rfl, h⟩
    · exact hC _ _ _ _ _ _ _ hS ha h
    replace h := seeNil_use h
    rcases h with h | ⟨rfl, h⟩
    · exact hC _ _ _ _ _ _ _ hS ha h
    replace h := seeNil_use h
    rcases h with h | ⟨rfl, h⟩
    · exact hC _ _ _ _ _ _ _ hS ha h
    exact cbody_use named (T54_ok C0_ok) at34 (l := 0) rfl (LoopsOk.none _ _) (F34_ok G54 t n K) hS ha h
  · exact hC _ _ _ _ _ _ _ hS ha h
theorem at36 : Try.prog.funcs[36]? = some (fnOf Try.prog 36) := by kernel_rfl
abbrev Y36 : Type := Int → (Bool → Bool → Prop) → Prop
set_option maxHeartbeats 4000000 in
set_option maxRecDepth 100000 in
def F36  (t : Int) (k1 : Bool → Bool → Prop) : Prop :=
  (k1 (t == (9 : Int)) (t == (22 : Int)))
theorem F36_ok  (t : Int) (K : V → Mem → Prop) : cbody Try.prog C0 (fun _ => none) 1000 (fnOf Try.prog 36) [(.I .i64 t)] [] K =
    F36  t (fun (u0 : Bool) (u1 : Bool) => K (.tup [(.B u0), (.B u1)]) []) := by kernel_rfl
def G36 : Y36 := F36 
def VT36 (f : Y36) (F : Prop) (args : List V) (m : Mem) (K : V → Mem → Prop) : Prop :=
  (seeCons args F fun a1 q2 => (seeI .i64 a1 F fun t => (seeNil q2 F (seeNil m F (f t (fun (u0 : Bool) (u1 : Bool) => K (.tup [(.B u0), (.B u1)]) []))))))
def T36 (f : Y36) (C : CC) : CC := fun g args m K =>
  match Nat.beq g 36 with
  | true => VT36 f (C g args m K) args m K
  | false => C g args m K
set_option maxRecDepth 100000 in
theorem T36_ok {C : CC} (hC : CallsOk Try.prog C) : CallsOk Try.prog (T36 G36 C) := by
  intro g args m K E w cargs hS ha h
  unfold T36 at h
  split at h
  · rename_i hg
    obtain rfl := Nat.eq_of_beq_eq_true hg
    unfold VT36 at h
    replace h := seeCons_use h
    rcases h with h | ⟨a1, q2, rfl, h⟩
    · exact hC _ _ _ _ _ _ _ hS ha h
    replace h := seeI_use h
    rcases h with h | ⟨t, rfl, h⟩
    · exact hC _ _ _ _ _ _ _ hS ha h
    replace h := seeNil_use h
    rcases h with h | ⟨rfl, h⟩
    · exact hC _ _ _ _ _ _ _ hS ha h
    replace h := seeNil_use h
    rcases h with h | ⟨rfl, h⟩
    · exact hC _ _ _ _ _ _ _ hS ha h
    exact cbody_use named C0_ok at36 (l := 0) rfl (LoopsOk.none _ _) (F36_ok  t K) hS ha h
  · exact hC _ _ _ _ _ _ _ hS ha h
theorem at37 : Try.prog.funcs[37]? = some (fnOf Try.prog 37) := by kernel_rfl
abbrev Y37 : Type := Int → (Bool → Bool → Prop) → Prop
set_option maxHeartbeats 4000000 in
set_option maxRecDepth 100000 in
def F37  (t : Int) (k1 : Bool → Bool → Prop) : Prop :=
  (k1 (t == (9 : Int)) (t == (22 : Int)))
theorem F37_ok  (t : Int) (K : V → Mem → Prop) : cbody Try.prog C0 (fun _ => none) 1000 (fnOf Try.prog 37) [(.I .i64 t)] [] K =
    F37  t (fun (u0 : Bool) (u1 : Bool) => K (.tup [(.B u0), (.B u1)]) []) := by kernel_rfl
def G37 : Y37 := F37 
def VT37 (f : Y37) (F : Prop) (args : List V) (m : Mem) (K : V → Mem → Prop) : Prop :=
  (seeCons args F fun a1 q2 => (seeI .i64 a1 F fun t => (seeNil q2 F (seeNil m F (f t (fun (u0 : Bool) (u1 : Bool) => K (.tup [(.B u0), (.B u1)]) []))))))
def T37 (f : Y37) (C : CC) : CC := fun g args m K =>
  match Nat.beq g 37 with
  | true => VT37 f (C g args m K) args m K
  | false => C g args m K
set_option maxRecDepth 100000 in
theorem T37_ok {C : CC} (hC : CallsOk Try.prog C) : CallsOk Try.prog (T37 G37 C) := by
  intro g args m K E w cargs hS ha h
  unfold T37 at h
  split at h
  · rename_i hg
    obtain rfl := Nat.eq_of_beq_eq_true hg
    unfold VT37 at h
    replace h := seeCons_use h
    rcases h with h | ⟨a1, q2, rfl, h⟩
    · exact hC _ _ _ _ _ _ _ hS ha h
    replace h := seeI_use h
    rcases h with h | ⟨t, rfl, h⟩
    · exact hC _ _ _ _ _ _ _ hS ha h
    replace h := seeNil_use h
    rcases h with h | ⟨rfl, h⟩
    · exact hC _ _ _ _ _ _ _ hS ha h
    replace h := seeNil_use h
    rcases h with h | ⟨rfl, h⟩
    · exact hC _ _ _ _ _ _ _ hS ha h
    exact cbody_use named C0_ok at37 (l := 0) rfl (LoopsOk.none _ _) (F37_ok  t K) hS ha h
  · exact hC _ _ _ _ _ _ _ hS ha h
theorem at38 : Try.prog.funcs[38]? = some (fnOf Try.prog 38) := by kernel_rfl
abbrev Y38 : Type := Int → (Bool → Prop) → Prop
set_option maxHeartbeats 4000000 in
set_option maxRecDepth 100000 in
def F38  (t : Int) (k1 : Bool → Prop) : Prop :=
  (k1 (t == (1 : Int)))
theorem F38_ok  (t : Int) (K : V → Mem → Prop) : cbody Try.prog C0 (fun _ => none) 1000 (fnOf Try.prog 38) [(.I .i64 t)] [] K =
    F38  t (fun (u0 : Bool) => K (.B u0) []) := by kernel_rfl
def G38 : Y38 := F38 
def VT38 (f : Y38) (F : Prop) (args : List V) (m : Mem) (K : V → Mem → Prop) : Prop :=
  (seeCons args F fun a1 q2 => (seeI .i64 a1 F fun t => (seeNil q2 F (seeNil m F (f t (fun (u0 : Bool) => K (.B u0) []))))))
def T38 (f : Y38) (C : CC) : CC := fun g args m K =>
  match Nat.beq g 38 with
  | true => VT38 f (C g args m K) args m K
  | false => C g args m K
set_option maxRecDepth 100000 in
theorem T38_ok {C : CC} (hC : CallsOk Try.prog C) : CallsOk Try.prog (T38 G38 C) := by
  intro g args m K E w cargs hS ha h
  unfold T38 at h
  split at h
  · rename_i hg
    obtain rfl := Nat.eq_of_beq_eq_true hg
    unfold VT38 at h
    replace h := seeCons_use h
    rcases h with h | ⟨a1, q2, rfl, h⟩
    · exact hC _ _ _ _ _ _ _ hS ha h
    replace h := seeI_use h
    rcases h with h | ⟨t, rfl, h⟩
    · exact hC _ _ _ _ _ _ _ hS ha h
    replace h := seeNil_use h
    rcases h with h | ⟨rfl, h⟩
    · exact hC _ _ _ _ _ _ _ hS ha h
    replace h := seeNil_use h
    rcases h with h | ⟨rfl, h⟩
    · exact hC _ _ _ _ _ _ _ hS ha h
    exact cbody_use named C0_ok at38 (l := 0) rfl (LoopsOk.none _ _) (F38_ok  t K) hS ha h
  · exact hC _ _ _ _ _ _ _ hS ha h
theorem at39 : Try.prog.funcs[39]? = some (fnOf Try.prog 39) := by kernel_rfl
abbrev Y39 : Type := Int → (Bool → Prop) → Prop
set_option maxHeartbeats 4000000 in
set_option maxRecDepth 100000 in
def F39  (t : Int) (k1 : Bool → Prop) : Prop :=
  (k1 (t == (1 : Int)))
theorem F39_ok  (t : Int) (K : V → Mem → Prop) : cbody Try.prog C0 (fun _ => none) 1000 (fnOf Try.prog 39) [(.I .i64 t)] [] K =
    F39  t (fun (u0 : Bool) => K (.B u0) []) := by kernel_rfl
def G39 : Y39 := F39 
def VT39 (f : Y39) (F : Prop) (args : List V) (m : Mem) (K : V → Mem → Prop) : Prop :=
  (seeCons args F fun a1 q2 => (seeI .i64 a1 F fun t => (seeNil q2 F (seeNil m F (f t (fun (u0 : Bool) => K (.B u0) []))))))
def T39 (f : Y39) (C : CC) : CC := fun g args m K =>
  match Nat.beq g 39 with
  | true => VT39 f (C g args m K) args m K
  | false => C g args m K
set_option maxRecDepth 100000 in
theorem T39_ok {C : CC} (hC : CallsOk Try.prog C) : CallsOk Try.prog (T39 G39 C) := by
  intro g args m K E w cargs hS ha h
  unfold T39 at h
  split at h
  · rename_i hg
    obtain rfl := Nat.eq_of_beq_eq_true hg
    unfold VT39 at h
    replace h := seeCons_use h
    rcases h with h | ⟨a1, q2, rfl, h⟩
    · exact hC _ _ _ _ _ _ _ hS ha h
    replace h := seeI_use h
    rcases h with h | ⟨t, rfl, h⟩
    · exact hC _ _ _ _ _ _ _ hS ha h
    replace h := seeNil_use h
    rcases h with h | ⟨rfl, h⟩
    · exact hC _ _ _ _ _ _ _ hS ha h
    replace h := seeNil_use h
    rcases h with h | ⟨rfl, h⟩
    · exact hC _ _ _ _ _ _ _ hS ha h
    exact cbody_use named C0_ok at39 (l := 0) rfl (LoopsOk.none _ _) (F39_ok  t K) hS ha h
  · exact hC _ _ _ _ _ _ _ hS ha h
theorem at40 : Try.prog.funcs[40]? = some (fnOf Try.prog 40) := by kernel_rfl
abbrev Y40 : Type := Int → (List Int → Prop) → Prop
set_option maxHeartbeats 4000000 in
set_option maxRecDepth 100000 in
def F40 (f54 : Y54) (t : Int) (k1 : List Int → Prop) : Prop :=
  (f54 t (fun (xs1 : List Int) => (bif (xs1 == ([] : List Int)) then (k1 ([] : List Int)) else (bif (decide (((9 : Nat) + (List.length xs1)) ≤ (4611686018427387904 : Nat))) then (k1 (([(82 : Int), (95 : Int), (88 : Int), (56 : Int), (54 : Int), (95 : Int), (54 : Int), (52 : Int), (95 : Int)] : List Int) ++ xs1)) else False))) (fun (xs2 : List Int) => (bif (xs2 == ([] : List Int)) then (k1 ([] : List Int)) else (bif (decide (((9 : Nat) + (List.length xs2)) ≤ (4611686018427387904 : Nat))) then (k1 (([(82 : Int), (95 : Int), (88 : Int), (56 : Int), (54 : Int), (95 : Int), (54 : Int), (52 : Int), (95 : Int)] : List Int) ++ xs2)) else False))) (fun (xs3 : List Int) => (bif (xs3 == ([] : List Int)) then (k1 ([] : List Int)) else (bif (decide (((9 : Nat) + (List.length xs3)) ≤ (4611686018427387904 : Nat))) then (k1 (([(82 : Int), (95 : Int), (88 : Int), (56 : Int), (54 : Int), (95 : Int), (54 : Int), (52 : Int), (95 : Int)] : List Int) ++ xs3)) else False))) (fun (xs4 : List Int) => (bif (xs4 == ([] : List Int)) then (k1 ([] : List Int)) else (bif (decide (((9 : Nat) + (List.length xs4)) ≤ (4611686018427387904 : Nat))) then (k1 (([(82 : Int), (95 : Int), (88 : Int), (56 : Int), (54 : Int), (95 : Int), (54 : Int), (52 : Int), (95 : Int)] : List Int) ++ xs4)) else False))) (fun (xs5 : List Int) => (bif (xs5 == ([] : List Int)) then (k1 ([] : List Int)) else (bif (decide (((9 : Nat) + (List.length xs5)) ≤ (4611686018427387904 : Nat))) then (k1 (([(82 : Int), (95 : Int), (88 : Int), (56 : Int), (54 : Int), (95 : Int), (54 : Int), (52 : Int), (95 : Int)] : List Int) ++ xs5)) else False))) (fun (xs6 : List Int) => (bif (xs6 == ([] : List Int)) then (k1 ([] : List Int)) else (bif (decide (((9 : Nat) + (List.length xs6)) ≤ (4611686018427387904 : Nat))) then (k1 (([(82 : Int), (95 : Int), (88 : Int), (56 : Int), (54 : Int), (95 : Int), (54 : Int), (52 : Int), (95 : Int)] : List Int) ++ xs6)) else False))) (fun (xs7 : List Int) => (bif (xs7 == ([] : List Int)) then (k1 ([] : List Int)) else (bif (decide (((9 : Nat) + (List.length xs7)) ≤ (4611686018427387904 : Nat))) then (k1 (([(82 : Int), (95 : Int), (88 : Int), (56 : Int), (54 : Int), (95 : Int), (54 : Int), (52 : Int), (95 : Int)] : List Int) ++ xs7)) else False))))
theorem F40_ok (f54 : Y54) (t : Int) (K : V → Mem → Prop) : cbody Try.prog (T54 f54 C0) (fun _ => none) 1000 (fnOf Try.prog 40) [(.I .i64 t)] [] K =
    F40 f54 t (fun (u0 : List Int) => K (.S u0) []) := by kernel_rfl
def G40 : Y40 := F40 G54
def VT40 (f : Y40) (F : Prop) (args : List V) (m : Mem) (K : V → Mem → Prop) : Prop :=
  (seeCons args F fun a1 q2 => (seeI .i64 a1 F fun t => (seeNil q2 F (seeNil m F (f t (fun (u0 : List Int) => K (.S u0) []))))))
def T40 (f : Y40) (C : CC) : CC := fun g args m K =>
  match Nat.beq g 40 with
  | true => VT40 f (C g args m K) args m K
  | false => C g args m K
set_option maxRecDepth 100000 in
theorem T40_ok {C : CC} (hC : CallsOk Try.prog C) : CallsOk Try.prog (T40 G40 C) := by
  intro g args m K E w cargs hS ha h
  unfold T40 at h
  split at h
  · rename_i hg
    obtain rfl := Nat.eq_of_beq_eq_true hg
    unfold VT40 at h
    replace h := seeCons_use h
    rcases h with h | ⟨a1, q2, rfl, h⟩
    · exact hC _ _ _ _ _ _ _ hS ha h
    replace h := seeI_use h
    rcases h with h | ⟨t, rfl, h⟩
    · exact hC _ _ _ _ _ _ _ hS ha h
    replace h := seeNil_use h
    rcases h with h | ⟨rfl, h⟩
    · exact hC _ _ _ _ _ _ _ hS ha h
    replace h := seeNil_use h
    rcases h with h | ⟨rfl, h⟩
    · exact hC _ _ _ _ _ _ _ hS ha h
    exact cbody_use named (T54_ok C0_ok) at40 (l := 0) rfl (LoopsOk.none _ _) (F40_ok G54 t K) hS ha h
  · exact hC _ _ _ _ _ _ _ hS ha h
theorem at41 : Try.prog.funcs[41]? = some (fnOf Try.prog 41) := by kernel_rfl
abbrev Y41 : Type := Int → (List Int → Prop) → Prop
set_option maxHeartbeats 4000000 in
set_option maxRecDepth 100000 in
def F41  (t : Int) (k1 : List Int → Prop) : Prop :=
  (bif (t == (0 : Int)) then (k1 ([(82 : Int), (95 : Int), (88 : Int), (56 : Int), (54 : Int), (95 : Int), (54 : Int), (52 : Int), (95 : Int), (78 : Int), (79 : Int), (78 : Int), (69 : Int)] : List Int)) else (bif (t == (1 : Int)) then (k1 ([(82 : Int), (95 : Int), (88 : Int), (56 : Int), (54 : Int), (95 : Int), (54 : Int), (52 : Int), (95 : Int), (54 : Int), (52 : Int)] : List Int)) else (bif (t == (2 : Int)) then (k1 ([(82 : Int), (95 : Int), (88 : Int), (56 : Int), (54 : Int), (95 : Int), (54 : Int), (52 : Int), (95 : Int), (80 : Int), (67 : Int), (51 : Int), (50 : Int)] : List Int)) else (bif (t == (4 : Int)) then (k1 ([(82 : Int), (95 : Int), (88 : Int), (56 : Int), (54 : Int), (95 : Int), (54 : Int), (52 : Int), (95 : Int), (80 : Int), (76 : Int), (84 : Int), (51 : Int), (50 : Int)] : List Int)) else (bif (t == (6 : Int)) then (k1 ([(82 : Int), (95 : Int), (88 : Int), (56 : Int), (54 : Int), (95 : Int), (54 : Int), (52 : Int), (95 : Int), (71 : Int), (76 : Int), (79 : Int), (66 : Int), (95 : Int), (68 : Int), (65 : Int), (84 : Int)] : List Int)) else (bif (t == (8 : Int)) then (k1 ([(82 : Int), (95 : Int), (88 : Int), (56 : Int), (54 : Int), (95 : Int), (54 : Int), (52 : Int), (95 : Int), (82 : Int), (69 : Int), (76 : Int), (65 : Int), (84 : Int), (73 : Int), (86 : Int), (69 : Int)] : List Int)) else (bif (t == (9 : Int)) then (k1 ([(82 : Int), (95 : Int), (88 : Int), (56 : Int), (54 : Int), (95 : Int), (54 : Int), (52 : Int), (95 : Int), (71 : Int), (79 : Int), (84 : Int), (80 : Int), (67 : Int), (82 : Int), (69 : Int), (76 : Int)] : List Int)) else (bif (t == (10 : Int)) then (k1 ([(82 : Int), (95 : Int), (88 : Int), (56 : Int), (54 : Int), (95 : Int), (54 : Int), (52 : Int), (95 : Int), (51 : Int), (50 : Int)] : List Int)) else (bif (t == (11 : Int)) then (k1 ([(82 : Int), (95 : Int), (88 : Int), (56 : Int), (54 : Int), (95 : Int), (54 : Int), (52 : Int), (95 : Int), (51 : Int), (50 : Int), (83 : Int)] : List Int)) else (bif (t == (19 : Int)) then (k1 ([(82 : Int), (95 : Int), (88 : Int), (56 : Int), (54 : Int), (95 : Int), (54 : Int), (52 : Int), (95 : Int), (84 : Int), (76 : Int), (83 : Int), (71 : Int), (68 : Int)] : List Int)) else (bif (t == (20 : Int)) then (k1 ([(82 : Int), (95 : Int), (88 : Int), (56 : Int), (54 : Int), (95 : Int), (54 : Int), (52 : Int), (95 : Int), (84 : Int), (76 : Int), (83 : Int), (76 : Int), (68 : Int)] : List Int)) else (bif (t == (21 : Int)) then (k1 ([(82 : Int), (95 : Int), (88 : Int), (56 : Int), (54 : Int), (95 : Int), (54 : Int), (52 : Int), (95 : Int), (68 : Int), (84 : Int), (80 : Int), (79 : Int), (70 : Int), (70 : Int), (51 : Int), (50 : Int)] : List Int)) else (bif (t == (22 : Int)) then (k1 ([(82 : Int), (95 : Int), (88 : Int), (56 : Int), (54 : Int), (95 : Int), (54 : Int), (52 : Int), (95 : Int), (71 : Int), (79 : Int), (84 : Int), (84 : Int), (80 : Int), (79 : Int), (70 : Int), (70 : Int)] : List Int)) else (bif (t == (23 : Int)) then (k1 ([(82 : Int), (95 : Int), (88 : Int), (56 : Int), (54 : Int), (95 : Int), (54 : Int), (52 : Int), (95 : Int), (84 : Int), (80 : Int), (79 : Int), (70 : Int), (70 : Int), (51 : Int), (50 : Int)] : List Int)) else (bif (t == (37 : Int)) then (k1 ([(82 : Int), (95 : Int), (88 : Int), (56 : Int), (54 : Int), (95 : Int), (54 : Int), (52 : Int), (95 : Int), (73 : Int), (82 : Int), (69 : Int), (76 : Int), (65 : Int), (84 : Int), (73 : Int), (86 : Int), (69 : Int)] : List Int)) else (k1 ([] : List Int)))))))))))))))))
theorem F41_ok  (t : Int) (K : V → Mem → Prop) : cbody Try.prog C0 (fun _ => none) 1000 (fnOf Try.prog 41) [(.I .i64 t)] [] K =
    F41  t (fun (u0 : List Int) => K (.S u0) []) := by kernel_rfl
def G41 : Y41 := F41 
def VT41 (f : Y41) (F : Prop) (args : List V) (m : Mem) (K : V → Mem → Prop) : Prop :=
  (seeCons args F fun a1 q2 => (seeI .i64 a1 F fun t => (seeNil q2 F (seeNil m F (f t (fun (u0 : List Int) => K (.S u0) []))))))
def T41 (f : Y41) (C : CC) : CC := fun g args m K =>
  match Nat.beq g 41 with
  | true => VT41 f (C g args m K) args m K
  | false => C g args m K
set_option maxRecDepth 100000 in
theorem T41_ok {C : CC} (hC : CallsOk Try.prog C) : CallsOk Try.prog (T41 G41 C) := by
  intro g args m K E w cargs hS ha h
  unfold T41 at h
  split at h
  · rename_i hg
    obtain rfl := Nat.eq_of_beq_eq_true hg
    unfold VT41 at h
    replace h := seeCons_use h
    rcases h with h | ⟨a1, q2, rfl, h⟩
    · exact hC _ _ _ _ _ _ _ hS ha h
    replace h := seeI_use h
    rcases h with h | ⟨t, rfl, h⟩
    · exact hC _ _ _ _ _ _ _ hS ha h
    replace h := seeNil_use h
    rcases h with h | ⟨rfl, h⟩
    · exact hC _ _ _ _ _ _ _ hS ha h
    replace h := seeNil_use h
    rcases h with h | ⟨rfl, h⟩
    · exact hC _ _ _ _ _ _ _ hS ha h
    exact cbody_use named C0_ok at41 (l := 0) rfl (LoopsOk.none _ _) (F41_ok  t K) hS ha h
  · exact hC _ _ _ _ _ _ _ hS ha h
abbrev Y23l : Type := Int → Int → Int → Int → Int → Int → (Prop) → (Prop) → (Int → Prop) → Prop
set_option maxHeartbeats 4000000 in
set_option maxRecDepth 100000 in
def F23l (f54 : Y54) (t : Int) (ps : Int) (pad : Int) (pp : Int) (pg : Int) (ptp : Int) (k1 : Prop) (k2 : Prop) (k3 : Int → Prop) : Prop :=
  (f54 t (fun (xs1 : List Int) => (k1)) (fun (xs2 : List Int) => (bif (decide (ps < (-1152921504606846976 : Int))) then (k2) else (bif (decide (ps > (1152921504606846976 : Int))) then (k2) else (bif (decide (pad < (-1152921504606846976 : Int))) then (k2) else (bif (decide (pad > (1152921504606846976 : Int))) then (k2) else (bif (decide (pp < (-1152921504606846976 : Int))) then (k2) else (bif (decide (pp > (1152921504606846976 : Int))) then (k2) else (bif (decide (pg < (-1152921504606846976 : Int))) then (k2) else (bif (decide (pg > (1152921504606846976 : Int))) then (k2) else (bif (decide (ptp < (-1152921504606846976 : Int))) then (k2) else (bif (decide (ptp > (1152921504606846976 : Int))) then (k2) else (k3 (IntKind.wrap .i64 ((IntKind.wrap .i64 (ps + pad)) - ptp)))))))))))))) (fun (xs3 : List Int) => (bif (decide (ps < (-1152921504606846976 : Int))) then (k2) else (bif (decide (ps > (1152921504606846976 : Int))) then (k2) else (bif (decide (pad < (-1152921504606846976 : Int))) then (k2) else (bif (decide (pad > (1152921504606846976 : Int))) then (k2) else (bif (decide (pp < (-1152921504606846976 : Int))) then (k2) else (bif (decide (pp > (1152921504606846976 : Int))) then (k2) else (bif (decide (pg < (-1152921504606846976 : Int))) then (k2) else (bif (decide (pg > (1152921504606846976 : Int))) then (k2) else (bif (decide (ptp < (-1152921504606846976 : Int))) then (k2) else (bif (decide (ptp > (1152921504606846976 : Int))) then (k2) else (k3 (IntKind.wrap .i64 ((IntKind.wrap .i64 (pg + pad)) - pp)))))))))))))) (fun (xs4 : List Int) => (bif (decide (ps < (-1152921504606846976 : Int))) then (k2) else (bif (decide (ps > (1152921504606846976 : Int))) then (k2) else (bif (decide (pad < (-1152921504606846976 : Int))) then (k2) else (bif (decide (pad > (1152921504606846976 : Int))) then (k2) else (bif (decide (pp < (-1152921504606846976 : Int))) then (k2) else (bif (decide (pp > (1152921504606846976 : Int))) then (k2) else (bif (decide (pg < (-1152921504606846976 : Int))) then (k2) else (bif (decide (pg > (1152921504606846976 : Int))) then (k2) else (bif (decide (ptp < (-1152921504606846976 : Int))) then (k2) else (bif (decide (ptp > (1152921504606846976 : Int))) then (k2) else (k3 (IntKind.wrap .i64 (ps + pad)))))))))))))) (fun (xs5 : List Int) => (bif (decide (ps < (-1152921504606846976 : Int))) then (k2) else (bif (decide (ps > (1152921504606846976 : Int))) then (k2) else (bif (decide (pad < (-1152921504606846976 : Int))) then (k2) else (bif (decide (pad > (1152921504606846976 : Int))) then (k2) else (bif (decide (pp < (-1152921504606846976 : Int))) then (k2) else (bif (decide (pp > (1152921504606846976 : Int))) then (k2) else (bif (decide (pg < (-1152921504606846976 : Int))) then (k2) else (bif (decide (pg > (1152921504606846976 : Int))) then (k2) else (bif (decide (ptp < (-1152921504606846976 : Int))) then (k2) else (bif (decide (ptp > (1152921504606846976 : Int))) then (k2) else (k3 (IntKind.wrap .i64 (ps + pad)))))))))))))) (fun (xs6 : List Int) => (bif (decide (ps < (-1152921504606846976 : Int))) then (k2) else (bif (decide (ps > (1152921504606846976 : Int))) then (k2) else (bif (decide (pad < (-1152921504606846976 : Int))) then (k2) else (bif (decide (pad > (1152921504606846976 : Int))) then (k2) else (bif (decide (pp < (-1152921504606846976 : Int))) then (k2) else (bif (decide (pp > (1152921504606846976 : Int))) then (k2) else (bif (decide (pg < (-1152921504606846976 : Int))) then (k2) else (bif (decide (pg > (1152921504606846976 : Int))) then (k2) else (bif (decide (ptp < (-1152921504606846976 : Int))) then (k2) else (bif (decide (ptp > (1152921504606846976 : Int))) then (k2) else (k3 (IntKind.wrap .i64 ((IntKind.wrap .i64 (ps + pad)) - pp)))))))))))))) (fun (xs7 : List Int) => (bif (decide (ps < (-1152921504606846976 : Int))) then (k2) else (bif (decide (ps > (1152921504606846976 : Int))) then (k2) else (bif (decide (pad < (-1152921504606846976 : Int))) then (k2) else (bif (decide (pad > (1152921504606846976 : Int))) then (k2) else (bif (decide (pp < (-1152921504606846976 : Int))) then (k2) else (bif (decide (pp > (1152921504606846976 : Int))) then (k2) else (bif (decide (pg < (-1152921504606846976 : Int))) then (k2) else (bif (decide (pg > (1152921504606846976 : Int))) then (k2) else (bif (decide (ptp < (-1152921504606846976 : Int))) then (k2) else (bif (decide (ptp > (1152921504606846976 : Int))) then (k2) else (k3 (IntKind.wrap .i64 (ps + pad)))))))))))))))
theorem F23l_ok (f54 : Y54) (t : Int) (ps : Int) (pad : Int) (pp : Int) (pg : Int) (ptp : Int) (K : V → Mem → Prop) : cbody Try.prog (T54 f54 C0) (fun _ => none) 1000 (fnOf Try.prog 23) [(.I .i64 t), (.agg [(.I .i64 ps), (.I .i64 pad), (.I .i64 pp), (.I .i64 pg), (.I .i64 ptp)])] [] K =
    F23l f54 t ps pad pp pg ptp (K (.tup [(.I .i64 (0 : Int)), (.I .i64 (200 : Int))]) []) (K (.tup [(.I .i64 (0 : Int)), (.I .i64 (11 : Int))]) []) (fun (u0 : Int) => K (.tup [(.I .i64 u0), (.I .i64 (0 : Int))]) []) := by kernel_rfl
def G23l : Y23l := F23l G54
def VT23l (f : Y23l) (F : Prop) (args : List V) (m : Mem) (K : V → Mem → Prop) : Prop :=
  (seeCons args F fun a1 q2 => (seeI .i64 a1 F fun t => (seeCons q2 F fun a3 q4 => (seeAgg a3 F fun vs5 => (seeCons vs5 F fun a6 q7 => (seeI .i64 a6 F fun ps => (seeCons q7 F fun a8 q9 => (seeI .i64 a8 F fun pad => (seeCons q9 F fun a10 q11 => (seeI .i64 a10 F fun pp => (seeCons q11 F fun a12 q13 => (seeI .i64 a12 F fun pg => (seeCons q13 F fun a14 q15 => (seeI .i64 a14 F fun ptp => (seeNil q15 F (seeNil q4 F (seeNil m F (f t ps pad pp pg ptp (K (.tup [(.I .i64 (0 : Int)), (.I .i64 (200 : Int))]) []) (K (.tup [(.I .i64 (0 : Int)), (.I .i64 (11 : Int))]) []) (fun (u0 : Int) => K (.tup [(.I .i64 u0), (.I .i64 (0 : Int))]) [])))))))))))))))))))
def T23l (f : Y23l) (C : CC) : CC := fun g args m K =>
  match Nat.beq g 23 with
  | true => VT23l f (C g args m K) args m K
  | false => C g args m K
set_option maxRecDepth 100000 in
theorem T23l_ok {C : CC} (hC : CallsOk Try.prog C) : CallsOk Try.prog (T23l G23l C) := by
  intro g args m K E w cargs hS ha h
  unfold T23l at h
  split at h
  · rename_i hg
    obtain rfl := Nat.eq_of_beq_eq_true hg
    unfold VT23l at h
    replace h := seeCons_use h
    rcases h with h | ⟨a1, q2, rfl, h⟩
    · exact hC _ _ _ _ _ _ _ hS ha h
    replace h := seeI_use h
    rcases h with h | ⟨t, rfl, h⟩
    · exact hC _ _ _ _ _ _ _ hS ha h
    replace h := seeCons_use h
    rcases h with h | ⟨a3, q4, rfl, h⟩
    · exact hC _ _ _ _ _ _ _ hS ha h
    replace h := seeAgg_use h
    rcases h with h | ⟨vs5, rfl, h⟩
    · exact hC _ _ _ _ _ _ _ hS ha h
    replace h := seeCons_use h
    rcases h with h | ⟨a6, q7, rfl, h⟩
    · exact hC _ _ _ _ _ _ _ hS ha h
    replace h := seeI_use h
    rcases h with h | ⟨ps, rfl, h⟩
    · exact hC _ _ _ _ _ _ _ hS ha h
    replace h := seeCons_use h
    rcases h with h | ⟨a8, q9, rfl, h⟩
    · exact hC _ _ _ _ _ _ _ hS ha h
    replace h := seeI_use h
    rcases h with h | ⟨pad, rfl, h⟩
    · exact hC _ _ _ _ _ _ _ hS ha h
    replace h := seeCons_use h
    rcases h with h | ⟨a10, q11, rfl, h⟩
    · exact hC _ _ _ _ _ _ _ hS ha h
    replace h := seeI_use h
    rcases h with h | ⟨pp, rfl, h⟩
    · exact hC _ _ _ _ _ _ _ hS ha h
    replace h := seeCons_use h
    rcases h with h | ⟨a12, q13, rfl, h⟩
    · exact hC _ _ _ _ _ _ _ hS ha h
    replace h := seeI_use h
    rcases h with h | ⟨pg, rfl, h⟩
    · exact hC _ _ _ _ _ _ _ hS ha h
    replace h := seeCons_use h
    rcases h with h | ⟨a14, q15, rfl, h⟩
    · exact hC _ _ _ _ _ _ _ hS ha h
    replace h := seeI_use h
    rcases h with h | ⟨ptp, rfl, h⟩
    · exact hC _ _ _ _ _ _ _ hS ha h
    replace h := seeNil_use h
    rcases h with h | ⟨rfl, h⟩
    · exact hC _ _ _ _ _ _ _ hS ha h
    replace h := seeNil_use h
    rcases h with h | ⟨rfl, h⟩
    · exact hC _ _ _ _ _ _ _ hS ha h
    replace h := seeNil_use h
    rcases h with h | ⟨rfl, h⟩
    · exact hC _ _ _ _ _ _ _ hS ha h
    exact cbody_use named (T54_ok C0_ok) at23 (l := 0) rfl (LoopsOk.none _ _) (F23l_ok G54 t ps pad pp pg ptp K) hS ha h
  · exact hC _ _ _ _ _ _ _ hS ha h
abbrev Y33l : Type := Int → Int → Int → Int → Int → Int → (Prop) → (Int → Prop) → (Prop) → Prop
set_option maxHeartbeats 4000000 in
set_option maxRecDepth 100000 in
def F33l (f32a : Y32a) (t : Int) (ps : Int) (pad : Int) (pp : Int) (pg : Int) (ptp : Int) (k1 : Prop) (k2 : Int → Prop) (k3 : Prop) : Prop :=
  (f32a t ((bif (decide (ps < (-1152921504606846976 : Int))) then (k1) else (bif (decide (ps > (1152921504606846976 : Int))) then (k1) else (bif (decide (pad < (-1152921504606846976 : Int))) then (k1) else (bif (decide (pad > (1152921504606846976 : Int))) then (k1) else (bif (decide (pp < (-1152921504606846976 : Int))) then (k1) else (bif (decide (pp > (1152921504606846976 : Int))) then (k1) else (bif (decide (pg < (-1152921504606846976 : Int))) then (k1) else (bif (decide (pg > (1152921504606846976 : Int))) then (k1) else (bif (decide (ptp < (-1152921504606846976 : Int))) then (k1) else (bif (decide (ptp > (1152921504606846976 : Int))) then (k1) else (bif (t == (2 : Int)) then (bif (t == (2 : Int)) then (k2 (IntKind.wrap .i64 ((IntKind.wrap .i64 (ps + pad)) - pp))) else (bif (t == (9 : Int)) then (bif (t == (9 : Int)) then (k2 (IntKind.wrap .i64 ((IntKind.wrap .i64 (pg + pad)) - pp))) else (bif (t == (23 : Int)) then (bif (t == (23 : Int)) then (k2 (IntKind.wrap .i64 ((IntKind.wrap .i64 (ps + pad)) - ptp))) else (k2 (IntKind.wrap .i64 (ps + pad)))) else (bif (t == (21 : Int)) then (k2 (IntKind.wrap .i64 ((IntKind.wrap .i64 (ps + pad)) - ptp))) else (k2 (IntKind.wrap .i64 (ps + pad)))))) else (bif (t == (22 : Int)) then (k2 (IntKind.wrap .i64 ((IntKind.wrap .i64 (pg + pad)) - pp))) else (bif (t == (23 : Int)) then (bif (t == (23 : Int)) then (k2 (IntKind.wrap .i64 ((IntKind.wrap .i64 (ps + pad)) - ptp))) else (k2 (IntKind.wrap .i64 (ps + pad)))) else (bif (t == (21 : Int)) then (k2 (IntKind.wrap .i64 ((IntKind.wrap .i64 (ps + pad)) - ptp))) else (k2 (IntKind.wrap .i64 (ps + pad)))))))) else (bif (t == (4 : Int)) then (k2 (IntKind.wrap .i64 ((IntKind.wrap .i64 (ps + pad)) - pp))) else (bif (t == (9 : Int)) then (bif (t == (9 : Int)) then (k2 (IntKind.wrap .i64 ((IntKind.wrap .i64 (pg + pad)) - pp))) else (bif (t == (23 : Int)) then (bif (t == (23 : Int)) then (k2 (IntKind.wrap .i64 ((IntKind.wrap .i64 (ps + pad)) - ptp))) else (k2 (IntKind.wrap .i64 (ps + pad)))) else (bif (t == (21 : Int)) then (k2 (IntKind.wrap .i64 ((IntKind.wrap .i64 (ps + pad)) - ptp))) else (k2 (IntKind.wrap .i64 (ps + pad)))))) else (bif (t == (22 : Int)) then (k2 (IntKind.wrap .i64 ((IntKind.wrap .i64 (pg + pad)) - pp))) else (bif (t == (23 : Int)) then (bif (t == (23 : Int)) then (k2 (IntKind.wrap .i64 ((IntKind.wrap .i64 (ps + pad)) - ptp))) else (k2 (IntKind.wrap .i64 (ps + pad)))) else (bif (t == (21 : Int)) then (k2 (IntKind.wrap .i64 ((IntKind.wrap .i64 (ps + pad)) - ptp))) else (k2 (IntKind.wrap .i64 (ps + pad)))))))))))))))))))) ((bif (decide (ps < (-1152921504606846976 : Int))) then (k1) else (bif (decide (ps > (1152921504606846976 : Int))) then (k1) else (bif (decide (pad < (-1152921504606846976 : Int))) then (k1) else (bif (decide (pad > (1152921504606846976 : Int))) then (k1) else (bif (decide (pp < (-1152921504606846976 : Int))) then (k1) else (bif (decide (pp > (1152921504606846976 : Int))) then (k1) else (bif (decide (pg < (-1152921504606846976 : Int))) then (k1) else (bif (decide (pg > (1152921504606846976 : Int))) then (k1) else (bif (decide (ptp < (-1152921504606846976 : Int))) then (k1) else (bif (decide (ptp > (1152921504606846976 : Int))) then (k1) else (bif (t == (2 : Int)) then (bif (t == (2 : Int)) then (k2 (IntKind.wrap .i64 ((IntKind.wrap .i64 (ps + pad)) - pp))) else (bif (t == (9 : Int)) then (bif (t == (9 : Int)) then (k2 (IntKind.wrap .i64 ((IntKind.wrap .i64 (pg + pad)) - pp))) else (bif (t == (23 : Int)) then (bif (t == (23 : Int)) then (k2 (IntKind.wrap .i64 ((IntKind.wrap .i64 (ps + pad)) - ptp))) else (k2 (IntKind.wrap .i64 (ps + pad)))) else (bif (t == (21 : Int)) then (k2 (IntKind.wrap .i64 ((IntKind.wrap .i64 (ps + pad)) - ptp))) else (k2 (IntKind.wrap .i64 (ps + pad)))))) else (bif (t == (22 : Int)) then (k2 (IntKind.wrap .i64 ((IntKind.wrap .i64 (pg + pad)) - pp))) else (bif (t == (23 : Int)) then (bif (t == (23 : Int)) then (k2 (IntKind.wrap .i64 ((IntKind.wrap .i64 (ps + pad)) - ptp))) else (k2 (IntKind.wrap .i64 (ps + pad)))) else (bif (t == (21 : Int)) then (k2 (IntKind.wrap .i64 ((IntKind.wrap .i64 (ps + pad)) - ptp))) else (k2 (IntKind.wrap .i64 (ps + pad)))))))) else (bif (t == (4 : Int)) then (k2 (IntKind.wrap .i64 ((IntKind.wrap .i64 (ps + pad)) - pp))) else (bif (t == (9 : Int)) then (bif (t == (9 : Int)) then (k2 (IntKind.wrap .i64 ((IntKind.wrap .i64 (pg + pad)) - pp))) else (bif (t == (23 : Int)) then (bif (t == (23 : Int)) then (k2 (IntKind.wrap .i64 ((IntKind.wrap .i64 (ps + pad)) - ptp))) else (k2 (IntKind.wrap .i64 (ps + pad)))) else (bif (t == (21 : Int)) then (k2 (IntKind.wrap .i64 ((IntKind.wrap .i64 (ps + pad)) - ptp))) else (k2 (IntKind.wrap .i64 (ps + pad)))))) else (bif (t == (22 : Int)) then (k2 (IntKind.wrap .i64 ((IntKind.wrap .i64 (pg + pad)) - pp))) else (bif (t == (23 : Int)) then (bif (t == (23 : Int)) then (k2 (IntKind.wrap .i64 ((IntKind.wrap .i64 (ps + pad)) - ptp))) else (k2 (IntKind.wrap .i64 (ps + pad)))) else (bif (t == (21 : Int)) then (k2 (IntKind.wrap .i64 ((IntKind.wrap .i64 (ps + pad)) - ptp))) else (k2 (IntKind.wrap .i64 (ps + pad)))))))))))))))))))) ((k3)))
theorem F33l_ok (f32a : Y32a) (t : Int) (ps : Int) (pad : Int) (pp : Int) (pg : Int) (ptp : Int) (K : V → Mem → Prop) : cbody Try.prog (T32a f32a C0) (fun _ => none) 1000 (fnOf Try.prog 33) [(.I .i64 t), (.agg [(.I .i64 ps), (.I .i64 pad), (.I .i64 pp), (.I .i64 pg), (.I .i64 ptp)])] [] K =
    F33l f32a t ps pad pp pg ptp (K (.tup [(.I .i64 (0 : Int)), (.I .i64 (11 : Int))]) []) (fun (u0 : Int) => K (.tup [(.I .i64 u0), (.I .i64 (0 : Int))]) []) (K (.tup [(.I .i64 (0 : Int)), (.I .i64 (200 : Int))]) []) := by kernel_rfl
def G33l : Y33l := F33l G32a
def VT33l (f : Y33l) (F : Prop) (args : List V) (m : Mem) (K : V → Mem → Prop) : Prop :=
  (seeCons args F fun a1 q2 => (seeI .i64 a1 F fun t => (seeCons q2 F fun a3 q4 => (seeAgg a3 F fun vs5 => (seeCons vs5 F fun a6 q7 => (seeI .i64 a6 F fun ps => (seeCons q7 F fun a8 q9 => (seeI .i64 a8 F fun pad => (seeCons q9 F fun a10 q11 => (seeI .i64 a10 F fun pp => (seeCons q11 F fun a12 q13 => (seeI .i64 a12 F fun pg => (seeCons q13 F fun a14 q15 => (seeI .i64 a14 F fun ptp => (seeNil q15 F (seeNil q4 F (seeNil m F (f t ps pad pp pg ptp (K (.tup [(.I .i64 (0 : Int)), (.I .i64 (11 : Int))]) []) (fun (u0 : Int) => K (.tup [(.I .i64 u0), (.I .i64 (0 : Int))]) []) (K (.tup [(.I .i64 (0 : Int)), (.I .i64 (200 : Int))]) [])))))))))))))))))))
def T33l (f : Y33l) (C : CC) : CC := fun g args m K =>
  match Nat.beq g 33 with
  | true => VT33l f (C g args m K) args m K
  | false => C g args m K
set_option maxRecDepth 100000 in
theorem T33l_ok {C : CC} (hC : CallsOk Try.prog C) : CallsOk Try.prog (T33l G33l C) := by
  intro g args m K E w cargs hS ha h
  unfold T33l at h
  split at h
  · rename_i hg
    obtain rfl := Nat.eq_of_beq_eq_true hg
    unfold VT33l at h
    replace h := seeCons_use h
    rcases h with h | ⟨a1, q2, rfl, h⟩
    · exact hC _ _ _ _ _ _ _ hS ha h
    replace h := seeI_use h
    rcases h with h | ⟨t, rfl, h⟩
    · exact hC _ _ _ _ _ _ _ hS ha h
    replace h := seeCons_use h
    rcases h with h | ⟨a3, q4, rfl, h⟩
    · exact hC _ _ _ _ _ _ _ hS ha h
    replace h := seeAgg_use h
    rcases h with h | ⟨vs5, rfl, h⟩
    · exact hC _ _ _ _ _ _ _ hS ha h
    replace h := seeCons_use h
    rcases h with h | ⟨a6, q7, rfl, h⟩
    · exact hC _ _ _ _ _ _ _ hS ha h
    replace h := seeI_use h
    rcases h with h | ⟨ps, rfl, h⟩
    · exact hC _ _ _ _ _ _ _ hS ha h
    replace h := seeCons_use h
    rcases h with h | ⟨a8, q9, rfl, h⟩
    · exact hC _ _ _ _ _ _ _ hS ha h
    replace h := seeI_use h
    rcases h with h | ⟨pad, rfl, h⟩
    · exact hC _ _ _ _ _ _ _ hS ha h
    replace h := seeCons_use h
    rcases h with h | ⟨a10, q11, rfl, h⟩
    · exact hC _ _ _ _ _ _ _ hS ha h
    replace h := seeI_use h
    rcases h with h | ⟨pp, rfl, h⟩
    · exact hC _ _ _ _ _ _ _ hS ha h
    replace h := seeCons_use h
    rcases h with h | ⟨a12, q13, rfl, h⟩
    · exact hC _ _ _ _ _ _ _ hS ha h
    replace h := seeI_use h
    rcases h with h | ⟨pg, rfl, h⟩
    · exact hC _ _ _ _ _ _ _ hS ha h
    replace h := seeCons_use h
    rcases h with h | ⟨a14, q15, rfl, h⟩
    · exact hC _ _ _ _ _ _ _ hS ha h
    replace h := seeI_use h
    rcases h with h | ⟨ptp, rfl, h⟩
    · exact hC _ _ _ _ _ _ _ hS ha h
    replace h := seeNil_use h
    rcases h with h | ⟨rfl, h⟩
    · exact hC _ _ _ _ _ _ _ hS ha h
    replace h := seeNil_use h
    rcases h with h | ⟨rfl, h⟩
    · exact hC _ _ _ _ _ _ _ hS ha h
    replace h := seeNil_use h
    rcases h with h | ⟨rfl, h⟩
    · exact hC _ _ _ _ _ _ _ hS ha h
    exact cbody_use named (T32a_ok C0_ok) at33 (l := 0) rfl (LoopsOk.none _ _) (F33l_ok G32a t ps pad pp pg ptp K) hS ha h
  · exact hC _ _ _ _ _ _ _ hS ha h
theorem at26 : Try.prog.funcs[26]? = some (fnOf Try.prog 26) := by kernel_rfl
abbrev Y26 : Type := Int → Int → Int → Int → Int → Int → Int → List Int → (Prop) → (Prop) → (Prop) → (Prop) → (List Int → Prop) → Prop
set_option maxHeartbeats 4000000 in
set_option maxRecDepth 100000 in
def F26 (f54 : Y54) (f23l : Y23l) (pa : Int) (t : Int) (ps : Int) (pad : Int) (pp : Int) (pg : Int) (ptp : Int) (xs : List Int) (k1 : Prop) (k2 : Prop) (k3 : Prop) (k4 : Prop) (k5 : List Int → Prop) : Prop :=
  (bif (decide (((((List.length xs) - (0 : Nat)) : Nat) : Int) > (1048576 : Int))) then (k1) else (f23l t ps pad pp pg ptp ((k2)) ((k3)) (fun (n1 : Int) => (f54 t (fun (xs2 : List Int) => (bif (decide (pa < (0 : Int))) then (k2) else (bif (decide (pa > ((((List.length xs) - (0 : Nat)) : Nat) : Int))) then (k2) else (bif (decide ((0 : Int) > (IntKind.wrap .i64 (((((List.length xs) - (0 : Nat)) : Nat) : Int) - pa)))) then (k2) else False)))) (fun (xs3 : List Int) => (bif (decide (pa < (0 : Int))) then (k2) else (bif (decide (pa > ((((List.length xs) - (0 : Nat)) : Nat) : Int))) then (k2) else (bif (decide ((4 : Int) > (IntKind.wrap .i64 (((((List.length xs) - (0 : Nat)) : Nat) : Int) - pa)))) then (k2) else (bif (decide (n1 ≥ (-2147483648 : Int))) then (bif (!(decide (n1 < (2147483648 : Int)))) then (k4) else (bif ((decide ((((List.length xs) - (0 : Nat)) * (1 : Nat)) ≤ (140737488355328 : Nat))) && (decide (((List.length xs) - (0 : Nat)) ≤ (140737488355328 : Nat)))) then (bif ((decide ((0 : Int) ≤ pa)) && (decide ((Int.toNat pa) ≤ ((List.length xs) - (0 : Nat))))) then (k5 (((List.take (Int.toNat pa) xs) ++ (List.take (min (4 : Nat) ((List.length xs) - (Int.toNat pa))) ([(IntKind.wrap .u8 (Int.fdiv (IntKind.wrap .u64 n1) (2 ^ 0))), (IntKind.wrap .u8 (Int.fdiv (IntKind.wrap .u64 n1) (2 ^ 8))), (IntKind.wrap .u8 (Int.fdiv (IntKind.wrap .u64 n1) (2 ^ 16))), (IntKind.wrap .u8 (Int.fdiv (IntKind.wrap .u64 n1) (2 ^ 24))), (IntKind.wrap .u8 (Int.fdiv (IntKind.wrap .u64 n1) (2 ^ 32))), (IntKind.wrap .u8 (Int.fdiv (IntKind.wrap .u64 n1) (2 ^ 40))), (IntKind.wrap .u8 (Int.fdiv (IntKind.wrap .u64 n1) (2 ^ 48))), (IntKind.wrap .u8 (Int.fdiv (IntKind.wrap .u64 n1) (2 ^ 56)))] : List Int))) ++ (List.drop ((Int.toNat pa) + (min (4 : Nat) ((List.length xs) - (Int.toNat pa)))) xs))) else False) else False)) else (k4)))))) (fun (xs4 : List Int) => (bif (decide (pa < (0 : Int))) then (k2) else (bif (decide (pa > ((((List.length xs) - (0 : Nat)) : Nat) : Int))) then (k2) else (bif (decide ((4 : Int) > (IntKind.wrap .i64 (((((List.length xs) - (0 : Nat)) : Nat) : Int) - pa)))) then (k2) else (bif (decide (n1 ≥ (-2147483648 : Int))) then (bif (!(decide (n1 < (2147483648 : Int)))) then (k4) else (bif ((decide ((((List.length xs) - (0 : Nat)) * (1 : Nat)) ≤ (140737488355328 : Nat))) && (decide (((List.length xs) - (0 : Nat)) ≤ (140737488355328 : Nat)))) then (bif ((decide ((0 : Int) ≤ pa)) && (decide ((Int.toNat pa) ≤ ((List.length xs) - (0 : Nat))))) then (k5 (((List.take (Int.toNat pa) xs) ++ (List.take (min (4 : Nat) ((List.length xs) - (Int.toNat pa))) ([(IntKind.wrap .u8 (Int.fdiv (IntKind.wrap .u64 n1) (2 ^ 0))), (IntKind.wrap .u8 (Int.fdiv (IntKind.wrap .u64 n1) (2 ^ 8))), (IntKind.wrap .u8 (Int.fdiv (IntKind.wrap .u64 n1) (2 ^ 16))), (IntKind.wrap .u8 (Int.fdiv (IntKind.wrap .u64 n1) (2 ^ 24))), (IntKind.wrap .u8 (Int.fdiv (IntKind.wrap .u64 n1) (2 ^ 32))), (IntKind.wrap .u8 (Int.fdiv (IntKind.wrap .u64 n1) (2 ^ 40))), (IntKind.wrap .u8 (Int.fdiv (IntKind.wrap .u64 n1) (2 ^ 48))), (IntKind.wrap .u8 (Int.fdiv (IntKind.wrap .u64 n1) (2 ^ 56)))] : List Int))) ++ (List.drop ((Int.toNat pa) + (min (4 : Nat) ((List.length xs) - (Int.toNat pa)))) xs))) else False) else False)) else (k4)))))) (fun (xs5 : List Int) => (bif (decide (pa < (0 : Int))) then (k2) else (bif (decide (pa > ((((List.length xs) - (0 : Nat)) : Nat) : Int))) then (k2) else (bif (decide ((4 : Int) > (IntKind.wrap .i64 (((((List.length xs) - (0 : Nat)) : Nat) : Int) - pa)))) then (k2) else (bif (decide (n1 ≥ (-2147483648 : Int))) then (bif (!(decide (n1 < (2147483648 : Int)))) then (k4) else (bif ((decide ((((List.length xs) - (0 : Nat)) * (1 : Nat)) ≤ (140737488355328 : Nat))) && (decide (((List.length xs) - (0 : Nat)) ≤ (140737488355328 : Nat)))) then (bif ((decide ((0 : Int) ≤ pa)) && (decide ((Int.toNat pa) ≤ ((List.length xs) - (0 : Nat))))) then (k5 (((List.take (Int.toNat pa) xs) ++ (List.take (min (4 : Nat) ((List.length xs) - (Int.toNat pa))) ([(IntKind.wrap .u8 (Int.fdiv (IntKind.wrap .u64 n1) (2 ^ 0))), (IntKind.wrap .u8 (Int.fdiv (IntKind.wrap .u64 n1) (2 ^ 8))), (IntKind.wrap .u8 (Int.fdiv (IntKind.wrap .u64 n1) (2 ^ 16))), (IntKind.wrap .u8 (Int.fdiv (IntKind.wrap .u64 n1) (2 ^ 24))), (IntKind.wrap .u8 (Int.fdiv (IntKind.wrap .u64 n1) (2 ^ 32))), (IntKind.wrap .u8 (Int.fdiv (IntKind.wrap .u64 n1) (2 ^ 40))), (IntKind.wrap .u8 (Int.fdiv (IntKind.wrap .u64 n1) (2 ^ 48))), (IntKind.wrap .u8 (Int.fdiv (IntKind.wrap .u64 n1) (2 ^ 56)))] : List Int))) ++ (List.drop ((Int.toNat pa) + (min (4 : Nat) ((List.length xs) - (Int.toNat pa)))) xs))) else False) else False)) else (k4)))))) (fun (xs6 : List Int) => (bif (decide (pa < (0 : Int))) then (k2) else (bif (decide (pa > ((((List.length xs) - (0 : Nat)) : Nat) : Int))) then (k2) else (bif (decide ((4 : Int) > (IntKind.wrap .i64 (((((List.length xs) - (0 : Nat)) : Nat) : Int) - pa)))) then (k2) else (bif (decide (n1 < (0 : Int))) then (k4) else (bif (!(decide (n1 < (4294967296 : Int)))) then (k4) else (bif ((decide ((((List.length xs) - (0 : Nat)) * (1 : Nat)) ≤ (140737488355328 : Nat))) && (decide (((List.length xs) - (0 : Nat)) ≤ (140737488355328 : Nat)))) then (bif ((decide ((0 : Int) ≤ pa)) && (decide ((Int.toNat pa) ≤ ((List.length xs) - (0 : Nat))))) then (k5 (((List.take (Int.toNat pa) xs) ++ (List.take (min (4 : Nat) ((List.length xs) - (Int.toNat pa))) ([(IntKind.wrap .u8 (Int.fdiv (IntKind.wrap .u64 n1) (2 ^ 0))), (IntKind.wrap .u8 (Int.fdiv (IntKind.wrap .u64 n1) (2 ^ 8))), (IntKind.wrap .u8 (Int.fdiv (IntKind.wrap .u64 n1) (2 ^ 16))), (IntKind.wrap .u8 (Int.fdiv (IntKind.wrap .u64 n1) (2 ^ 24))), (IntKind.wrap .u8 (Int.fdiv (IntKind.wrap .u64 n1) (2 ^ 32))), (IntKind.wrap .u8 (Int.fdiv (IntKind.wrap .u64 n1) (2 ^ 40))), (IntKind.wrap .u8 (Int.fdiv (IntKind.wrap .u64 n1) (2 ^ 48))), (IntKind.wrap .u8 (Int.fdiv (IntKind.wrap .u64 n1) (2 ^ 56)))] : List Int))) ++ (List.drop ((Int.toNat pa) + (min (4 : Nat) ((List.length xs) - (Int.toNat pa)))) xs))) else False) else False))))))) (fun (xs7 : List Int) => (bif (decide (pa < (0 : Int))) then (k2) else (bif (decide (pa > ((((List.length xs) - (0 : Nat)) : Nat) : Int))) then (k2) else (bif (decide ((4 : Int) > (IntKind.wrap .i64 (((((List.length xs) - (0 : Nat)) : Nat) : Int) - pa)))) then (k2) else (bif (decide (n1 ≥ (-2147483648 : Int))) then (bif (!(decide (n1 < (2147483648 : Int)))) then (k4) else (bif ((decide ((((List.length xs) - (0 : Nat)) * (1 : Nat)) ≤ (140737488355328 : Nat))) && (decide (((List.length xs) - (0 : Nat)) ≤ (140737488355328 : Nat)))) then (bif ((decide ((0 : Int) ≤ pa)) && (decide ((Int.toNat pa) ≤ ((List.length xs) - (0 : Nat))))) then (k5 (((List.take (Int.toNat pa) xs) ++ (List.take (min (4 : Nat) ((List.length xs) - (Int.toNat pa))) ([(IntKind.wrap .u8 (Int.fdiv (IntKind.wrap .u64 n1) (2 ^ 0))), (IntKind.wrap .u8 (Int.fdiv (IntKind.wrap .u64 n1) (2 ^ 8))), (IntKind.wrap .u8 (Int.fdiv (IntKind.wrap .u64 n1) (2 ^ 16))), (IntKind.wrap .u8 (Int.fdiv (IntKind.wrap .u64 n1) (2 ^ 24))), (IntKind.wrap .u8 (Int.fdiv (IntKind.wrap .u64 n1) (2 ^ 32))), (IntKind.wrap .u8 (Int.fdiv (IntKind.wrap .u64 n1) (2 ^ 40))), (IntKind.wrap .u8 (Int.fdiv (IntKind.wrap .u64 n1) (2 ^ 48))), (IntKind.wrap .u8 (Int.fdiv (IntKind.wrap .u64 n1) (2 ^ 56)))] : List Int))) ++ (List.drop ((Int.toNat pa) + (min (4 : Nat) ((List.length xs) - (Int.toNat pa)))) xs))) else False) else False)) else (k4)))))) (fun (xs8 : List Int) => (bif (decide (pa < (0 : Int))) then (k2) else (bif (decide (pa > ((((List.length xs) - (0 : Nat)) : Nat) : Int))) then (k2) else (bif (decide ((8 : Int) > (IntKind.wrap .i64 (((((List.length xs) - (0 : Nat)) : Nat) : Int) - pa)))) then (k2) else (bif ((decide ((((List.length xs) - (0 : Nat)) * (1 : Nat)) ≤ (140737488355328 : Nat))) && (decide (((List.length xs) - (0 : Nat)) ≤ (140737488355328 : Nat)))) then (bif ((decide ((0 : Int) ≤ pa)) && (decide ((Int.toNat pa) ≤ ((List.length xs) - (0 : Nat))))) then (k5 (((List.take (Int.toNat pa) xs) ++ (List.take (min (8 : Nat) ((List.length xs) - (Int.toNat pa))) ([(IntKind.wrap .u8 (Int.fdiv (IntKind.wrap .u64 n1) (2 ^ 0))), (IntKind.wrap .u8 (Int.fdiv (IntKind.wrap .u64 n1) (2 ^ 8))), (IntKind.wrap .u8 (Int.fdiv (IntKind.wrap .u64 n1) (2 ^ 16))), (IntKind.wrap .u8 (Int.fdiv (IntKind.wrap .u64 n1) (2 ^ 24))), (IntKind.wrap .u8 (Int.fdiv (IntKind.wrap .u64 n1) (2 ^ 32))), (IntKind.wrap .u8 (Int.fdiv (IntKind.wrap .u64 n1) (2 ^ 40))), (IntKind.wrap .u8 (Int.fdiv (IntKind.wrap .u64 n1) (2 ^ 48))), (IntKind.wrap .u8 (Int.fdiv (IntKind.wrap .u64 n1) (2 ^ 56)))] : List Int))) ++ (List.drop ((Int.toNat pa) + (min (8 : Nat) ((List.length xs) - (Int.toNat pa)))) xs))) else False) else False)))))))))
theorem F26_ok (f54 : Y54) (f23l : Y23l) (pa : Int) (t : Int) (ps : Int) (pad : Int) (pp : Int) (pg : Int) (ptp : Int) (xs : List Int) (K : V → Mem → Prop) : cbody Try.prog (T54 f54 (T23l f23l C0)) (fun _ => none) 1000 (fnOf Try.prog 26) [(.sl 0 (0 : Nat) (none : Option Nat) (none : Option Nat)), (.I .i64 pa), (.I .i64 t), (.agg [(.I .i64 ps), (.I .i64 pad), (.I .i64 pp), (.I .i64 pg), (.I .i64 ptp)])] [⟨[.ints .u8 xs], 5, false, false⟩] K =
    F26 f54 f23l pa t ps pad pp pg ptp xs (K (.tup [.nils, (.I .i64 (6 : Int))]) [⟨[.ints .u8 xs], 5, false, false⟩]) (K (.tup [.nils, (.I .i64 (200 : Int))]) [⟨[.ints .u8 xs], 5, false, false⟩]) (K (.tup [.nils, (.I .i64 (11 : Int))]) [⟨[.ints .u8 xs], 5, false, false⟩]) (K (.tup [.nils, (.I .i64 (201 : Int))]) [⟨[.ints .u8 xs], 5, false, false⟩]) (fun (u0 : List Int) => K (.tup [(.sl 1 (0 : Nat) (none : Option Nat) (none : Option Nat)), (.I .i64 (0 : Int))]) [⟨[.ints .u8 xs], 5, false, false⟩, ⟨[.ints .u8 u0], 5, false, true⟩]) := by kernel_rfl
def G26 : Y26 := F26 G54 G23l
def VT26 (f : Y26) (F : Prop) (args : List V) (m : Mem) (K : V → Mem → Prop) : Prop :=
  (seeCons args F fun a1 q2 => (seeV (.sl 0 (0 : Nat) (none : Option Nat) (none : Option Nat)) a1 F (seeCons q2 F fun a3 q4 => (seeI .i64 a3 F fun pa => (seeCons q4 F fun a5 q6 => (seeI .i64 a5 F fun t => (seeCons q6 F fun a7 q8 => (seeAgg a7 F fun vs9 => (seeCons vs9 F fun a10 q11 => (seeI .i64 a10 F fun ps => (seeCons q11 F fun a12 q13 => (seeI .i64 a12 F fun pad => (seeCons q13 F fun a14 q15 => (seeI .i64 a14 F fun pp => (seeCons q15 F fun a16 q17 => (seeI .i64 a16 F fun pg => (seeCons q17 F fun a18 q19 => (seeI .i64 a18 F fun ptp => (seeNil q19 F (seeNil q8 F (seeCons m F fun a20 q21 => (seeBlk 5 false false a20 F fun cs22 => (seeCons cs22 F fun a23 q24 => (seeInts .u8 a23 F fun xs => (seeNil q24 F (seeNil q21 F (f pa t ps pad pp pg ptp xs (K (.tup [.nils, (.I .i64 (6 : Int))]) [⟨[.ints .u8 xs], 5, false, false⟩]) (K (.tup [.nils, (.I .i64 (200 : Int))]) [⟨[.ints .u8 xs], 5, false, false⟩]) (K (.tup [.nils, (.I .i64 (11 : Int))]) [⟨[.ints .u8 xs], 5, false, false⟩]) (K (.tup [.nils, (.I .i64 (201 : Int))]) [⟨[.ints .u8 xs], 5, false, false⟩]) (fun (u0 : List Int) => K (.tup [(.sl 1 (0 : Nat) (none : Option Nat) (none : Option Nat)), (.I .i64 (0 : Int))]) [⟨[.ints .u8 xs], 5, false, false⟩, ⟨[.ints .u8 u0], 5, false, true⟩]))))))))))))))))))))))))))))
def T26 (f : Y26) (C : CC) : CC := fun g args m K =>
  match Nat.beq g 26 with
  | true => VT26 f (C g args m K) args m K
  | false => C g args m K
set_option maxRecDepth 100000 in
theorem T26_ok {C : CC} (hC : CallsOk Try.prog C) : CallsOk Try.prog (T26 G26 C) := by
  intro g args m K E w cargs hS ha h
  unfold T26 at h
  split at h
  · rename_i hg
    obtain rfl := Nat.eq_of_beq_eq_true hg
    unfold VT26 at h
    replace h := seeCons_use h
    rcases h with h | ⟨a1, q2, rfl, h⟩
    · exact hC _ _ _ _ _ _ _ hS ha h
    replace h := seeV_use h
    rcases h with h | ⟨rfl, h⟩
    · exact hC _ _ _ _ _ _ _ hS ha h
    replace h := seeCons_use h
    rcases h with h | ⟨a3, q4, rfl, h⟩
    · exact hC _ _ _ _ _ _ _ hS ha h
    replace h := seeI_use h
    rcases h with h | ⟨pa, rfl, h⟩
    · exact hC _ _ _ _ _ _ _ hS ha h
    replace h := seeCons_use h
    rcases h with h | ⟨a5, q6, rfl, h⟩
    · exact hC _ _ _ _ _ _ _ hS ha h
    replace h := seeI_use h
    rcases h with h | ⟨t, rfl, h⟩
    · exact hC _ _ _ _ _ _ _ hS ha h
    replace h := seeCons_use h
    rcases h with h | ⟨a7, q8, rfl, h⟩
    · exact hC _ _ _ _ _ _ _ hS ha h
    replace h := seeAgg_use h
    rcases h with h | ⟨vs9, rfl, h⟩
    · exact hC _ _ _ _ _ _ _ hS ha h
    replace h := seeCons_use h
    rcases h with h | ⟨a10, q11, rfl, h⟩
    · exact hC _ _ _ _ _ _ _ hS ha h
    replace h := seeI_use h
    rcases h with h | ⟨ps, rfl, h⟩
    · exact hC _ _ _ _ _ _ _ hS ha h
    replace h := seeCons_use h
    rcases h with h | ⟨a12, q13, rfl, h⟩
    · exact hC _ _ _ _ _ _ _ hS ha h
    replace h := seeI_use h
    rcases h with h | ⟨pad, rfl, h⟩
    · exact hC _ _ _ _ _ _ _ hS ha h
    replace h := seeCons_use h
    rcases h with h | ⟨a14, q15, rfl, h⟩
    · exact hC _ _ _ _ _ _ _ hS ha h
    replace h := seeI_use h
    rcases h with h | ⟨pp, rfl, h⟩
    · exact hC _ _ _ _ _ _ _ hS ha h
    replace h := seeCons_use h
    rcases h with h | ⟨a16, q17, rfl, h⟩
    · exact hC _ _ _ _ _ _ _ hS ha h
    replace h := seeI_use h
    rcases h with h | ⟨pg, rfl, h⟩
    · exact hC _ _ _ _ _ _ _ hS ha h
    replace h := seeCons_use h
    rcases h with h | ⟨a18, q19, rfl, h⟩
    · exact hC _ _ _ _ _ _ _ hS ha h
    replace h := seeI_use h
    rcases h with h | ⟨ptp, rfl, h⟩
    · exact hC _ _ _ _ _ _ _ hS ha h
    replace h := seeNil_use h
    rcases h with h | ⟨rfl, h⟩
    · exact hC _ _ _ _ _ _ _ hS ha h
    replace h := seeNil_use h
    rcases h with h | ⟨rfl, h⟩
    · exact hC _ _ _ _ _ _ _ hS ha h
    replace h := seeCons_use h
    rcases h with h | ⟨a20, q21, rfl, h⟩
    · exact hC _ _ _ _ _ _ _ hS ha h
    replace h := seeBlk_use h
    rcases h with h | ⟨cs22, rfl, h⟩
    · exact hC _ _ _ _ _ _ _ hS ha h
    replace h := seeCons_use h
    rcases h with h | ⟨a23, q24, rfl, h⟩
    · exact hC _ _ _ _ _ _ _ hS ha h
    replace h := seeInts_use h
    rcases h with h | ⟨xs, rfl, h⟩
    · exact hC _ _ _ _ _ _ _ hS ha h
    replace h := seeNil_use h
    rcases h with h | ⟨rfl, h⟩
    · exact hC _ _ _ _ _ _ _ hS ha h
    replace h := seeNil_use h
    rcases h with h | ⟨rfl, h⟩
    · exact hC _ _ _ _ _ _ _ hS ha h
    exact cbody_use named (T54_ok (T23l_ok C0_ok)) at26 (l := 1) rfl (LoopsOk.none _ _) (F26_ok G54 G23l pa t ps pad pp pg ptp xs K) hS ha h
  · exact hC _ _ _ _ _ _ _ hS ha h
theorem at42 : Try.prog.funcs[42]? = some (fnOf Try.prog 42) := by kernel_rfl
abbrev Y42_4 : Type := Int → Bool → List Int → (Prop) → (Int → Prop) → Prop
set_option maxHeartbeats 4000000 in
set_option maxRecDepth 100000 in
def F42_4  (pa : Int) (sg : Bool) (xs : List Int) (k1 : Prop) (k2 : Int → Prop) : Prop :=
  (bif (decide (pa < (0 : Int))) then (k1) else (bif (decide (pa > (IntKind.wrap .i64 (((((List.length xs) - (0 : Nat)) : Nat) : Int) - (4 : Int))))) then (k1) else (bif ((decide ((0 : Int) ≤ (IntKind.wrap .i64 (pa + (0 : Int))))) && (decide ((IntKind.wrap .i64 (pa + (0 : Int))) < ((((List.length xs) - (0 : Nat)) : Nat) : Int)))) then (bif ((decide ((0 : Int) ≤ (IntKind.wrap .i64 (pa + (1 : Int))))) && (decide ((IntKind.wrap .i64 (pa + (1 : Int))) < ((((List.length xs) - (0 : Nat)) : Nat) : Int)))) then (bif ((decide ((0 : Int) ≤ (IntKind.wrap .i64 (pa + (2 : Int))))) && (decide ((IntKind.wrap .i64 (pa + (2 : Int))) < ((((List.length xs) - (0 : Nat)) : Nat) : Int)))) then (bif ((decide ((0 : Int) ≤ (IntKind.wrap .i64 (pa + (3 : Int))))) && (decide ((IntKind.wrap .i64 (pa + (3 : Int))) < ((((List.length xs) - (0 : Nat)) : Nat) : Int)))) then (bif sg then (k2 (Int.fdiv (IntKind.wrap .i64 (IntKind.wrap .u64 ((ibits .or .u64 (ibits .or .u64 (ibits .or .u64 (ibits .or .u64 (0 : Int) (IntKind.wrap .u64 ((IntKind.wrap .u64 (List.getD xs (Int.toNat (IntKind.wrap .i64 (pa + (0 : Int)))) (0 : Int))) * 2 ^ 0))) (IntKind.wrap .u64 ((IntKind.wrap .u64 (List.getD xs (Int.toNat (IntKind.wrap .i64 (pa + (1 : Int)))) (0 : Int))) * 2 ^ 8))) (IntKind.wrap .u64 ((IntKind.wrap .u64 (List.getD xs (Int.toNat (IntKind.wrap .i64 (pa + (2 : Int)))) (0 : Int))) * 2 ^ 16))) (IntKind.wrap .u64 ((IntKind.wrap .u64 (List.getD xs (Int.toNat (IntKind.wrap .i64 (pa + (3 : Int)))) (0 : Int))) * 2 ^ 24))) * 2 ^ 32))) (2 ^ 32))) else (k2 (IntKind.wrap .i64 (ibits .or .u64 (ibits .or .u64 (ibits .or .u64 (ibits .or .u64 (0 : Int) (IntKind.wrap .u64 ((IntKind.wrap .u64 (List.getD xs (Int.toNat (IntKind.wrap .i64 (pa + (0 : Int)))) (0 : Int))) * 2 ^ 0))) (IntKind.wrap .u64 ((IntKind.wrap .u64 (List.getD xs (Int.toNat (IntKind.wrap .i64 (pa + (1 : Int)))) (0 : Int))) * 2 ^ 8))) (IntKind.wrap .u64 ((IntKind.wrap .u64 (List.getD xs (Int.toNat (IntKind.wrap .i64 (pa + (2 : Int)))) (0 : Int))) * 2 ^ 16))) (IntKind.wrap .u64 ((IntKind.wrap .u64 (List.getD xs (Int.toNat (IntKind.wrap .i64 (pa + (3 : Int)))) (0 : Int))) * 2 ^ 24)))))) else False) else False) else False) else False)))
theorem F42_4_ok  (pa : Int) (sg : Bool) (xs : List Int) (K : V → Mem → Prop) : cbody Try.prog C0 (fun _ => none) 1000 (fnOf Try.prog 42) [(.sl 0 (0 : Nat) (none : Option Nat) (none : Option Nat)), (.I .i64 pa), (.I .i64 (4 : Int)), (.B sg)] [⟨[.ints .u8 xs], 5, false, false⟩] K =
    F42_4  pa sg xs (K (.tup [(.I .i64 (0 : Int)), (.I .i64 (20 : Int))]) [⟨[.ints .u8 xs], 5, false, false⟩]) (fun (u0 : Int) => K (.tup [(.I .i64 u0), (.I .i64 (0 : Int))]) [⟨[.ints .u8 xs], 5, false, false⟩]) := by kernel_rfl
def G42_4 : Y42_4 := F42_4 
def VT42_4 (f : Y42_4) (F : Prop) (args : List V) (m : Mem) (K : V → Mem → Prop) : Prop :=
  (seeCons args F fun a1 q2 => (seeV (.sl 0 (0 : Nat) (none : Option Nat) (none : Option Nat)) a1 F (seeCons q2 F fun a3 q4 => (seeI .i64 a3 F fun pa => (seeCons q4 F fun a5 q6 => (seeV (.I .i64 (4 : Int)) a5 F (seeCons q6 F fun a7 q8 => (seeB a7 F fun sg => (seeNil q8 F (seeCons m F fun a9 q10 => (seeBlk 5 false false a9 F fun cs11 => (seeCons cs11 F fun a12 q13 => (seeInts .u8 a12 F fun xs => (seeNil q13 F (seeNil q10 F (f pa sg xs (K (.tup [(.I .i64 (0 : Int)), (.I .i64 (20 : Int))]) [⟨[.ints .u8 xs], 5, false, false⟩]) (fun (u0 : Int) => K (.tup [(.I .i64 u0), (.I .i64 (0 : Int))]) [⟨[.ints .u8 xs], 5, false, false⟩])))))))))))))))))
def T42_4 (f : Y42_4) (C : CC) : CC := fun g args m K =>
  match Nat.beq g 42 with
  | true => VT42_4 f (C g args m K) args m K
  | false => C g args m K
set_option maxRecDepth 100000 in
theorem T42_4_ok {C : CC} (hC : CallsOk Try.prog C) : CallsOk Try.prog (T42_4 G42_4 C) := by
  intro g args m K E w cargs hS ha h
  unfold T42_4 at h
  split at h
  · rename_i hg
    obtain rfl := Nat.eq_of_beq_eq_true hg
    unfold VT42_4 at h
    replace h := seeCons_use h
    rcases h with h | ⟨a1, q2, rfl, h⟩
    · exact hC _ _ _ _ _ _ _ hS ha h
    replace h := seeV_use h
    rcases h with h | ⟨rfl, h⟩
    · exact hC _ _ _ _ _ _ _ hS ha h
    replace h := seeCons_use h
    rcases h with h | ⟨a3, q4, rfl, h⟩
    · exact hC _ _ _ _ _ _ _ hS ha h
    replace h := seeI_use h
    rcases h with h | ⟨pa, rfl, h⟩
    · exact hC _ _ _ _ _ _ _ hS ha h
    replace h := seeCons_use h
    rcases h with h | ⟨a5, q6, rfl, h⟩
    · exact hC _ _ _ _ _ _ _ hS ha h
    replace h := seeV_use h
    rcases h with h | ⟨rfl, h⟩
    · exact hC _ _ _ _ _ _ _ hS ha h
    replace h := seeCons_use h
    rcases h with h | ⟨a7, q8, rfl, h⟩
    · exact hC _ _ _ _ _ _ _ hS ha h
    replace h := seeB_use h
    rcases h with h | ⟨sg, rfl, h⟩
    · exact hC _ _ _ _ _ _ _ hS ha h
    replace h := seeNil_use h
    rcases h with h | ⟨rfl, h⟩
    · exact hC _ _ _ _ _ _ _ hS ha h
    replace h := seeCons_use h
    rcases h with h | ⟨a9, q10, rfl, h⟩
    · exact hC _ _ _ _ _ _ _ hS ha h
    replace h := seeBlk_use h
    rcases h with h | ⟨cs11, rfl, h⟩
    · exact hC _ _ _ _ _ _ _ hS ha h
    replace h := seeCons_use h
    rcases h with h | ⟨a12, q13, rfl, h⟩
    · exact hC _ _ _ _ _ _ _ hS ha h
    replace h := seeInts_use h
    rcases h with h | ⟨xs, rfl, h⟩
    · exact hC _ _ _ _ _ _ _ hS ha h
    replace h := seeNil_use h
    rcases h with h | ⟨rfl, h⟩
    · exact hC _ _ _ _ _ _ _ hS ha h
    replace h := seeNil_use h
    rcases h with h | ⟨rfl, h⟩
    · exact hC _ _ _ _ _ _ _ hS ha h
    exact cbody_use named C0_ok at42 (l := 1) rfl (LoopsOk.none _ _) (F42_4_ok  pa sg xs K) hS ha h
  · exact hC _ _ _ _ _ _ _ hS ha h
abbrev Y42_8 : Type := Int → Bool → List Int → (Prop) → (Int → Prop) → Prop
set_option maxHeartbeats 4000000 in
set_option maxRecDepth 100000 in
def F42_8  (pa : Int) (sg : Bool) (xs : List Int) (k1 : Prop) (k2 : Int → Prop) : Prop :=
  (bif (decide (pa < (0 : Int))) then (k1) else (bif (decide (pa > (IntKind.wrap .i64 (((((List.length xs) - (0 : Nat)) : Nat) : Int) - (8 : Int))))) then (k1) else (bif ((decide ((0 : Int) ≤ (IntKind.wrap .i64 (pa + (0 : Int))))) && (decide ((IntKind.wrap .i64 (pa + (0 : Int))) < ((((List.length xs) - (0 : Nat)) : Nat) : Int)))) then (bif ((decide ((0 : Int) ≤ (IntKind.wrap .i64 (pa + (1 : Int))))) && (decide ((IntKind.wrap .i64 (pa + (1 : Int))) < ((((List.length xs) - (0 : Nat)) : Nat) : Int)))) then (bif ((decide ((0 : Int) ≤ (IntKind.wrap .i64 (pa + (2 : Int))))) && (decide ((IntKind.wrap .i64 (pa + (2 : Int))) < ((((List.length xs) - (0 : Nat)) : Nat) : Int)))) then (bif ((decide ((0 : Int) ≤ (IntKind.wrap .i64 (pa + (3 : Int))))) && (decide ((IntKind.wrap .i64 (pa + (3 : Int))) < ((((List.length xs) - (0 : Nat)) : Nat) : Int)))) then (bif ((decide ((0 : Int) ≤ (IntKind.wrap .i64 (pa + (4 : Int))))) && (decide ((IntKind.wrap .i64 (pa + (4 : Int))) < ((((List.length xs) - (0 : Nat)) : Nat) : Int)))) then (bif ((decide ((0 : Int) ≤ (IntKind.wrap .i64 (pa + (5 : Int))))) && (decide ((IntKind.wrap .i64 (pa + (5 : Int))) < ((((List.length xs) - (0 : Nat)) : Nat) : Int)))) then (bif ((decide ((0 : Int) ≤ (IntKind.wrap .i64 (pa + (6 : Int))))) && (decide ((IntKind.wrap .i64 (pa + (6 : Int))) < ((((List.length xs) - (0 : Nat)) : Nat) : Int)))) then (bif ((decide ((0 : Int) ≤ (IntKind.wrap .i64 (pa + (7 : Int))))) && (decide ((IntKind.wrap .i64 (pa + (7 : Int))) < ((((List.length xs) - (0 : Nat)) : Nat) : Int)))) then (bif sg then (k2 (Int.fdiv (IntKind.wrap .i64 (IntKind.wrap .u64 ((ibits .or .u64 (ibits .or .u64 (ibits .or .u64 (ibits .or .u64 (ibits .or .u64 (ibits .or .u64 (ibits .or .u64 (ibits .or .u64 (0 : Int) (IntKind.wrap .u64 ((IntKind.wrap .u64 (List.getD xs (Int.toNat (IntKind.wrap .i64 (pa + (0 : Int)))) (0 : Int))) * 2 ^ 0))) (IntKind.wrap .u64 ((IntKind.wrap .u64 (List.getD xs (Int.toNat (IntKind.wrap .i64 (pa + (1 : Int)))) (0 : Int))) * 2 ^ 8))) (IntKind.wrap .u64 ((IntKind.wrap .u64 (List.getD xs (Int.toNat (IntKind.wrap .i64 (pa + (2 : Int)))) (0 : Int))) * 2 ^ 16))) (IntKind.wrap .u64 ((IntKind.wrap .u64 (List.getD xs (Int.toNat (IntKind.wrap .i64 (pa + (3 : Int)))) (0 : Int))) * 2 ^ 24))) (IntKind.wrap .u64 ((IntKind.wrap .u64 (List.getD xs (Int.toNat (IntKind.wrap .i64 (pa + (4 : Int)))) (0 : Int))) * 2 ^ 32))) (IntKind.wrap .u64 ((IntKind.wrap .u64 (List.getD xs (Int.toNat (IntKind.wrap .i64 (pa + (5 : Int)))) (0 : Int))) * 2 ^ 40))) (IntKind.wrap .u64 ((IntKind.wrap .u64 (List.getD xs (Int.toNat (IntKind.wrap .i64 (pa + (6 : Int)))) (0 : Int))) * 2 ^ 48))) (IntKind.wrap .u64 ((IntKind.wrap .u64 (List.getD xs (Int.toNat (IntKind.wrap .i64 (pa + (7 : Int)))) (0 : Int))) * 2 ^ 56))) * 2 ^ 0))) (2 ^ 0))) else (k2 (IntKind.wrap .i64 (ibits .or .u64 (ibits .or .u64 (ibits .or .u64 (ibits .or .u64 (ibits .or .u64 (ibits .or .u64 (ibits .or .u64 (ibits .or .u64 (0 : Int) (IntKind.wrap .u64 ((IntKind.wrap .u64 (List.getD xs (Int.toNat (IntKind.wrap .i64 (pa + (0 : Int)))) (0 : Int))) * 2 ^ 0))) (IntKind.wrap .u64 ((IntKind.wrap .u64 (List.getD xs (Int.toNat (IntKind.wrap .i64 (pa + (1 : Int)))) (0 : Int))) * 2 ^ 8))) (IntKind.wrap .u64 ((IntKind.wrap .u64 (List.getD xs (Int.toNat (IntKind.wrap .i64 (pa + (2 : Int)))) (0 : Int))) * 2 ^ 16))) (IntKind.wrap .u64 ((IntKind.wrap .u64 (List.getD xs (Int.toNat (IntKind.wrap .i64 (pa + (3 : Int)))) (0 : Int))) * 2 ^ 24))) (IntKind.wrap .u64 ((IntKind.wrap .u64 (List.getD xs (Int.toNat (IntKind.wrap .i64 (pa + (4 : Int)))) (0 : Int))) * 2 ^ 32))) (IntKind.wrap .u64 ((IntKind.wrap .u64 (List.getD xs (Int.toNat (IntKind.wrap .i64 (pa + (5 : Int)))) (0 : Int))) * 2 ^ 40))) (IntKind.wrap .u64 ((IntKind.wrap .u64 (List.getD xs (Int.toNat (IntKind.wrap .i64 (pa + (6 : Int)))) (0 : Int))) * 2 ^ 48))) (IntKind.wrap .u64 ((IntKind.wrap .u64 (List.getD xs (Int.toNat (IntKind.wrap .i64 (pa + (7 : Int)))) (0 : Int))) * 2 ^ 56)))))) else False) else False) else False) else False) else False) else False) else False) else False)))
theorem F42_8_ok  (pa : Int) (sg : Bool) (xs : List Int) (K : V → Mem → Prop) : cbody Try.prog C0 (fun _ => none) 1000 (fnOf Try.prog 42) [(.sl 0 (0 : Nat) (none : Option Nat) (none : Option Nat)), (.I .i64 pa), (.I .i64 (8 : Int)), (.B sg)] [⟨[.ints .u8 xs], 5, false, false⟩] K =
    F42_8  pa sg xs (K (.tup [(.I .i64 (0 : Int)), (.I .i64 (20 : Int))]) [⟨[.ints .u8 xs], 5, false, false⟩]) (fun (u0 : Int) => K (.tup [(.I .i64 u0), (.I .i64 (0 : Int))]) [⟨[.ints .u8 xs], 5, false, false⟩]) := by kernel_rfl
def G42_8 : Y42_8 := F42_8 
def VT42_8 (f : Y42_8) (F : Prop) (args : List V) (m : Mem) (K : V → Mem → Prop) : Prop :=
  (seeCons args F fun a1 q2 => (seeV (.sl 0 (0 : Nat) (none : Option Nat) (none : Option Nat)) a1 F (seeCons q2 F fun a3 q4 => (seeI .i64 a3 F fun pa => (seeCons q4 F fun a5 q6 => (seeV (.I .i64 (8 : Int)) a5 F (seeCons q6 F fun a7 q8 => (seeB a7 F fun sg => (seeNil q8 F (seeCons m F fun a9 q10 => (seeBlk 5 false false a9 F fun cs11 => (seeCons cs11 F fun a12 q13 => (seeInts .u8 a12 F fun xs => (seeNil q13 F (seeNil q10 F (f pa sg xs (K (.tup [(.I .i64 (0 : Int)), (.I .i64 (20 : Int))]) [⟨[.ints .u8 xs], 5, false, false⟩]) (fun (u0 : Int) => K (.tup [(.I .i64 u0), (.I .i64 (0 : Int))]) [⟨[.ints .u8 xs], 5, false, false⟩])))))))))))))))))
def T42_8 (f : Y42_8) (C : CC) : CC := fun g args m K =>
  match Nat.beq g 42 with
  | true => VT42_8 f (C g args m K) args m K
  | false => C g args m K
set_option maxRecDepth 100000 in
theorem T42_8_ok {C : CC} (hC : CallsOk Try.prog C) : CallsOk Try.prog (T42_8 G42_8 C) := by
  intro g args m K E w cargs hS ha h
  unfold T42_8 at h
  split at h
  · rename_i hg
    obtain rfl := Nat.eq_of_beq_eq_true hg
    unfold VT42_8 at h
    replace h := seeCons_use h
    rcases h with h | ⟨a1, q2, rfl, h⟩
    · exact hC _ _ _ _ _ _ _ hS ha h
    replace h := seeV_use h
    rcases h with h | ⟨rfl, h⟩
    · exact hC _ _ _ _ _ _ _ hS ha h
    replace h := seeCons_use h
    rcases h with h | ⟨a3, q4, rfl, h⟩
    · exact hC _ _ _ _ _ _ _ hS ha h
    replace h := seeI_use h
    rcases h with h | ⟨pa, rfl, h⟩
    · exact hC _ _ _ _ _ _ _ hS ha h
    replace h := seeCons_use h
    rcases h with h | ⟨a5, q6, rfl, h⟩
    · exact hC _ _ _ _ _ _ _ hS ha h
    replace h := seeV_use h
    rcases h with h | ⟨rfl, h⟩
    · exact hC _ _ _ _ _ _ _ hS ha h
    replace h := seeCons_use h
    rcases h with h | ⟨a7, q8, rfl, h⟩
    · exact hC _ _ _ _ _ _ _ hS ha h
    replace h := seeB_use h
    rcases h with h | ⟨sg, rfl, h⟩
    · exact hC _ _ _ _ _ _ _ hS ha h
    replace h := seeNil_use h
    rcases h with h | ⟨rfl, h⟩
    · exact hC _ _ _ _ _ _ _ hS ha h
    replace h := seeCons_use h
    rcases h with h | ⟨a9, q10, rfl, h⟩
    · exact hC _ _ _ _ _ _ _ hS ha h
    replace h := seeBlk_use h
    rcases h with h | ⟨cs11, rfl, h⟩
    · exact hC _ _ _ _ _ _ _ hS ha h
    replace h := seeCons_use h
    rcases h with h | ⟨a12, q13, rfl, h⟩
    · exact hC _ _ _ _ _ _ _ hS ha h
    replace h := seeInts_use h
    rcases h with h | ⟨xs, rfl, h⟩
    · exact hC _ _ _ _ _ _ _ hS ha h
    replace h := seeNil_use h
    rcases h with h | ⟨rfl, h⟩
    · exact hC _ _ _ _ _ _ _ hS ha h
    replace h := seeNil_use h
    rcases h with h | ⟨rfl, h⟩
    · exact hC _ _ _ _ _ _ _ hS ha h
    exact cbody_use named C0_ok at42 (l := 1) rfl (LoopsOk.none _ _) (F42_8_ok  pa sg xs K) hS ha h
  · exact hC _ _ _ _ _ _ _ hS ha h
abbrev Y31l : Type := Int → (Prop) → (Prop) → (Prop) → Prop
set_option maxHeartbeats 4000000 in
set_option maxRecDepth 100000 in
def F31l (f54 : Y54) (t : Int) (k1 : Prop) (k2 : Prop) (k3 : Prop) : Prop :=
  (f54 t (fun (xs1 : List Int) => (k1)) (fun (xs2 : List Int) => (k2)) (fun (xs3 : List Int) => (k2)) (fun (xs4 : List Int) => (k2)) (fun (xs5 : List Int) => (k2)) (fun (xs6 : List Int) => (k2)) (fun (xs7 : List Int) => (k3)))
theorem F31l_ok (f54 : Y54) (t : Int) (K : V → Mem → Prop) : cbody Try.prog (T54 f54 C0) (fun _ => none) 1000 (fnOf Try.prog 31) [(.I .i64 t)] [] K =
    F31l f54 t (K (.tup [(.I .i64 (0 : Int)), (.I .i64 (200 : Int))]) []) (K (.tup [(.I .i64 (4 : Int)), (.I .i64 (0 : Int))]) []) (K (.tup [(.I .i64 (8 : Int)), (.I .i64 (0 : Int))]) []) := by kernel_rfl
def G31l : Y31l := F31l G54
def VT31l (f : Y31l) (F : Prop) (args : List V) (m : Mem) (K : V → Mem → Prop) : Prop :=
  (seeCons args F fun a1 q2 => (seeI .i64 a1 F fun t => (seeNil q2 F (seeNil m F (f t (K (.tup [(.I .i64 (0 : Int)), (.I .i64 (200 : Int))]) []) (K (.tup [(.I .i64 (4 : Int)), (.I .i64 (0 : Int))]) []) (K (.tup [(.I .i64 (8 : Int)), (.I .i64 (0 : Int))]) []))))))
def T31l (f : Y31l) (C : CC) : CC := fun g args m K =>
  match Nat.beq g 31 with
  | true => VT31l f (C g args m K) args m K
  | false => C g args m K
set_option maxRecDepth 100000 in
theorem T31l_ok {C : CC} (hC : CallsOk Try.prog C) : CallsOk Try.prog (T31l G31l C) := by
  intro g args m K E w cargs hS ha h
  unfold T31l at h
  split at h
  · rename_i hg
    obtain rfl := Nat.eq_of_beq_eq_true hg
    unfold VT31l at h
    replace h := seeCons_use h
    rcases h with h | ⟨a1, q2, rfl, h⟩
    · exact hC _ _ _ _ _ _ _ hS ha h
    replace h := seeI_use h
    rcases h with h | ⟨t, rfl, h⟩
    · exact hC _ _ _ _ _ _ _ hS ha h
    replace h := seeNil_use h
    rcases h with h | ⟨rfl, h⟩
    · exact hC _ _ _ _ _ _ _ hS ha h
    replace h := seeNil_use h
    rcases h with h | ⟨rfl, h⟩
    · exact hC _ _ _ _ _ _ _ hS ha h
    exact cbody_use named (T54_ok C0_ok) at31 (l := 0) rfl (LoopsOk.none _ _) (F31l_ok G54 t K) hS ha h
  · exact hC _ _ _ _ _ _ _ hS ha h
abbrev YL10_12 : Type := Code → Int → Int → List Int → List Int → (Prop) → (Prop) → Prop
set_option maxHeartbeats 4000000 in
set_option maxRecDepth 100000 in
def HL10_12  (rec : Int → Prop) (i_1 : Int) (i_17 : Int) (xs_m_0_0 : List Int) (xs_m_1_0 : List Int) (k1 : Prop) (k2 : Prop) : Prop :=
  (bif (decide (i_17 < ((((List.length xs_m_1_0) - (0 : Nat)) : Nat) : Int))) then (bif (decide (i_17 < i_1)) then (bif ((decide ((0 : Int) ≤ i_17)) && (decide (i_17 < ((((List.length xs_m_1_0) - (0 : Nat)) : Nat) : Int)))) then (bif ((decide ((0 : Int) ≤ i_17)) && (decide (i_17 < ((((List.length xs_m_0_0) - (0 : Nat)) : Nat) : Int)))) then (bif ((List.getD xs_m_1_0 (Int.toNat i_17) (0 : Int)) != (List.getD xs_m_0_0 (Int.toNat i_17) (0 : Int))) then (k1) else (rec (IntKind.wrap .i64 (i_17 + (1 : Int))))) else False) else False) else (bif (decide (i_17 ≥ (IntKind.wrap .i64 (i_1 + (4 : Int))))) then (bif ((decide ((0 : Int) ≤ i_17)) && (decide (i_17 < ((((List.length xs_m_1_0) - (0 : Nat)) : Nat) : Int)))) then (bif ((decide ((0 : Int) ≤ i_17)) && (decide (i_17 < ((((List.length xs_m_0_0) - (0 : Nat)) : Nat) : Int)))) then (bif ((List.getD xs_m_1_0 (Int.toNat i_17) (0 : Int)) != (List.getD xs_m_0_0 (Int.toNat i_17) (0 : Int))) then (k1) else (rec (IntKind.wrap .i64 (i_17 + (1 : Int))))) else False) else False) else (rec (IntKind.wrap .i64 (i_17 + (1 : Int)))))) else (k2))
def RL10_12  : Nat → Int → Int → List Int → List Int → (Prop) → (Prop) → Prop
  | 0, _, _, _, _, _, _ => False
  | n + 1, i_1, i_17, xs_m_0_0, xs_m_1_0, k1, k2 => HL10_12  (fun (i_17 : Int) => RL10_12  n i_1 i_17 xs_m_0_0 xs_m_1_0 k1 k2) i_1 i_17 xs_m_0_0 xs_m_1_0 k1 k2
noncomputable def XL10_12 : Code := sub [true, true, true, true, true, true, true, true, false, true, false, false] (bodyOf Try.prog 10)
theorem HL10_12_ok  (n : Nat) (i_1 : Int) (i_17 : Int) (xs_m_0_0 : List Int) (xs_m_1_0 : List Int) (K : Ex → Env → Mem → Prop) : cround 1 [0, 1, 9, 11, 17] [8] (fun ρ m K => cexec Try.prog C0 (fun _ => none) 1 1000 XL10_12 ρ m K) (n + 1) (selE 106 [(0, (.sl 0 (0 : Nat) (none : Option Nat) (none : Option Nat))), (1, (.I .i64 i_1)), (9, (.sl 1 (0 : Nat) (none : Option Nat) (none : Option Nat))), (11, (.I .i64 (4 : Int))), (17, (.I .i64 i_17))]) [⟨[.ints .u8 xs_m_0_0], 5, true, false⟩, ⟨[.ints .u8 xs_m_1_0], 5, false, true⟩] K =
    HL10_12  (fun (i_17 : Int) => cround 1 [0, 1, 9, 11, 17] [8] (fun ρ m K => cexec Try.prog C0 (fun _ => none) 1 1000 XL10_12 ρ m K) n (selE 106 [(0, (.sl 0 (0 : Nat) (none : Option Nat) (none : Option Nat))), (1, (.I .i64 i_1)), (9, (.sl 1 (0 : Nat) (none : Option Nat) (none : Option Nat))), (11, (.I .i64 (4 : Int))), (17, (.I .i64 i_17))]) [⟨[.ints .u8 xs_m_0_0], 5, true, false⟩, ⟨[.ints .u8 xs_m_1_0], 5, false, true⟩] K) i_1 i_17 xs_m_0_0 xs_m_1_0 (K .ret (selE 106 [(8, (.B false))]) [⟨[.ints .u8 xs_m_0_0], 5, true, false⟩]) (K (.exit 0) (selE 106 [(8, .undef)]) [⟨[.ints .u8 xs_m_0_0], 5, true, false⟩]) := by kernel_rfl
theorem RL10_12_ok  (K : Ex → Env → Mem → Prop) : ∀ (n : Nat) (i_1 : Int) (i_17 : Int) (xs_m_0_0 : List Int) (xs_m_1_0 : List Int), cround 1 [0, 1, 9, 11, 17] [8] (fun ρ m K => cexec Try.prog C0 (fun _ => none) 1 1000 XL10_12 ρ m K) n (selE 106 [(0, (.sl 0 (0 : Nat) (none : Option Nat) (none : Option Nat))), (1, (.I .i64 i_1)), (9, (.sl 1 (0 : Nat) (none : Option Nat) (none : Option Nat))), (11, (.I .i64 (4 : Int))), (17, (.I .i64 i_17))]) [⟨[.ints .u8 xs_m_0_0], 5, true, false⟩, ⟨[.ints .u8 xs_m_1_0], 5, false, true⟩] K = RL10_12  n i_1 i_17 xs_m_0_0 xs_m_1_0 (K .ret (selE 106 [(8, (.B false))]) [⟨[.ints .u8 xs_m_0_0], 5, true, false⟩]) (K (.exit 0) (selE 106 [(8, .undef)]) [⟨[.ints .u8 xs_m_0_0], 5, true, false⟩])
  | 0, i_1, i_17, xs_m_0_0, xs_m_1_0 => rfl
  | n + 1, i_1, i_17, xs_m_0_0, xs_m_1_0 => by
    have ih := RL10_12_ok  K n
    rw [HL10_12_ok  n i_1 i_17 xs_m_0_0 xs_m_1_0 K]
    show HL10_12  _ i_1 i_17 xs_m_0_0 xs_m_1_0 (K .ret (selE 106 [(8, (.B false))]) [⟨[.ints .u8 xs_m_0_0], 5, true, false⟩]) (K (.exit 0) (selE 106 [(8, .undef)]) [⟨[.ints .u8 xs_m_0_0], 5, true, false⟩]) = HL10_12  _ i_1 i_17 xs_m_0_0 xs_m_1_0 (K .ret (selE 106 [(8, (.B false))]) [⟨[.ints .u8 xs_m_0_0], 5, true, false⟩]) (K (.exit 0) (selE 106 [(8, .undef)]) [⟨[.ints .u8 xs_m_0_0], 5, true, false⟩])
    refine congrArg (fun r => HL10_12  r i_1 i_17 xs_m_0_0 xs_m_1_0 (K .ret (selE 106 [(8, (.B false))]) [⟨[.ints .u8 xs_m_0_0], 5, true, false⟩]) (K (.exit 0) (selE 106 [(8, .undef)]) [⟨[.ints .u8 xs_m_0_0], 5, true, false⟩])) ?_
    funext i_17
    exact ih i_1 i_17 xs_m_0_0 xs_m_1_0
def GL10_12 : YL10_12 := fun x i_1 i_17 xs_m_0_0 xs_m_1_0 k1 k2 => x = XL10_12 ∧ ∃ n, RL10_12  n i_1 i_17 xs_m_0_0 xs_m_1_0 k1 k2
def VL10_12 (l : YL10_12) (F : Prop) (x : Code) (ρ : Env) (m : Mem) (K : Ex → Env → Mem → Prop) : Prop :=
  match ρ.has (106 - 1) with
  | true => (seeV (.sl 0 (0 : Nat) (none : Option Nat) (none : Option Nat)) (ρ.get 0) F (seeI .i64 (ρ.get 1) F fun i_1 => (seeV (.sl 1 (0 : Nat) (none : Option Nat) (none : Option Nat)) (ρ.get 9) F (seeV (.I .i64 (4 : Int)) (ρ.get 11) F (seeI .i64 (ρ.get 17) F fun i_17 => (seeCons m F fun a6 q7 => (seeBlk 5 true false a6 F fun cs8 => (seeCons cs8 F fun a9 q10 => (seeInts .u8 a9 F fun xs_m_0_0 => (seeNil q10 F (seeCons q7 F fun a11 q12 => (seeBlk 5 false true a11 F fun cs13 => (seeCons cs13 F fun a14 q15 => (seeInts .u8 a14 F fun xs_m_1_0 => (seeNil q15 F (seeNil q12 F (l x i_1 i_17 xs_m_0_0 xs_m_1_0 (K .ret (selE 106 [(8, (.B false))]) [⟨[.ints .u8 xs_m_0_0], 5, true, false⟩]) (K (.exit 0) (selE 106 [(8, .undef)]) [⟨[.ints .u8 xs_m_0_0], 5, true, false⟩]))))))))))))))))))
  | false => False
def WL10_12 (l : YL10_12) (W : Masks) : Masks := fun r =>
  match Nat.beq r 12 with
  | true => some fun x ρ m K => VL10_12 l (match W r with | some lf => lf x ρ m K | none => False) x (tidyE 1 [0, 1, 9, 11, 17] ρ m) (tidyM 1 [0, 1, 9, 11, 17] ρ m) K
  | false => W r
set_option maxRecDepth 100000 in
theorem WL10_12_ok {W : Masks} (hW : LoopsOk Try.prog 1 W) : LoopsOk Try.prog 1 (WL10_12 GL10_12 W) := by
  intro r lf h
  unfold WL10_12 at h
  split at h
  · cases h
    intro x E0 m0 w0 ds hS0 ha ρ m K E a w Q hS hρ hd h hQ
    have fb : (match W r with | some lf => lf x ρ m K | none => False) → (Code.loop x).wp Try.prog Q a w := fun h => by
      split at h
      · rename_i lf hlf
        exact hW r lf hlf x hS0 ha ρ m K E a w Q hS hρ hd h hQ
      · cases h
    obtain ⟨E2, hS2, hρ2⟩ := tidy_rel hS0 hS hρ [0, 1, 9, 11, 17]
    rw [ha] at hS2 hρ2
    unfold VL10_12 at h
    split at h
    · rename_i hlen
      replace h := seeV_use h
      rcases h with h | ⟨e1, h⟩
      · exact fb h
      replace h := seeI_use h
      rcases h with h | ⟨i_1, e2, h⟩
      · exact fb h
      replace h := seeV_use h
      rcases h with h | ⟨e3, h⟩
      · exact fb h
      replace h := seeV_use h
      rcases h with h | ⟨e4, h⟩
      · exact fb h
      replace h := seeI_use h
      rcases h with h | ⟨i_17, e5, h⟩
      · exact fb h
      replace h := seeCons_use h
      rcases h with h | ⟨a6, q7, eqm, h⟩
      · exact fb h
      replace h := seeBlk_use h
      rcases h with h | ⟨cs8, rfl, h⟩
      · exact fb h
      replace h := seeCons_use h
      rcases h with h | ⟨a9, q10, rfl, h⟩
      · exact fb h
      replace h := seeInts_use h
      rcases h with h | ⟨xs_m_0_0, rfl, h⟩
      · exact fb h
      replace h := seeNil_use h
      rcases h with h | ⟨rfl, h⟩
      · exact fb h
      replace h := seeCons_use h
      rcases h with h | ⟨a11, q12, rfl, h⟩
      · exact fb h
      replace h := seeBlk_use h
      rcases h with h | ⟨cs13, rfl, h⟩
      · exact fb h
      replace h := seeCons_use h
      rcases h with h | ⟨a14, q15, rfl, h⟩
      · exact fb h
      replace h := seeInts_use h
      rcases h with h | ⟨xs_m_1_0, rfl, h⟩
      · exact fb h
      replace h := seeNil_use h
      rcases h with h | ⟨rfl, h⟩
      · exact fb h
      replace h := seeNil_use h
      rcases h with h | ⟨rfl, h⟩
      · exact fb h
      obtain ⟨rfl, n, h⟩ := h
      exact loop_use named C0_ok (LoopsOk.none _ _) (RL10_12_ok  K n _ _ _ _) h hS0 ha hlen ⟨e1, e2, e3, e4, e5, trivial⟩ (eqm ▸ hS2) hρ2 hd hQ
    · cases h
  · exact hW r lf h
abbrev YL10_12b : Type := Code → Int → Int → List Int → List Int → (Prop) → (Prop) → Prop
set_option maxHeartbeats 4000000 in
set_option maxRecDepth 100000 in
def HL10_12b  (rec : Int → Prop) (i_1 : Int) (i_17 : Int) (xs_m_0_0 : List Int) (xs_m_1_0 : List Int) (k1 : Prop) (k2 : Prop) : Prop :=
  (bif (decide (i_17 < ((((List.length xs_m_1_0) - (0 : Nat)) : Nat) : Int))) then (bif (decide (i_17 < i_1)) then (bif ((decide ((0 : Int) ≤ i_17)) && (decide (i_17 < ((((List.length xs_m_1_0) - (0 : Nat)) : Nat) : Int)))) then (bif ((decide ((0 : Int) ≤ i_17)) && (decide (i_17 < ((((List.length xs_m_0_0) - (0 : Nat)) : Nat) : Int)))) then (bif ((List.getD xs_m_1_0 (Int.toNat i_17) (0 : Int)) != (List.getD xs_m_0_0 (Int.toNat i_17) (0 : Int))) then (k1) else (rec (IntKind.wrap .i64 (i_17 + (1 : Int))))) else False) else False) else (bif (decide (i_17 ≥ (IntKind.wrap .i64 (i_1 + (8 : Int))))) then (bif ((decide ((0 : Int) ≤ i_17)) && (decide (i_17 < ((((List.length xs_m_1_0) - (0 : Nat)) : Nat) : Int)))) then (bif ((decide ((0 : Int) ≤ i_17)) && (decide (i_17 < ((((List.length xs_m_0_0) - (0 : Nat)) : Nat) : Int)))) then (bif ((List.getD xs_m_1_0 (Int.toNat i_17) (0 : Int)) != (List.getD xs_m_0_0 (Int.toNat i_17) (0 : Int))) then (k1) else (rec (IntKind.wrap .i64 (i_17 + (1 : Int))))) else False) else False) else (rec (IntKind.wrap .i64 (i_17 + (1 : Int)))))) else (k2))
def RL10_12b  : Nat → Int → Int → List Int → List Int → (Prop) → (Prop) → Prop
  | 0, _, _, _, _, _, _ => False
  | n + 1, i_1, i_17, xs_m_0_0, xs_m_1_0, k1, k2 => HL10_12b  (fun (i_17 : Int) => RL10_12b  n i_1 i_17 xs_m_0_0 xs_m_1_0 k1 k2) i_1 i_17 xs_m_0_0 xs_m_1_0 k1 k2
noncomputable def XL10_12b : Code := sub [true, true, true, true, true, true, true, true, false, true, false, false] (bodyOf Try.prog 10)
theorem HL10_12b_ok  (n : Nat) (i_1 : Int) (i_17 : Int) (xs_m_0_0 : List Int) (xs_m_1_0 : List Int) (K : Ex → Env → Mem → Prop) : cround 1 [0, 1, 9, 11, 17] [8] (fun ρ m K => cexec Try.prog C0 (fun _ => none) 1 1000 XL10_12b ρ m K) (n + 1) (selE 106 [(0, (.sl 0 (0 : Nat) (none : Option Nat) (none : Option Nat))), (1, (.I .i64 i_1)), (9, (.sl 1 (0 : Nat) (none : Option Nat) (none : Option Nat))), (11, (.I .i64 (8 : Int))), (17, (.I .i64 i_17))]) [⟨[.ints .u8 xs_m_0_0], 5, true, false⟩, ⟨[.ints .u8 xs_m_1_0], 5, false, true⟩] K =
    HL10_12b  (fun (i_17 : Int) => cround 1 [0, 1, 9, 11, 17] [8] (fun ρ m K => cexec Try.prog C0 (fun _ => none) 1 1000 XL10_12b ρ m K) n (selE 106 [(0, (.sl 0 (0 : Nat) (none : Option Nat) (none : Option Nat))), (1, (.I .i64 i_1)), (9, (.sl 1 (0 : Nat) (none : Option Nat) (none : Option Nat))), (11, (.I .i64 (8 : Int))), (17, (.I .i64 i_17))]) [⟨[.ints .u8 xs_m_0_0], 5, true, false⟩, ⟨[.ints .u8 xs_m_1_0], 5, false, true⟩] K) i_1 i_17 xs_m_0_0 xs_m_1_0 (K .ret (selE 106 [(8, (.B false))]) [⟨[.ints .u8 xs_m_0_0], 5, true, false⟩]) (K (.exit 0) (selE 106 [(8, .undef)]) [⟨[.ints .u8 xs_m_0_0], 5, true, false⟩]) := by kernel_rfl
theorem RL10_12b_ok  (K : Ex → Env → Mem → Prop) : ∀ (n : Nat) (i_1 : Int) (i_17 : Int) (xs_m_0_0 : List Int) (xs_m_1_0 : List Int), cround 1 [0, 1, 9, 11, 17] [8] (fun ρ m K => cexec Try.prog C0 (fun _ => none) 1 1000 XL10_12b ρ m K) n (selE 106 [(0, (.sl 0 (0 : Nat) (none : Option Nat) (none : Option Nat))), (1, (.I .i64 i_1)), (9, (.sl 1 (0 : Nat) (none : Option Nat) (none : Option Nat))), (11, (.I .i64 (8 : Int))), (17, (.I .i64 i_17))]) [⟨[.ints .u8 xs_m_0_0], 5, true, false⟩, ⟨[.ints .u8 xs_m_1_0], 5, false, true⟩] K = RL10_12b  n i_1 i_17 xs_m_0_0 xs_m_1_0 (K .ret (selE 106 [(8, (.B false))]) [⟨[.ints .u8 xs_m_0_0], 5, true, false⟩]) (K (.exit 0) (selE 106 [(8, .undef)]) [⟨[.ints .u8 xs_m_0_0], 5, true, false⟩])
  | 0, i_1, i_17, xs_m_0_0, xs_m_1_0 => rfl
  | n + 1, i_1, i_17, xs_m_0_0, xs_m_1_0 => by
    have ih := RL10_12b_ok  K n
    rw [HL10_12b_ok  n i_1 i_17 xs_m_0_0 xs_m_1_0 K]
    show HL10_12b  _ i_1 i_17 xs_m_0_0 xs_m_1_0 (K .ret (selE 106 [(8, (.B false))]) [⟨[.ints .u8 xs_m_0_0], 5, true, false⟩]) (K (.exit 0) (selE 106 [(8, .undef)]) [⟨[.ints .u8 xs_m_0_0], 5, true, false⟩]) = HL10_12b  _ i_1 i_17 xs_m_0_0 xs_m_1_0 (K .ret (selE 106 [(8, (.B false))]) [⟨[.ints .u8 xs_m_0_0], 5, true, false⟩]) (K (.exit 0) (selE 106 [(8, .undef)]) [⟨[.ints .u8 xs_m_0_0], 5, true, false⟩])
    refine congrArg (fun r => HL10_12b  r i_1 i_17 xs_m_0_0 xs_m_1_0 (K .ret (selE 106 [(8, (.B false))]) [⟨[.ints .u8 xs_m_0_0], 5, true, false⟩]) (K (.exit 0) (selE 106 [(8, .undef)]) [⟨[.ints .u8 xs_m_0_0], 5, true, false⟩])) ?_
    funext i_17
    exact ih i_1 i_17 xs_m_0_0 xs_m_1_0
def GL10_12b : YL10_12b := fun x i_1 i_17 xs_m_0_0 xs_m_1_0 k1 k2 => x = XL10_12b ∧ ∃ n, RL10_12b  n i_1 i_17 xs_m_0_0 xs_m_1_0 k1 k2
def VL10_12b (l : YL10_12b) (F : Prop) (x : Code) (ρ : Env) (m : Mem) (K : Ex → Env → Mem → Prop) : Prop :=
  match ρ.has (106 - 1) with
  | true => (seeV (.sl 0 (0 : Nat) (none : Option Nat) (none : Option Nat)) (ρ.get 0) F (seeI .i64 (ρ.get 1) F fun i_1 => (seeV (.sl 1 (0 : Nat) (none : Option Nat) (none : Option Nat)) (ρ.get 9) F (seeV (.I .i64 (8 : Int)) (ρ.get 11) F (seeI .i64 (ρ.get 17) F fun i_17 => (seeCons m F fun a6 q7 => (seeBlk 5 true false a6 F fun cs8 => (seeCons cs8 F fun a9 q10 => (seeInts .u8 a9 F fun xs_m_0_0 => (seeNil q10 F (seeCons q7 F fun a11 q12 => (seeBlk 5 false true a11 F fun cs13 => (seeCons cs13 F fun a14 q15 => (seeInts .u8 a14 F fun xs_m_1_0 => (seeNil q15 F (seeNil q12 F (l x i_1 i_17 xs_m_0_0 xs_m_1_0 (K .ret (selE 106 [(8, (.B false))]) [⟨[.ints .u8 xs_m_0_0], 5, true, false⟩]) (K (.exit 0) (selE 106 [(8, .undef)]) [⟨[.ints .u8 xs_m_0_0], 5, true, false⟩]))))))))))))))))))
  | false => False
def WL10_12b (l : YL10_12b) (W : Masks) : Masks := fun r =>
  match Nat.beq r 12 with
  | true => some fun x ρ m K => VL10_12b l (match W r with | some lf => lf x ρ m K | none => False) x (tidyE 1 [0, 1, 9, 11, 17] ρ m) (tidyM 1 [0, 1, 9, 11, 17] ρ m) K
  | false => W r
set_option maxRecDepth 100000 in
theorem WL10_12b_ok {W : Masks} (hW : LoopsOk Try.prog 1 W) : LoopsOk Try.prog 1 (WL10_12b GL10_12b W) := by
  intro r lf h
  unfold WL10_12b at h
  split at h
  · cases h
    intro x E0 m0 w0 ds hS0 ha ρ m K E a w Q hS hρ hd h hQ
    have fb : (match W r with | some lf => lf x ρ m K | none => False) → (Code.loop x).wp Try.prog Q a w := fun h => by
      split at h
      · rename_i lf hlf
        exact hW r lf hlf x hS0 ha ρ m K E a w Q hS hρ hd h hQ
      · cases h
    obtain ⟨E2, hS2, hρ2⟩ := tidy_rel hS0 hS hρ [0, 1, 9, 11, 17]
    rw [ha] at hS2 hρ2
    unfold VL10_12b at h
    split at h
    · rename_i hlen
      replace h := seeV_use h
      rcases h with h | ⟨e1, h⟩
      · exact fb h
      replace h := seeI_use h
      rcases h with h | ⟨i_1, e2, h⟩
      · exact fb h
      replace h := seeV_use h
      rcases h with h | ⟨e3, h⟩
      · exact fb h
      replace h := seeV_use h
      rcases h with h | ⟨e4, h⟩
      · exact fb h
      replace h := seeI_use h
      rcases h with h | ⟨i_17, e5, h⟩
      · exact fb h
      replace h := seeCons_use h
      rcases h with h | ⟨a6, q7, eqm, h⟩
      · exact fb h
      replace h := seeBlk_use h
      rcases h with h | ⟨cs8, rfl, h⟩
      · exact fb h
      replace h := seeCons_use h
      rcases h with h | ⟨a9, q10, rfl, h⟩
      · exact fb h
      replace h := seeInts_use h
      rcases h with h | ⟨xs_m_0_0, rfl, h⟩
      · exact fb h
      replace h := seeNil_use h
      rcases h with h | ⟨rfl, h⟩
      · exact fb h
      replace h := seeCons_use h
      rcases h with h | ⟨a11, q12, rfl, h⟩
      · exact fb h
      replace h := seeBlk_use h
      rcases h with h | ⟨cs13, rfl, h⟩
      · exact fb h
      replace h := seeCons_use h
      rcases h with h | ⟨a14, q15, rfl, h⟩
      · exact fb h
      replace h := seeInts_use h
      rcases h with h | ⟨xs_m_1_0, rfl, h⟩
      · exact fb h
      replace h := seeNil_use h
      rcases h with h | ⟨rfl, h⟩
      · exact fb h
      replace h := seeNil_use h
      rcases h with h | ⟨rfl, h⟩
      · exact fb h
      obtain ⟨rfl, n, h⟩ := h
      exact loop_use named C0_ok (LoopsOk.none _ _) (RL10_12b_ok  K n _ _ _ _) h hS0 ha hlen ⟨e1, e2, e3, e4, e5, trivial⟩ (eqm ▸ hS2) hρ2 hd hQ
    · cases h
  · exact hW r lf h
theorem at10 : Try.prog.funcs[10]? = some (fnOf Try.prog 10) := by kernel_rfl
abbrev Y10 : Type := Int → Int → Int → Int → Int → Int → Int → List Int → (Prop) → (Prop) → Prop
set_option maxHeartbeats 4000000 in
set_option maxRecDepth 100000 in
def F10 (f25 : Y25) (f24 : Y24) (f23l : Y23l) (f26 : Y26) (f42_4 : Y42_4) (f42_8 : Y42_8) (f31l : Y31l) (l10_12 : YL10_12) (l10_12b : YL10_12b) (pa : Int) (t : Int) (ps : Int) (pad : Int) (pp : Int) (pg : Int) (ptp : Int) (xs : List Int) (k1 : Prop) (k2 : Prop) : Prop :=
  (bif (((ps == ps) && ((pad == pad) && ((pp == pp) && ((pg == pg) && ((ptp == ptp) && true))))) && ((t == t) && ((pa == pa) && true))) then (bif ((decide ((((0 : Nat) + ((List.length xs) - (0 : Nat))) * (1 : Nat)) ≤ (140737488355328 : Nat))) && (decide (((0 : Nat) + ((List.length xs) - (0 : Nat))) ≤ (140737488355328 : Nat)))) then (bif (((ps == ps) && ((pad == pad) && ((pp == pp) && ((pg == pg) && ((ptp == ptp) && true))))) && ((t == t) && ((pa == pa) && true))) then (f26 pa t ps pad pp pg ptp xs ((f24 (6 : Int) ((f25 ((k1)))))) ((f24 (200 : Int) ((f25 ((k1)))))) ((f24 (11 : Int) ((f25 ((k1)))))) ((f24 (201 : Int) ((f25 ((k1)))))) (fun (xs1 : List Int) => (f24 (0 : Int) ((f31l t ((f23l t ps pad pp pg ptp ((f24 (200 : Int) ((f24 (200 : Int) ((k2)))))) ((f24 (200 : Int) ((f24 (11 : Int) ((k2)))))) (fun (n2 : Int) => (f24 (200 : Int) ((f24 (0 : Int) ((k2)))))))) ((f23l t ps pad pp pg ptp ((f24 (0 : Int) ((f24 (200 : Int) ((k2)))))) ((f24 (0 : Int) ((f24 (11 : Int) ((k2)))))) (fun (n3 : Int) => (f24 (0 : Int) ((f24 (0 : Int) ((bif (((((List.length xs1) - (0 : Nat)) : Nat) : Int) != ((((List.length xs) - (0 : Nat)) : Nat) : Int)) then (k2) else (f42_4 pa (t != (10 : Int)) xs1 ((f24 (20 : Int) ((k2)))) (fun (n4 : Int) => (f24 (0 : Int) ((bif (n4 != n3) then (k2) else (l10_12 XL10_12 pa (0 : Int) xs xs1 ((k2)) ((f25 ((k1)))))))))))))))))) ((f23l t ps pad pp pg ptp ((f24 (0 : Int) ((f24 (200 : Int) ((k2)))))) ((f24 (0 : Int) ((f24 (11 : Int) ((k2)))))) (fun (n5 : Int) => (f24 (0 : Int) ((f24 (0 : Int) ((bif (((((List.length xs1) - (0 : Nat)) : Nat) : Int) != ((((List.length xs) - (0 : Nat)) : Nat) : Int)) then (k2) else (f42_8 pa (t != (10 : Int)) xs1 ((f24 (20 : Int) ((k2)))) (fun (n6 : Int) => (f24 (0 : Int) ((bif (n6 != n5) then (k2) else (l10_12b XL10_12b pa (0 : Int) xs xs1 ((k2)) ((f25 ((k1))))))))))))))))))))))) else False) else False) else False)
theorem F10_ok (f25 : Y25) (f24 : Y24) (f23l : Y23l) (f26 : Y26) (f42_4 : Y42_4) (f42_8 : Y42_8) (f31l : Y31l) (l10_12 : YL10_12) (l10_12b : YL10_12b) (pa : Int) (t : Int) (ps : Int) (pad : Int) (pp : Int) (pg : Int) (ptp : Int) (xs : List Int) (K : V → Mem → Prop) : cbody Try.prog (T25 f25 (T24 f24 (T23l f23l (T26 f26 (T42_4 f42_4 (T42_8 f42_8 (T31l f31l C0))))))) (WL10_12 l10_12 (WL10_12b l10_12b (fun _ => none))) 1000 (fnOf Try.prog 10) [(.sl 0 (0 : Nat) (none : Option Nat) (none : Option Nat)), (.I .i64 pa), (.I .i64 t), (.agg [(.I .i64 ps), (.I .i64 pad), (.I .i64 pp), (.I .i64 pg), (.I .i64 ptp)])] [⟨[.ints .u8 xs], 5, true, false⟩] K =
    F10 f25 f24 f23l f26 f42_4 f42_8 f31l l10_12 l10_12b pa t ps pad pp pg ptp xs (K (.B true) [⟨[.ints .u8 xs], 5, true, false⟩]) (K (.B false) [⟨[.ints .u8 xs], 5, true, false⟩]) := by kernel_rfl
def G10 : Y10 := F10 G25 G24 G23l G26 G42_4 G42_8 G31l GL10_12 GL10_12b
def VT10 (f : Y10) (F : Prop) (args : List V) (m : Mem) (K : V → Mem → Prop) : Prop :=
  (seeCons args F fun a1 q2 => (seeV (.sl 0 (0 : Nat) (none : Option Nat) (none : Option Nat)) a1 F (seeCons q2 F fun a3 q4 => (seeI .i64 a3 F fun pa => (seeCons q4 F fun a5 q6 => (seeI .i64 a5 F fun t => (seeCons q6 F fun a7 q8 => (seeAgg a7 F fun vs9 => (seeCons vs9 F fun a10 q11 => (seeI .i64 a10 F fun ps => (seeCons q11 F fun a12 q13 => (seeI .i64 a12 F fun pad => (seeCons q13 F fun a14 q15 => (seeI .i64 a14 F fun pp => (seeCons q15 F fun a16 q17 => (seeI .i64 a16 F fun pg => (seeCons q17 F fun a18 q19 => (seeI .i64 a18 F fun ptp => (seeNil q19 F (seeNil q8 F (seeCons m F fun a20 q21 => (seeBlk 5 true false a20 F fun cs22 => (seeCons cs22 F fun a23 q24 => (seeInts .u8 a23 F fun xs => (seeNil q24 F (seeNil q21 F (f pa t ps pad pp pg ptp xs (K (.B true) [⟨[.ints .u8 xs], 5, true, false⟩]) (K (.B false) [⟨[.ints .u8 xs], 5, true, false⟩]))))))))))))))))))))))))))))
def T10 (f : Y10) (C : CC) : CC := fun g args m K =>
  match Nat.beq g 10 with
  | true => VT10 f (C g args m K) args m K
  | false => C g args m K
set_option maxRecDepth 100000 in
theorem T10_ok {C : CC} (hC : CallsOk Try.prog C) : CallsOk Try.prog (T10 G10 C) := by
  intro g args m K E w cargs hS ha h
  unfold T10 at h
  split at h
  · rename_i hg
    obtain rfl := Nat.eq_of_beq_eq_true hg
    unfold VT10 at h
    replace h := seeCons_use h
    rcases h with h | ⟨a1, q2, rfl, h⟩
    · exact hC _ _ _ _ _ _ _ hS ha h
    replace h := seeV_use h
    rcases h with h | ⟨rfl, h⟩
    · exact hC _ _ _ _ _ _ _ hS ha h
    replace h := seeCons_use h
    rcases h with h | ⟨a3, q4, rfl, h⟩
    · exact hC _ _ _ _ _ _ _ hS ha h
    replace h := seeI_use h
    rcases h with h | ⟨pa, rfl, h⟩
    · exact hC _ _ _ _ _ _ _ hS ha h
    replace h := seeCons_use h
    rcases h with h | ⟨a5, q6, rfl, h⟩
    · exact hC _ _ _ _ _ _ _ hS ha h
    replace h := seeI_use h
    rcases h with h | ⟨t, rfl, h⟩
    · exact hC _ _ _ _ _ _ _ hS ha h
    replace h := seeCons_use h
    rcases h with h | ⟨a7, q8, rfl, h⟩
    · exact hC _ _ _ _ _ _ _ hS ha h
    replace h := seeAgg_use h
    rcases h with h | ⟨vs9, rfl, h⟩
    · exact hC _ _ _ _ _ _ _ hS ha h
    replace h := seeCons_use h
    rcases h with h | ⟨a10, q11, rfl, h⟩
    · exact hC _ _ _ _ _ _ _ hS ha h
    replace h := seeI_use h
    rcases h with h | ⟨ps, rfl, h⟩
    · exact hC _ _ _ _ _ _ _ hS ha h
    replace h := seeCons_use h
    rcases h with h | ⟨a12, q13, rfl, h⟩
    · exact hC _ _ _ _ _ _ _ hS ha h
    replace h := seeI_use h
    rcases h with h | ⟨pad, rfl, h⟩
    · exact hC _ _ _ _ _ _ _ hS ha h
    replace h := seeCons_use h
    rcases h with h | ⟨a14, q15, rfl, h⟩
    · exact hC _ _ _ _ _ _ _ hS ha h
    replace h := seeI_use h
    rcases h with h | ⟨pp, rfl, h⟩
    · exact hC _ _ _ _ _ _ _ hS ha h
    replace h := seeCons_use h
    rcases h with h | ⟨a16, q17, rfl, h⟩
    · exact hC _ _ _ _ _ _ _ hS ha h
    replace h := seeI_use h
    rcases h with h | ⟨pg, rfl, h⟩
    · exact hC _ _ _ _ _ _ _ hS ha h
    replace h := seeCons_use h
    rcases h with h | ⟨a18, q19, rfl, h⟩
    · exact hC _ _ _ _ _ _ _ hS ha h
    replace h := seeI_use h
    rcases h with h | ⟨ptp, rfl, h⟩
    · exact hC _ _ _ _ _ _ _ hS ha h
    replace h := seeNil_use h
    rcases h with h | ⟨rfl, h⟩
    · exact hC _ _ _ _ _ _ _ hS ha h
    replace h := seeNil_use h
    rcases h with h | ⟨rfl, h⟩
    · exact hC _ _ _ _ _ _ _ hS ha h
    replace h := seeCons_use h
    rcases h with h | ⟨a20, q21, rfl, h⟩
    · exact hC _ _ _ _ _ _ _ hS ha h
    replace h := seeBlk_use h
    rcases h with h | ⟨cs22, rfl, h⟩
    · exact hC _ _ _ _ _ _ _ hS ha h
    replace h := seeCons_use h
    rcases h with h | ⟨a23, q24, rfl, h⟩
    · exact hC _ _ _ _ _ _ _ hS ha h
    replace h := seeInts_use h
    rcases h with h | ⟨xs, rfl, h⟩
    · exact hC _ _ _ _ _ _ _ hS ha h
    replace h := seeNil_use h
    rcases h with h | ⟨rfl, h⟩
    · exact hC _ _ _ _ _ _ _ hS ha h
    replace h := seeNil_use h
    rcases h with h | ⟨rfl, h⟩
    · exact hC _ _ _ _ _ _ _ hS ha h
    exact cbody_use named (T25_ok (T24_ok (T23l_ok (T26_ok (T42_4_ok (T42_8_ok (T31l_ok C0_ok))))))) at10 (l := 1) rfl (WL10_12_ok (WL10_12b_ok (LoopsOk.none _ _))) (F10_ok G25 G24 G23l G26 G42_4 G42_8 G31l GL10_12 GL10_12b pa t ps pad pp pg ptp xs K) hS ha h
  · exact hC _ _ _ _ _ _ _ hS ha h
end Go.Proofs.Ytnndiicpiolddaa.bak
