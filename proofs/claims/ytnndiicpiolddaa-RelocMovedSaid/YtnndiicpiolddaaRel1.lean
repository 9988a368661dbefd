import Derived.Test.YtnndiicpiolddaaProg
import Derived.Test.YtnndiicpiolddaaAbSee
import Derived.Test.YtnndiicpiolddaaShelfContains
import Derived.Lib.IndexAny
set_option linter.unusedVariables false
namespace Go.Proofs.Ytnndiicpiolddaa.rel
open Go Go.Ab
theorem named : Named Try.prog := by
  have h : Try.prog.funcs.toList.all (fun fn => !(fn.name == "runtime.NumGoroutine")) = true := by kernel_rfl
  intro g fn hf
  have := List.all_eq_true.1 h fn (by rw [Array.getElem?_eq_some_iff] at hf; obtain ⟨h1, rfl⟩ := hf; simp)
  simpa using this
/-- strings.Contains at one byte. -/
def prims : Prims := fun f =>
  match Nat.beq f 127 with
  | true => some fun args _ => (match args with | [.S s, .S [c]] => some (true, .B (s.contains c)) | _ => none)
  | false => none
theorem at127 : Try.prog.funcs[127]? = some (fnOf Try.prog 127) := by kernel_rfl
theorem contains_map : ∀ (l : List UInt8) (b : UInt8), (l.map fun c => (c.toNat : Int)).contains (b.toNat : Int) = l.contains b
  | [], b => rfl
  | a :: l, b => by
    simp only [List.map_cons, List.contains_cons, contains_map l b]
    congr 1
    rw [Bool.eq_iff_iff]
    simp only [beq_iff_eq]
    constructor
    · intro h; exact UInt8.toNat_inj.1 (by omega)
    · intro h; rw [h]
theorem prims_ok : PrimsOk Try.prog prims := by
  intro f g h args m v E w cargs hS ha hg
  unfold prims at h
  split at h
  · rename_i hf
    obtain rfl := Nat.eq_of_beq_eq_true hf
    cases h
    dsimp only at hg
    split at hg
    · rename_i s c
      cases hg
      simp only [VsRel, VRel] at ha
      obtain ⟨c0, r0, e0, ⟨t, rfl, ht, _⟩, c1, r1, rfl, ⟨u, rfl, hu, _⟩, rfl⟩ := ha
      refine ⟨⟨_, at127, by kernel_rfl⟩, ?_⟩
      obtain ⟨b, hb, hbc⟩ : ∃ b : UInt8, u = ⟨#[b]⟩ ∧ (b.toNat : Int) = c := by
        obtain ⟨⟨l⟩⟩ := u
        match l, hu with
        | [b], hu => simp [bytesI] at hu; exact ⟨b, rfl, hu⟩
      subst hb
      have hc : cargs = #[.string t, .string ⟨#[b]⟩] := by apply Array.ext'; simpa using e0
      subst hc
      refine (Try.strings_Contains_one t b w).mono fun e w' he => ?_
      obtain ⟨rfl, rfl⟩ := he
      refine ⟨E, Step.refl hS, ?_⟩
      show VRel E (.B (s.contains c)) _
      simp only [VRel]
      rw [← ht, ← hbc, bytesI, contains_map, Lib.contains_iff_indexByte]
    · cases hg
  · cases h
def C0 : CC := call Try.prog prims 1000
theorem C0_ok : CallsOk Try.prog C0 := call_sound named prims_ok 1000
theorem at25 : Try.prog.funcs[25]? = some (fnOf Try.prog 25) := by kernel_rfl
abbrev Y25 : Type := (Prop) → Prop
set_option maxHeartbeats 4000000 in
set_option maxRecDepth 100000 in
def F25   (k1 : Prop) : Prop :=
  (k1)
theorem F25_ok   (K : V → Mem → Prop) : cbody Try.prog C0 (fun _ => none) 1000 (fnOf Try.prog 25) [] [] K =
    F25   (K (.B true) []) := by kernel_rfl
def G25 : Y25 := F25 
def VT25 (f : Y25) (F : Prop) (args : List V) (m : Mem) (K : V → Mem → Prop) : Prop :=
  (seeNil args F (seeNil m F (f  (K (.B true) []))))
def T25 (f : Y25) (C : CC) : CC := fun g args m K =>
  match Nat.beq g 25 with
  | true => VT25 f (C g args m K) args m K
  | false => C g args m K
set_option maxRecDepth 100000 in
theorem T25_ok {C : CC} (hC : CallsOk Try.prog C) : CallsOk Try.prog (T25 G25 C) := by
  intro g args m K E w cargs hS ha h
  unfold T25 at h
  split at h
  · rename_i hg
    obtain rfl := Nat.eq_of_beq_eq_true hg
    unfold VT25 at h
    replace h := seeNil_use h
    rcases h with h | ⟨rfl, h⟩
    · exact hC _ _ _ _ _ _ _ hS ha h
    replace h := seeNil_use h
    rcases h with h | ⟨rfl, h⟩
    · exact hC _ _ _ _ _ _ _ hS ha h
    exact cbody_use named C0_ok at25 (l := 0) rfl (LoopsOk.none _ _) (F25_ok   K) hS ha h
  · exact hC _ _ _ _ _ _ _ hS ha h
theorem at24 : Try.prog.funcs[24]? = some (fnOf Try.prog 24) := by kernel_rfl
abbrev Y24 : Type := Int → (Prop) → Prop
set_option maxHeartbeats 4000000 in
set_option maxRecDepth 100000 in
def F24  (a : Int) (k1 : Prop) : Prop :=
  (k1)
theorem F24_ok  (a : Int) (K : V → Mem → Prop) : cbody Try.prog C0 (fun _ => none) 1000 (fnOf Try.prog 24) [(.I .i64 a)] [] K =
    F24  a (K (.I .i64 a) []) := by kernel_rfl
def G24 : Y24 := F24 
def VT24 (f : Y24) (F : Prop) (args : List V) (m : Mem) (K : V → Mem → Prop) : Prop :=
  (seeCons args F fun a1 q2 => (seeI .i64 a1 F fun a => (seeNil q2 F (seeNil m F (f a (K (.I .i64 a) []))))))
def T24 (f : Y24) (C : CC) : CC := fun g args m K =>
  match Nat.beq g 24 with
  | true => VT24 f (C g args m K) args m K
  | false => C g args m K
set_option maxRecDepth 100000 in
theorem T24_ok {C : CC} (hC : CallsOk Try.prog C) : CallsOk Try.prog (T24 G24 C) := by
  intro g args m K E w cargs hS ha h
  unfold T24 at h
  split at h
  · rename_i hg
    obtain rfl := Nat.eq_of_beq_eq_true hg
    unfold VT24 at h
    replace h := seeCons_use h
    rcases h with h | ⟨a1, q2, rfl, h⟩
    · exact hC _ _ _ _ _ _ _ hS ha h
    replace h := seeI_use h
    rcases h with h | ⟨a, rfl, h⟩
    · exact hC _ _ _ _ _ _ _ hS ha h
    replace h := seeNil_use h
    rcases h with h | ⟨rfl, h⟩
    · exact hC _ _ _ _ _ _ _ hS ha h
    replace h := seeNil_use h
    rcases h with h | ⟨rfl, h⟩
    · exact hC _ _ _ _ _ _ _ hS ha h
    exact cbody_use named C0_ok at24 (l := 0) rfl (LoopsOk.none _ _) (F24_ok  a K) hS ha h
  · exact hC _ _ _ _ _ _ _ hS ha h
theorem at54 : Try.prog.funcs[54]? = some (fnOf Try.prog 54) := by kernel_rfl
abbrev Y54 : Type := Int → (List Int → Prop) → (List Int → Prop) → (List Int → Prop) → (List Int → Prop) → (List Int → Prop) → (List Int → Prop) → (List Int → Prop) → Prop
set_option maxHeartbeats 4000000 in
set_option maxRecDepth 100000 in
def F54  (t : Int) (k1 : List Int → Prop) (k2 : List Int → Prop) (k3 : List Int → Prop) (k4 : List Int → Prop) (k5 : List Int → Prop) (k6 : List Int → Prop) (k7 : List Int → Prop) : Prop :=
  (bif (decide (t < (0 : Int))) then (k1 ([] : List Int)) else (bif (decide (t ≥ (64 : Int))) then (k1 ([] : List Int)) else (bif (t == (63 : Int)) then (k1 ([] : List Int)) else (bif (t == (62 : Int)) then (k1 ([] : List Int)) else (bif (t == (61 : Int)) then (k1 ([] : List Int)) else (bif (t == (60 : Int)) then (k1 ([] : List Int)) else (bif (t == (59 : Int)) then (k1 ([] : List Int)) else (bif (t == (58 : Int)) then (k1 ([] : List Int)) else (bif (t == (57 : Int)) then (k1 ([] : List Int)) else (bif (t == (56 : Int)) then (k1 ([] : List Int)) else (bif (t == (55 : Int)) then (k1 ([] : List Int)) else (bif (t == (54 : Int)) then (k1 ([] : List Int)) else (bif (t == (53 : Int)) then (k1 ([] : List Int)) else (bif (t == (52 : Int)) then (k1 ([] : List Int)) else (bif (t == (51 : Int)) then (k1 ([] : List Int)) else (bif (t == (50 : Int)) then (k1 ([] : List Int)) else (bif (t == (49 : Int)) then (k1 ([] : List Int)) else (bif (t == (48 : Int)) then (k1 ([] : List Int)) else (bif (t == (47 : Int)) then (k1 ([] : List Int)) else (bif (t == (46 : Int)) then (k1 ([] : List Int)) else (bif (t == (45 : Int)) then (k1 ([] : List Int)) else (bif (t == (44 : Int)) then (k1 ([] : List Int)) else (bif (t == (43 : Int)) then (k1 ([] : List Int)) else (bif (t == (42 : Int)) then (k1 ([] : List Int)) else (bif (t == (41 : Int)) then (k1 ([] : List Int)) else (bif (t == (40 : Int)) then (k1 ([] : List Int)) else (bif (t == (39 : Int)) then (k1 ([] : List Int)) else (bif (t == (38 : Int)) then (k1 ([] : List Int)) else (bif (t == (37 : Int)) then (k1 ([(73 : Int), (82 : Int), (69 : Int), (76 : Int), (65 : Int), (84 : Int), (73 : Int), (86 : Int), (69 : Int)] : List Int)) else (bif (t == (36 : Int)) then (k1 ([] : List Int)) else (bif (t == (35 : Int)) then (k1 ([] : List Int)) else (bif (t == (34 : Int)) then (k1 ([] : List Int)) else (bif (t == (33 : Int)) then (k1 ([] : List Int)) else (bif (t == (32 : Int)) then (k1 ([] : List Int)) else (bif (t == (31 : Int)) then (k1 ([] : List Int)) else (bif (t == (30 : Int)) then (k1 ([] : List Int)) else (bif (t == (29 : Int)) then (k1 ([] : List Int)) else (bif (t == (28 : Int)) then (k1 ([] : List Int)) else (bif (t == (27 : Int)) then (k1 ([] : List Int)) else (bif (t == (26 : Int)) then (k1 ([] : List Int)) else (bif (t == (25 : Int)) then (k1 ([] : List Int)) else (bif (t == (24 : Int)) then (k1 ([] : List Int)) else (bif (t == (23 : Int)) then (k2 ([(84 : Int), (80 : Int), (79 : Int), (70 : Int), (70 : Int), (51 : Int), (50 : Int)] : List Int)) else (bif (t == (22 : Int)) then (k3 ([(71 : Int), (79 : Int), (84 : Int), (84 : Int), (80 : Int), (79 : Int), (70 : Int), (70 : Int)] : List Int)) else (bif (t == (21 : Int)) then (k2 ([(68 : Int), (84 : Int), (80 : Int), (79 : Int), (70 : Int), (70 : Int), (51 : Int), (50 : Int)] : List Int)) else (bif (t == (20 : Int)) then (k1 ([(84 : Int), (76 : Int), (83 : Int), (76 : Int), (68 : Int)] : List Int)) else (bif (t == (19 : Int)) then (k1 ([(84 : Int), (76 : Int), (83 : Int), (71 : Int), (68 : Int)] : List Int)) else (bif (t == (18 : Int)) then (k1 ([] : List Int)) else (bif (t == (17 : Int)) then (k1 ([] : List Int)) else (bif (t == (16 : Int)) then (k1 ([] : List Int)) else (bif (t == (15 : Int)) then (k1 ([] : List Int)) else (bif (t == (14 : Int)) then (k1 ([] : List Int)) else (bif (t == (13 : Int)) then (k1 ([] : List Int)) else (bif (t == (12 : Int)) then (k1 ([] : List Int)) else (bif (t == (11 : Int)) then (k4 ([(51 : Int), (50 : Int), (83 : Int)] : List Int)) else (bif (t == (10 : Int)) then (k5 ([(51 : Int), (50 : Int)] : List Int)) else (bif (t == (9 : Int)) then (k3 ([(71 : Int), (79 : Int), (84 : Int), (80 : Int), (67 : Int), (82 : Int), (69 : Int), (76 : Int)] : List Int)) else (bif (t == (8 : Int)) then (k1 ([(82 : Int), (69 : Int), (76 : Int), (65 : Int), (84 : Int), (73 : Int), (86 : Int), (69 : Int)] : List Int)) else (bif (t == (7 : Int)) then (k1 ([] : List Int)) else (bif (t == (6 : Int)) then (k1 ([(71 : Int), (76 : Int), (79 : Int), (66 : Int), (95 : Int), (68 : Int), (65 : Int), (84 : Int)] : List Int)) else (bif (t == (5 : Int)) then (k1 ([] : List Int)) else (bif (t == (4 : Int)) then (k6 ([(80 : Int), (76 : Int), (84 : Int), (51 : Int), (50 : Int)] : List Int)) else (bif (t == (3 : Int)) then (k1 ([] : List Int)) else (bif (t == (2 : Int)) then (k6 ([(80 : Int), (67 : Int), (51 : Int), (50 : Int)] : List Int)) else (bif (t == (1 : Int)) then (k7 ([(54 : Int), (52 : Int)] : List Int)) else (bif (t == (0 : Int)) then (k1 ([(78 : Int), (79 : Int), (78 : Int), (69 : Int)] : List Int)) else False))))))))))))))))))))))))))))))))))))))))))))))))))))))))))))))))))
theorem F54_ok  (t : Int) (K : V → Mem → Prop) : cbody Try.prog C0 (fun _ => none) 1000 (fnOf Try.prog 54) [(.I .i64 t)] [] K =
    F54  t (fun (u0 : List Int) => K (.tup [(.agg [(.S u0), (.I .i64 (0 : Int)), .nilf, .nilf]), (.B false)]) []) (fun (u0 : List Int) => K (.tup [(.agg [(.S u0), (.I .i64 (4 : Int)), (.fn (.func 91) [] []), (.fn (.func 88) [] [])]), (.B true)]) []) (fun (u0 : List Int) => K (.tup [(.agg [(.S u0), (.I .i64 (4 : Int)), (.fn (.func 90) [] []), (.fn (.func 88) [] [])]), (.B true)]) []) (fun (u0 : List Int) => K (.tup [(.agg [(.S u0), (.I .i64 (4 : Int)), (.fn (.func 85) [] []), (.fn (.func 88) [] [])]), (.B true)]) []) (fun (u0 : List Int) => K (.tup [(.agg [(.S u0), (.I .i64 (4 : Int)), (.fn (.func 85) [] []), (.fn (.func 89) [] [])]), (.B true)]) []) (fun (u0 : List Int) => K (.tup [(.agg [(.S u0), (.I .i64 (4 : Int)), (.fn (.func 87) [] []), (.fn (.func 88) [] [])]), (.B true)]) []) (fun (u0 : List Int) => K (.tup [(.agg [(.S u0), (.I .i64 (8 : Int)), (.fn (.func 85) [] []), (.fn (.func 86) [] [])]), (.B true)]) []) := by kernel_rfl
def G54 : Y54 := F54 
def VT54 (f : Y54) (F : Prop) (args : List V) (m : Mem) (K : V → Mem → Prop) : Prop :=
  (seeCons args F fun a1 q2 => (seeI .i64 a1 F fun t => (seeNil q2 F (seeNil m F (f t (fun (u0 : List Int) => K (.tup [(.agg [(.S u0), (.I .i64 (0 : Int)), .nilf, .nilf]), (.B false)]) []) (fun (u0 : List Int) => K (.tup [(.agg [(.S u0), (.I .i64 (4 : Int)), (.fn (.func 91) [] []), (.fn (.func 88) [] [])]), (.B true)]) []) (fun (u0 : List Int) => K (.tup [(.agg [(.S u0), (.I .i64 (4 : Int)), (.fn (.func 90) [] []), (.fn (.func 88) [] [])]), (.B true)]) []) (fun (u0 : List Int) => K (.tup [(.agg [(.S u0), (.I .i64 (4 : Int)), (.fn (.func 85) [] []), (.fn (.func 88) [] [])]), (.B true)]) []) (fun (u0 : List Int) => K (.tup [(.agg [(.S u0), (.I .i64 (4 : Int)), (.fn (.func 85) [] []), (.fn (.func 89) [] [])]), (.B true)]) []) (fun (u0 : List Int) => K (.tup [(.agg [(.S u0), (.I .i64 (4 : Int)), (.fn (.func 87) [] []), (.fn (.func 88) [] [])]), (.B true)]) []) (fun (u0 : List Int) => K (.tup [(.agg [(.S u0), (.I .i64 (8 : Int)), (.fn (.func 85) [] []), (.fn (.func 86) [] [])]), (.B true)]) []))))))
def T54 (f : Y54) (C : CC) : CC := fun g args m K =>
  match Nat.beq g 54 with
  | true => VT54 f (C g args m K) args m K
  | false => C g args m K
set_option maxRecDepth 100000 in
theorem T54_ok {C : CC} (hC : CallsOk Try.prog C) : CallsOk Try.prog (T54 G54 C) := by
  intro g args m K E w cargs hS ha h
  unfold T54 at h
  split at h
  · rename_i hg
    obtain rfl := Nat.eq_of_beq_eq_true hg
    unfold VT54 at h
    replace h := seeCons_use h
    rcases h with h | ⟨a1, q2, rfl, h⟩
    · exact hC _ _ _ _ _ _ _ hS ha h
    replace h := seeI_use h
    rcases h with h | ⟨t, rfl, h⟩
    · exact hC _ _ _ _ _ _ _ hS ha h
    replace h := seeNil_use h
    rcases h with h | ⟨rfl, h⟩
    · exact hC _ _ _ _ _ _ _ hS ha h
    replace h := seeNil_use h
    rcases h with h | ⟨rfl, h⟩
    · exact hC _ _ _ _ _ _ _ hS ha h
    exact cbody_use named C0_ok at54 (l := 0) rfl (LoopsOk.none _ _) (F54_ok  t K) hS ha h
  · exact hC _ _ _ _ _ _ _ hS ha h
theorem at23 : Try.prog.funcs[23]? = some (fnOf Try.prog 23) := by kernel_rfl
abbrev Y23 : Type := Int → Int → Int → Int → Int → Int → (Prop) → (Prop) → (Int → Prop) → Prop
set_option maxHeartbeats 4000000 in
set_option maxRecDepth 100000 in
def F23 (f54 : Y54) (t : Int) (ps : Int) (pad : Int) (pp : Int) (pg : Int) (ptp : Int) (k1 : Prop) (k2 : Prop) (k3 : Int → Prop) : Prop :=
  (f54 t (fun (xs1 : List Int) => (k1)) (fun (xs2 : List Int) => (bif (decide (ps < (-1152921504606846976 : Int))) then (k2) else (bif (decide (ps > (1152921504606846976 : Int))) then (k2) else (bif (decide (pad < (-1152921504606846976 : Int))) then (k2) else (bif (decide (pad > (1152921504606846976 : Int))) then (k2) else (bif (decide (pp < (-1152921504606846976 : Int))) then (k2) else (bif (decide (pp > (1152921504606846976 : Int))) then (k2) else (bif (decide (pg < (-1152921504606846976 : Int))) then (k2) else (bif (decide (pg > (1152921504606846976 : Int))) then (k2) else (bif (decide (ptp < (-1152921504606846976 : Int))) then (k2) else (bif (decide (ptp > (1152921504606846976 : Int))) then (k2) else (k3 (IntKind.wrap .i64 ((IntKind.wrap .i64 (ps + pad)) - ptp)))))))))))))) (fun (xs3 : List Int) => (bif (decide (ps < (-1152921504606846976 : Int))) then (k2) else (bif (decide (ps > (1152921504606846976 : Int))) then (k2) else (bif (decide (pad < (-1152921504606846976 : Int))) then (k2) else (bif (decide (pad > (1152921504606846976 : Int))) then (k2) else (bif (decide (pp < (-1152921504606846976 : Int))) then (k2) else (bif (decide (pp > (1152921504606846976 : Int))) then (k2) else (bif (decide (pg < (-1152921504606846976 : Int))) then (k2) else (bif (decide (pg > (1152921504606846976 : Int))) then (k2) else (bif (decide (ptp < (-1152921504606846976 : Int))) then (k2) else (bif (decide (ptp > (1152921504606846976 : Int))) then (k2) else (k3 (IntKind.wrap .i64 ((IntKind.wrap .i64 (pg + pad)) - pp)))))))))))))) (fun (xs4 : List Int) => (bif (decide (ps < (-1152921504606846976 : Int))) then (k2) else (bif (decide (ps > (1152921504606846976 : Int))) then (k2) else (bif (decide (pad < (-1152921504606846976 : Int))) then (k2) else (bif (decide (pad > (1152921504606846976 : Int))) then (k2) else (bif (decide (pp < (-1152921504606846976 : Int))) then (k2) else (bif (decide (pp > (1152921504606846976 : Int))) then (k2) else (bif (decide (pg < (-1152921504606846976 : Int))) then (k2) else (bif (decide (pg > (1152921504606846976 : Int))) then (k2) else (bif (decide (ptp < (-1152921504606846976 : Int))) then (k2) else (bif (decide (ptp > (1152921504606846976 : Int))) then (k2) else (k3 (IntKind.wrap .i64 (ps + pad)))))))))))))) (fun (xs5 : List Int) => (bif (decide (ps < (-1152921504606846976 : Int))) then (k2) else (bif (decide (ps > (1152921504606846976 : Int))) then (k2) else (bif (decide (pad < (-1152921504606846976 : Int))) then (k2) else (bif (decide (pad > (1152921504606846976 : Int))) then (k2) else (bif (decide (pp < (-1152921504606846976 : Int))) then (k2) else (bif (decide (pp > (1152921504606846976 : Int))) then (k2) else (bif (decide (pg < (-1152921504606846976 : Int))) then (k2) else (bif (decide (pg > (1152921504606846976 : Int))) then (k2) else (bif (decide (ptp < (-1152921504606846976 : Int))) then (k2) else (bif (decide (ptp > (1152921504606846976 : Int))) then (k2) else (k3 (IntKind.wrap .i64 (ps + pad)))))))))))))) (fun (xs6 : List Int) => (bif (decide (ps < (-1152921504606846976 : Int))) then (k2) else (bif (decide (ps > (1152921504606846976 : Int))) then (k2) else (bif (decide (pad < (-1152921504606846976 : Int))) then (k2) else (bif (decide (pad > (1152921504606846976 : Int))) then (k2) else (bif (decide (pp < (-1152921504606846976 : Int))) then (k2) else (bif (decide (pp > (1152921504606846976 : Int))) then (k2) else (bif (decide (pg < (-1152921504606846976 : Int))) then (k2) else (bif (decide (pg > (1152921504606846976 : Int))) then (k2) else (bif (decide (ptp < (-1152921504606846976 : Int))) then (k2) else (bif (decide (ptp > (1152921504606846976 : Int))) then (k2) else (k3 (IntKind.wrap .i64 ((IntKind.wrap .i64 (ps + pad)) - pp)))))))))))))) (fun (xs7 : List Int) => (bif (decide (ps < (-1152921504606846976 : Int))) then (k2) else (bif (decide (ps > (1152921504606846976 : Int))) then (k2) else (bif (decide (pad < (-1152921504606846976 : Int))) then (k2) else (bif (decide (pad > (1152921504606846976 : Int))) then (k2) else (bif (decide (pp < (-1152921504606846976 : Int))) then (k2) else (bif (decide (pp > (1152921504606846976 : Int))) then (k2) else (bif (decide (pg < (-1152921504606846976 : Int))) then (k2) else (bif (decide (pg > (1152921504606846976 : Int))) then (k2) else (bif (decide (ptp < (-1152921504606846976 : Int))) then (k2) else (bif (decide (ptp > (1152921504606846976 : Int))) then (k2) else (k3 (IntKind.wrap .i64 (ps + pad)))))))))))))))
theorem F23_ok (f54 : Y54) (t : Int) (ps : Int) (pad : Int) (pp : Int) (pg : Int) (ptp : Int) (K : V → Mem → Prop) : cbody Try.prog (T54 f54 C0) (fun _ => none) 1000 (fnOf Try.prog 23) [(.I .i64 t), (.agg [(.I .i64 ps), (.I .i64 pad), (.I .i64 pp), (.I .i64 pg), (.I .i64 ptp)])] [] K =
    F23 f54 t ps pad pp pg ptp (K (.tup [(.I .i64 (0 : Int)), (.I .i64 (200 : Int))]) []) (K (.tup [(.I .i64 (0 : Int)), (.I .i64 (11 : Int))]) []) (fun (u0 : Int) => K (.tup [(.I .i64 u0), (.I .i64 (0 : Int))]) []) := by kernel_rfl
def G23 : Y23 := F23 G54
def VT23 (f : Y23) (F : Prop) (args : List V) (m : Mem) (K : V → Mem → Prop) : Prop :=
  (seeCons args F fun a1 q2 => (seeI .i64 a1 F fun t => (seeCons q2 F fun a3 q4 => (seeAgg a3 F fun vs5 => (seeCons vs5 F fun a6 q7 => (seeI .i64 a6 F fun ps => (seeCons q7 F fun a8 q9 => (seeI .i64 a8 F fun pad => (seeCons q9 F fun a10 q11 => (seeI .i64 a10 F fun pp => (seeCons q11 F fun a12 q13 => (seeI .i64 a12 F fun pg => (seeCons q13 F fun a14 q15 => (seeI .i64 a14 F fun ptp => (seeNil q15 F (seeNil q4 F (seeNil m F (f t ps pad pp pg ptp (K (.tup [(.I .i64 (0 : Int)), (.I .i64 (200 : Int))]) []) (K (.tup [(.I .i64 (0 : Int)), (.I .i64 (11 : Int))]) []) (fun (u0 : Int) => K (.tup [(.I .i64 u0), (.I .i64 (0 : Int))]) [])))))))))))))))))))
def T23 (f : Y23) (C : CC) : CC := fun g args m K =>
  match Nat.beq g 23 with
  | true => VT23 f (C g args m K) args m K
  | false => C g args m K
set_option maxRecDepth 100000 in
theorem T23_ok {C : CC} (hC : CallsOk Try.prog C) : CallsOk Try.prog (T23 G23 C) := by
  intro g args m K E w cargs hS ha h
  unfold T23 at h
  split at h
  · rename_i hg
    obtain rfl := Nat.eq_of_beq_eq_true hg
    unfold VT23 at h
    replace h := seeCons_use h
    rcases h with h | ⟨a1, q2, rfl, h⟩
    · exact hC _ _ _ _ _ _ _ hS ha h
    replace h := seeI_use h
    rcases h with h | ⟨t, rfl, h⟩
    · exact hC _ _ _ _ _ _ _ hS ha h
    replace h := seeCons_use h
    rcases h with h | ⟨a3, q4, rfl, h⟩
    · exact hC _ _ _ _ _ _ _ hS ha h
    replace h := seeAgg_use h
    rcases h with h | ⟨vs5, rfl, h⟩
    · exact hC _ _ _ _ _ _ _ hS ha h
    replace h := seeCons_use h
    rcases h with h | ⟨a6, q7, rfl, h⟩
    · exact hC _ _ _ _ _ _ _ hS ha h
    replace h := seeI_use h
    rcases h with h | ⟨ps, rfl, h⟩
    · exact hC _ _ _ _ _ _ _ hS ha h
    replace h := seeCons_use h
    rcases h with h | ⟨a8, q9, rfl, h⟩
    · exact hC _ _ _ _ _ _ _ hS ha h
    replace h := seeI_use h
    rcases h with h | ⟨pad, rfl, h⟩
    · exact hC _ _ _ _ _ _ _ hS ha h
    replace h := seeCons_use h
    rcases h with h | ⟨a10, q11, rfl, h⟩
    · exact hC _ _ _ _ _ _ _ hS ha h
    replace h := seeI_use h
    rcases h with h | ⟨pp, rfl, h⟩
    · exact hC _ _ _ _ _ _ _ hS ha h
    replace h := seeCons_use h
    rcases h with h | ⟨a12, q13, rfl, h⟩
    · exact hC _ _ _ _ _ _ _ hS ha h
    replace h := seeI_use h
    rcases h with h | ⟨pg, rfl, h⟩
    · exact hC _ _ _ _ _ _ _ hS ha h
    replace h := seeCons_use h
    rcases h with h | ⟨a14, q15, rfl, h⟩
    · exact hC _ _ _ _ _ _ _ hS ha h
    replace h := seeI_use h
    rcases h with h | ⟨ptp, rfl, h⟩
    · exact hC _ _ _ _ _ _ _ hS ha h
    replace h := seeNil_use h
    rcases h with h | ⟨rfl, h⟩
    · exact hC _ _ _ _ _ _ _ hS ha h
    replace h := seeNil_use h
    rcases h with h | ⟨rfl, h⟩
    · exact hC _ _ _ _ _ _ _ hS ha h
    replace h := seeNil_use h
    rcases h with h | ⟨rfl, h⟩
    · exact hC _ _ _ _ _ _ _ hS ha h
    exact cbody_use named (T54_ok C0_ok) at23 (l := 0) rfl (LoopsOk.none _ _) (F23_ok G54 t ps pad pp pg ptp K) hS ha h
  · exact hC _ _ _ _ _ _ _ hS ha h
theorem at7 : Try.prog.funcs[7]? = some (fnOf Try.prog 7) := by kernel_rfl
abbrev Y7 : Type := Int → Int → Int → Int → Int → Int → Int → (Prop) → (Prop) → Prop
set_option maxHeartbeats 4000000 in
set_option maxRecDepth 100000 in
def F7 (f25 : Y25) (f24 : Y24) (f23 : Y23) (t : Int) (ps : Int) (pad : Int) (pp : Int) (pg : Int) (ptp : Int) (dy : Int) (k1 : Prop) (k2 : Prop) : Prop :=
  (f23 t ps pad pp pg ptp ((f23 t (IntKind.wrap .i64 (ps + dy)) pad (IntKind.wrap .i64 (pp + dy)) (IntKind.wrap .i64 (pg + dy)) ptp ((f24 (200 : Int) ((f24 (200 : Int) ((f25 ((k1)))))))) ((f24 (200 : Int) ((f24 (200 : Int) ((f25 ((k1)))))))) (fun (n1 : Int) => (f24 (200 : Int) ((f24 (200 : Int) ((f25 ((k1)))))))))) ((f23 t (IntKind.wrap .i64 (ps + dy)) pad (IntKind.wrap .i64 (pp + dy)) (IntKind.wrap .i64 (pg + dy)) ptp ((f24 (11 : Int) ((f24 (11 : Int) ((f25 ((k1)))))))) ((f24 (11 : Int) ((f24 (11 : Int) ((f25 ((k1)))))))) (fun (n2 : Int) => (f24 (11 : Int) ((f24 (11 : Int) ((f25 ((k1)))))))))) (fun (n3 : Int) => (f23 t (IntKind.wrap .i64 (ps + dy)) pad (IntKind.wrap .i64 (pp + dy)) (IntKind.wrap .i64 (pg + dy)) ptp ((f24 (0 : Int) ((f24 (200 : Int) ((f24 (0 : Int) ((f25 ((k1)))))))))) ((f24 (0 : Int) ((f24 (11 : Int) ((f24 (0 : Int) ((f25 ((k1)))))))))) (fun (n4 : Int) => (f24 (0 : Int) ((f24 (0 : Int) ((bif (decide (dy < (-1152921504606846976 : Int))) then (f24 (0 : Int) ((f25 ((k1))))) else (bif (decide (dy > (1152921504606846976 : Int))) then (f24 (0 : Int) ((f25 ((k1))))) else (bif (t == (2 : Int)) then (bif (t == (2 : Int)) then (bif (n3 == n4) then (f25 ((k1))) else (k2)) else (bif (n4 == (IntKind.wrap .i64 (n3 + dy))) then (f25 ((k1))) else (k2))) else (bif (t == (4 : Int)) then (bif (t == (4 : Int)) then (bif (n3 == n4) then (f25 ((k1))) else (k2)) else (bif (n4 == (IntKind.wrap .i64 (n3 + dy))) then (f25 ((k1))) else (k2))) else (bif (t == (9 : Int)) then (bif (t == (9 : Int)) then (bif (n3 == n4) then (f25 ((k1))) else (k2)) else (bif (n4 == (IntKind.wrap .i64 (n3 + dy))) then (f25 ((k1))) else (k2))) else (bif (t == (22 : Int)) then (bif (n3 == n4) then (f25 ((k1))) else (k2)) else (bif (n4 == (IntKind.wrap .i64 (n3 + dy))) then (f25 ((k1))) else (k2))))))))))))))))
theorem F7_ok (f25 : Y25) (f24 : Y24) (f23 : Y23) (t : Int) (ps : Int) (pad : Int) (pp : Int) (pg : Int) (ptp : Int) (dy : Int) (K : V → Mem → Prop) : cbody Try.prog (T25 f25 (T24 f24 (T23 f23 C0))) (fun _ => none) 1000 (fnOf Try.prog 7) [(.I .i64 t), (.agg [(.I .i64 ps), (.I .i64 pad), (.I .i64 pp), (.I .i64 pg), (.I .i64 ptp)]), (.I .i64 dy)] [] K =
    F7 f25 f24 f23 t ps pad pp pg ptp dy (K (.B true) []) (K (.B false) []) := by kernel_rfl
def G7 : Y7 := F7 G25 G24 G23
def VT7 (f : Y7) (F : Prop) (args : List V) (m : Mem) (K : V → Mem → Prop) : Prop :=
  (seeCons args F fun a1 q2 => (seeI .i64 a1 F fun t => (seeCons q2 F fun a3 q4 => (seeAgg a3 F fun vs5 => (seeCons vs5 F fun a6 q7 => (seeI .i64 a6 F fun ps => (seeCons q7 F fun a8 q9 => (seeI .i64 a8 F fun pad => (seeCons q9 F fun a10 q11 => (seeI .i64 a10 F fun pp => (seeCons q11 F fun a12 q13 => (seeI .i64 a12 F fun pg => (seeCons q13 F fun a14 q15 => (seeI .i64 a14 F fun ptp => (seeNil q15 F (seeCons q4 F fun a16 q17 => (seeI .i64 a16 F fun dy => (seeNil q17 F (seeNil m F (f t ps pad pp pg ptp dy (K (.B true) []) (K (.B false) [])))))))))))))))))))))
def T7 (f : Y7) (C : CC) : CC := fun g args m K =>
  match Nat.beq g 7 with
  | true => VT7 f (C g args m K) args m K
  | false => C g args m K
set_option maxRecDepth 100000 in
theorem T7_ok {C : CC} (hC : CallsOk Try.prog C) : CallsOk Try.prog (T7 G7 C) := by
  intro g args m K E w cargs hS ha h
  unfold T7 at h
  split at h
  · rename_i hg
    obtain rfl := Nat.eq_of_beq_eq_true hg
    unfold VT7 at h
    replace h := seeCons_use h
    rcases h with h | ⟨a1, q2, rfl, h⟩
    · exact hC _ _ _ _ _ _ _ hS ha h
    replace h := seeI_use h
    rcases h with h | ⟨t, rfl, h⟩
    · exact hC _ _ _ _ _ _ _ hS ha h
    replace h := seeCons_use h
    rcases h with h | ⟨a3, q4, rfl, h⟩
    · exact hC _ _ _ _ _ _ _ hS ha h
    replace h := seeAgg_use h
    rcases h with h | ⟨vs5, rfl, h⟩
    · exact hC _ _ _ _ _ _ _ hS ha h
    replace h := seeCons_use h
    rcases h with h | ⟨a6, q7, rfl, h⟩
    · exact hC _ _ _ _ _ _ _ hS ha h
    replace h := seeI_use h
    rcases h with h | ⟨ps, rfl, h⟩
    · exact hC _ _ _ _ _ _ _ hS ha h
    replace h := seeCons_use h
    rcases h with h | ⟨a8, q9, rfl, h⟩
    · exact hC _ _ _ _ _ _ _ hS ha h
    replace h := seeI_use h
    rcases h with h | ⟨pad, rfl, h⟩
    · exact hC _ _ _ _ _ _ _ hS ha h
    replace h := seeCons_use h
    rcases h with h | ⟨a10, q11, rfl, h⟩
    · exact hC _ _ _ _ _ _ _ hS ha h
    replace h := seeI_use h
    rcases h with h | ⟨pp, rfl, h⟩
    · exact hC _ _ _ _ _ _ _ hS ha h
    replace h := seeCons_use h
    rcases h with h | ⟨a12, q13, rfl, h⟩
    · exact hC _ _ _ _ _ _ _ hS ha h
    replace h := seeI_use h
    rcases h with h | ⟨pg, rfl, h⟩
    · exact hC _ _ _ _ _ _ _ hS ha h
    replace h := seeCons_use h
    rcases h with h | ⟨a14, q15, rfl, h⟩
    · exact hC _ _ _ _ _ _ _ hS ha h
    replace h := seeI_use h
    rcases h with h | ⟨ptp, rfl, h⟩
    · exact hC _ _ _ _ _ _ _ hS ha h
    replace h := seeNil_use h
    rcases h with h | ⟨rfl, h⟩
    · exact hC _ _ _ _ _ _ _ hS ha h
    replace h := seeCons_use h
    rcases h with h | ⟨a16, q17, rfl, h⟩
    · exact hC _ _ _ _ _ _ _ hS ha h
    replace h := seeI_use h
    rcases h with h | ⟨dy, rfl, h⟩
    · exact hC _ _ _ _ _ _ _ hS ha h
    replace h := seeNil_use h
    rcases h with h | ⟨rfl, h⟩
    · exact hC _ _ _ _ _ _ _ hS ha h
    replace h := seeNil_use h
    rcases h with h | ⟨rfl, h⟩
    · exact hC _ _ _ _ _ _ _ hS ha h
    exact cbody_use named (T25_ok (T24_ok (T23_ok C0_ok))) at7 (l := 0) rfl (LoopsOk.none _ _) (F7_ok G25 G24 G23 t ps pad pp pg ptp dy K) hS ha h
  · exact hC _ _ _ _ _ _ _ hS ha h
end Go.Proofs.Ytnndiicpiolddaa.rel
