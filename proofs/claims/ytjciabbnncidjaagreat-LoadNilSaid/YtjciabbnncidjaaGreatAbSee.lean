/- Looking at values, lists, blocks, one thing at a time. -/
import Derived.Test.YtjciabbnncidjaaGreatAbBody
set_option linter.unusedVariables false
namespace Go.Ab
open Go
def seeV (lit v : V) (F f : Prop) : Prop := match V.same lit v with | true => f | false => F
theorem seeV_use [Pins] {lit v : V} {F f : Prop} (h : seeV lit v F f) : F ∨ (v = lit ∧ f) := by
  unfold seeV at h
  split at h
  · rename_i hs; exact .inr ⟨(V.same_eq hs).symm, h⟩
  · exact .inl h
def kindN : IntKind → Nat
  | .i8 => 0 | .i16 => 1 | .i32 => 2 | .i64 => 3 | .u8 => 4 | .u16 => 5 | .u32 => 6 | .u64 => 7
theorem kindN_inj [Pins] {a b : IntKind} (h : Nat.beq (kindN a) (kindN b) = true) : a = b := by cases a <;> cases b <;> first | rfl | cases h
def seeI (k : IntKind) (v : V) (F : Prop) (f : Int → Prop) : Prop := match v with | .I k' n => (match Nat.beq (kindN k') (kindN k) with | true => f n | false => F) | _ => F
theorem seeI_use [Pins] {k : IntKind} {v : V} {F : Prop} {f : Int → Prop} (h : seeI k v F f) : F ∨ ∃ n, v = .I k n ∧ f n := by
  unfold seeI at h
  split at h
  · split at h
    · rename_i hk; exact .inr ⟨_, by rw [kindN_inj hk], h⟩
    · exact .inl h
  · exact .inl h
def seeB (v : V) (F : Prop) (f : Bool → Prop) : Prop := match v with | .B b => f b | _ => F
theorem seeB_use [Pins] {v : V} {F : Prop} {f : Bool → Prop} (h : seeB v F f) : F ∨ ∃ n, v = .B n ∧ f n := by
  unfold seeB at h
  split at h
  · exact .inr ⟨_, rfl, h⟩
  · exact .inl h
def seeS (v : V) (F : Prop) (f : List Int → Prop) : Prop := match v with | .S b => f b | _ => F
theorem seeS_use [Pins] {v : V} {F : Prop} {f : List Int → Prop} (h : seeS v F f) : F ∨ ∃ n, v = .S n ∧ f n := by
  unfold seeS at h
  split at h
  · exact .inr ⟨_, rfl, h⟩
  · exact .inl h
def seeN (lit n : Nat) (F f : Prop) : Prop := match Nat.beq n lit with | true => f | false => F
theorem seeN_use [Pins] {lit n : Nat} {F f : Prop} (h : seeN lit n F f) : F ∨ (n = lit ∧ f) := by
  unfold seeN at h
  split at h
  · rename_i hs; exact .inr ⟨Nat.eq_of_beq_eq_true hs, h⟩
  · exact .inl h
def seeZ (lit n : Int) (F f : Prop) : Prop := match n == lit with | true => f | false => F
theorem seeZ_use [Pins] {lit n : Int} {F f : Prop} (h : seeZ lit n F f) : F ∨ (n = lit ∧ f) := by
  unfold seeZ at h
  split at h
  · rename_i hs; exact .inr ⟨by simpa using hs, h⟩
  · exact .inl h
def seeT (lit n : Bool) (F f : Prop) : Prop := match n == lit with | true => f | false => F
theorem seeT_use [Pins] {lit n : Bool} {F f : Prop} (h : seeT lit n F f) : F ∨ (n = lit ∧ f) := by
  unfold seeT at h
  split at h
  · rename_i hs; exact .inr ⟨by simpa using hs, h⟩
  · exact .inl h
def seeX (lit n : List Int) (F f : Prop) : Prop := match n == lit with | true => f | false => F
theorem seeX_use [Pins] {lit n : List Int} {F f : Prop} (h : seeX lit n F f) : F ∨ (n = lit ∧ f) := by
  unfold seeX at h
  split at h
  · rename_i hs; exact .inr ⟨by simpa using hs, h⟩
  · exact .inl h
def seeO (o : Option Nat) (F : Prop) (f : Nat → Prop) : Prop := match o with | some n => f n | none => F
theorem seeO_use [Pins] {o : Option Nat} {F : Prop} {f : Nat → Prop} (h : seeO o F f) : F ∨ ∃ n, o = some n ∧ f n := by
  unfold seeO at h
  split at h
  · exact .inr ⟨_, rfl, h⟩
  · exact .inl h
def seeNo (o : Option Nat) (F f : Prop) : Prop := match o with | some n => F | none => f
theorem seeNo_use [Pins] {o : Option Nat} {F f : Prop} (h : seeNo o F f) : F ∨ (o = none ∧ f) := by
  unfold seeNo at h
  split at h
  · exact .inl h
  · exact .inr ⟨rfl, h⟩
def seeSl (k : Nat) (v : V) (F : Prop) (f : Nat → Option Nat → Option Nat → Prop) : Prop := match v with | .sl k' r l c => (match Nat.beq k' k with | true => f r l c | false => F) | _ => F
theorem seeSl_use [Pins] {k : Nat} {v : V} {F : Prop} {f : Nat → Option Nat → Option Nat → Prop} (h : seeSl k v F f) : F ∨ ∃ r l c, v = .sl k r l c ∧ f r l c := by
  unfold seeSl at h
  split at h
  · split at h
    · rename_i hk; exact .inr ⟨_, _, _, by rw [Nat.eq_of_beq_eq_true hk], h⟩
    · exact .inl h
  · exact .inl h
def seePtr (k fld : Nat) (v : V) (F : Prop) (f : Nat → Prop) : Prop := match v with | .ptr k' r g => (match Nat.beq k' k with | true => (match Nat.beq g fld with | true => f r | false => F) | false => F) | _ => F
theorem seePtr_use [Pins] {k fld : Nat} {v : V} {F : Prop} {f : Nat → Prop} (h : seePtr k fld v F f) : F ∨ ∃ r, v = .ptr k r fld ∧ f r := by
  unfold seePtr at h
  split at h
  · split at h
    · rename_i hk
      split at h
      · rename_i hg; exact .inr ⟨_, by rw [Nat.eq_of_beq_eq_true hk, Nat.eq_of_beq_eq_true hg], h⟩
      · exact .inl h
    · exact .inl h
  · exact .inl h
def seeAgg (v : V) (F : Prop) (f : List V → Prop) : Prop := match v with | .agg vs => f vs | _ => F
theorem seeAgg_use [Pins] {v : V} {F : Prop} {f : List V → Prop} (h : seeAgg v F f) : F ∨ ∃ n, v = .agg n ∧ f n := by
  unfold seeAgg at h
  split at h
  · exact .inr ⟨_, rfl, h⟩
  · exact .inl h
def seeTup (v : V) (F : Prop) (f : List V → Prop) : Prop := match v with | .tup vs => f vs | _ => F
theorem seeTup_use [Pins] {v : V} {F : Prop} {f : List V → Prop} (h : seeTup v F f) : F ∨ ∃ n, v = .tup n ∧ f n := by
  unfold seeTup at h
  split at h
  · exact .inr ⟨_, rfl, h⟩
  · exact .inl h
def seeFn (g : Nat) (v : V) (F : Prop) (f : List V → List V → Prop) : Prop := match v with | .fn (.func g') a c => (match Nat.beq g' g with | true => f a c | false => F) | _ => F
theorem seeFn_use [Pins] {g : Nat} {v : V} {F : Prop} {f : List V → List V → Prop} (h : seeFn g v F f) : F ∨ ∃ a c, v = .fn (.func g) a c ∧ f a c := by
  unfold seeFn at h
  split at h
  · split at h
    · rename_i hk; exact .inr ⟨_, _, by rw [Nat.eq_of_beq_eq_true hk], h⟩
    · exact .inl h
  · exact .inl h
def seeIfc (t : Nat) (v : V) (F : Prop) (f : V → Prop) : Prop := match v with | .ifc t' x => (match Nat.beq t' t with | true => f x | false => F) | _ => F
theorem seeIfc_use [Pins] {t : Nat} {v : V} {F : Prop} {f : V → Prop} (h : seeIfc t v F f) : F ∨ ∃ x, v = .ifc t x ∧ f x := by
  unfold seeIfc at h
  split at h
  · split at h
    · rename_i hk; exact .inr ⟨_, by rw [Nat.eq_of_beq_eq_true hk], h⟩
    · exact .inl h
  · exact .inl h
def seeCons {α : Type} (l : List α) (F : Prop) (f : α → List α → Prop) : Prop := match l with | a :: l => f a l | [] => F
theorem seeCons_use [Pins] {α : Type} {l : List α} {F : Prop} {f : α → List α → Prop} (h : seeCons l F f) : F ∨ ∃ a r, l = a :: r ∧ f a r := by
  unfold seeCons at h
  split at h
  · exact .inr ⟨_, _, rfl, h⟩
  · exact .inl h
def seeId {α : Type} (x : α) (f : α → Prop) : Prop := f x
theorem seeId_use [Pins] {α : Type} {x : α} {f : α → Prop} (h : seeId x f) : ∃ y, y = x ∧ f y := ⟨x, rfl, h⟩
def seeNil {α : Type} (l : List α) (F f : Prop) : Prop := match l with | _ :: _ => F | [] => f
theorem seeNil_use [Pins] {α : Type} {l : List α} {F f : Prop} (h : seeNil l F f) : F ∨ (l = [] ∧ f) := by
  unfold seeNil at h
  split at h
  · exact .inl h
  · exact .inr ⟨rfl, h⟩
def seeBlk (et : Nat) (ro mv : Bool) (b : Blk) (F : Prop) (f : List Col → Prop) : Prop :=
  match Nat.beq b.et et with | true => (match b.ro == ro with | true => (match b.mv == mv with | true => f b.cols | false => F) | false => F) | false => F
theorem seeBlk_use [Pins] {et : Nat} {ro mv : Bool} {b : Blk} {F : Prop} {f : List Col → Prop} (h : seeBlk et ro mv b F f) : F ∨ ∃ cols, b = ⟨cols, et, ro, mv⟩ ∧ f cols := by
  unfold seeBlk at h
  obtain ⟨cols, et', ro', mv'⟩ := b
  split at h
  · rename_i h1
    split at h
    · rename_i h2
      split at h
      · rename_i h3
        exact .inr ⟨_, by rw [← Nat.eq_of_beq_eq_true h1, ← eq_of_beq h2, ← eq_of_beq h3], h⟩
      · exact .inl h
    · exact .inl h
  · exact .inl h
def seeInts (k : IntKind) (c : Col) (F : Prop) (f : List Int → Prop) : Prop := match c with | .ints k' n => (match Nat.beq (kindN k') (kindN k) with | true => f n | false => F) | _ => F
theorem seeInts_use [Pins] {k : IntKind} {c : Col} {F : Prop} {f : List Int → Prop} (h : seeInts k c F f) : F ∨ ∃ n, c = .ints k n ∧ f n := by
  unfold seeInts at h
  split at h
  · split at h
    · rename_i hk; exact .inr ⟨_, by rw [kindN_inj hk], h⟩
    · exact .inl h
  · exact .inl h
def seeBools (c : Col) (F : Prop) (f : List Bool → Prop) : Prop := match c with | .bools n => f n | _ => F
theorem seeBools_use [Pins] {c : Col} {F : Prop} {f : List Bool → Prop} (h : seeBools c F f) : F ∨ ∃ n, c = .bools n ∧ f n := by
  unfold seeBools at h
  split at h
  · exact .inr ⟨_, rfl, h⟩
  · exact .inl h
def seeStrs (c : Col) (F : Prop) (f : List (List Int) → Prop) : Prop := match c with | .strs n => f n | _ => F
theorem seeStrs_use [Pins] {c : Col} {F : Prop} {f : List (List Int) → Prop} (h : seeStrs c F f) : F ∨ ∃ n, c = .strs n ∧ f n := by
  unfold seeStrs at h
  split at h
  · exact .inr ⟨_, rfl, h⟩
  · exact .inl h
def seeVals (c : Col) (F : Prop) (f : List V → Prop) : Prop := match c with | .vals n => f n | _ => F
theorem seeVals_use [Pins] {c : Col} {F : Prop} {f : List V → Prop} (h : seeVals c F f) : F ∨ ∃ n, c = .vals n ∧ f n := by
  unfold seeVals at h
  split at h
  · exact .inr ⟨_, rfl, h⟩
  · exact .inl h
end Go.Ab
