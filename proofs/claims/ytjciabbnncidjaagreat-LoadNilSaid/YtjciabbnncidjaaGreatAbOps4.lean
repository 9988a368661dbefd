/- Operations, part 4: arithmetic, comparisons, conversions, fields, indexes. -/
import Derived.Test.YtjciabbnncidjaaGreatAbOps3
import Derived.Laws.Pointers
set_option linter.unusedSimpArgs false
set_option linter.unusedVariables false
namespace Go.Ab
open Go
section
variable {P : Program} {o : Oper} {a : Act} {E : Wh} {m : Mem} {w : World} {ρ : Env}

/-! ### Whole numbers -/
theorem inR_wrap [Pins] (k : IntKind) (e : Int) : inR k (k.wrap e) = true := wf_wrap k e
theorem inR_iff [Pins] {k : IntKind} {n : Int} : inR k n = true ↔ k.min ≤ n ∧ n ≤ k.max := by simp [inR]
theorem min_le0 [Pins] (k : IntKind) : k.min ≤ 0 := by cases k <;> decide
theorem max_ge0 [Pins] (k : IntKind) : 0 ≤ k.max := by cases k <;> decide
theorem inR_between [Pins] {k : IntKind} {x n : Int} (h : inR k x = true) (h1 : 0 ≤ x → 0 ≤ n ∧ n ≤ x) (h2 : x < 0 → x ≤ n ∧ n ≤ 0) : inR k n = true := by
  rw [inR_iff] at h ⊢
  have := min_le0 k
  have := max_ge0 k
  by_cases hx : 0 ≤ x
  · have := h1 hx; omega
  · have := h2 (by omega); omega
theorem tmod_between [Pins] (x y : Int) : (0 ≤ x → 0 ≤ x.tmod y ∧ x.tmod y ≤ x) ∧ (x < 0 → x ≤ x.tmod y ∧ x.tmod y ≤ 0) := by
  have key : ∀ z : Int, 0 ≤ z → 0 ≤ z.tmod y ∧ z.tmod y ≤ z := by
    intro z hz
    refine ⟨Int.tmod_nonneg y hz, ?_⟩
    have h1 := Int.natAbs_tmod z y
    have h2 := Nat.mod_le z.natAbs y.natAbs
    have h3 := Int.tmod_nonneg y hz
    omega
  refine ⟨key x, fun hx => ?_⟩
  have := key (-x) (by omega)
  rw [Int.neg_tmod] at this
  omega
theorem fdiv_between [Pins] (x : Int) (n : Nat) : (0 ≤ x → 0 ≤ x.fdiv (2 ^ n) ∧ x.fdiv (2 ^ n) ≤ x) ∧ (x < 0 → x ≤ x.fdiv (2 ^ n) ∧ x.fdiv (2 ^ n) ≤ 0) := by
  have hp : (0 : Int) < 2 ^ n := Int.pow_pos (by omega)
  rw [Int.fdiv_eq_ediv_of_nonneg x (by omega)]
  constructor
  · intro hx
    exact ⟨Int.ediv_nonneg hx (by omega), Int.ediv_le_self _ hx⟩
  · intro hx
    constructor
    · rw [Int.le_ediv_iff_mul_le hp]
      have h1 : (1 : Int) ≤ 2 ^ n := by omega
      have h2 := Int.mul_le_mul_of_nonpos_left (a := x) (by omega) h1
      omega
    · have := Int.ediv_neg_of_neg_of_pos hx hp
      omega
theorem iop_rel [Pins] {op : BinOp} {k : IntKind} {x y : Int} {v : V} {t : TypeId} (hx : inR k x = true) (h : iop op k x y = some (true, v)) (hop : op ≠ .shl) (hop' : op ≠ .shr) :
    ∃ cv, (binOp op t (.int k x) (.int k y)).run P w = .ok cv w ∧ VRel E v cv := by
  cases op <;> simp only [iop, Option.some.injEq, Prod.mk.injEq, true_and, reduceCtorEq] at h <;> try (exact absurd rfl hop; done) <;> try (exact absurd rfl hop'; done)
  case add => subst h; exact ⟨.int k (k.wrap (x + y)), by simp [binOp, Op.intArith], by simp [VRel, inR_wrap]⟩
  case sub => subst h; exact ⟨.int k (k.wrap (x - y)), by simp [binOp, Op.intArith], by simp [VRel, inR_wrap]⟩
  case mul => subst h; exact ⟨.int k (k.wrap (x * y)), by simp [binOp, Op.intArith], by simp [VRel, inR_wrap]⟩
  case quo =>
    obtain ⟨h0, rfl⟩ := h
    have h0' : y ≠ 0 := by simpa using h0
    exact ⟨.int k (k.wrap (x.tdiv y)), by simp [binOp, Op.intDiv, h0'], by simp [VRel, inR_wrap]⟩
  case rem =>
    obtain ⟨h0, rfl⟩ := h
    have h0' : y ≠ 0 := by simpa using h0
    exact ⟨.int k (x.tmod y), by simp [binOp, Op.intDiv, h0'], by simp only [VRel]; exact ⟨trivial, inR_between hx (tmod_between x y).1 (tmod_between x y).2⟩⟩
  case and => subst h; exact ⟨.int k (ibits .and k x y), by simp [binOp, Op.intBits, ibits], by simp [VRel, ibits, inR_wrap]⟩
  case or => subst h; exact ⟨.int k (ibits .or k x y), by simp [binOp, Op.intBits, ibits], by simp [VRel, ibits, inR_wrap]⟩
  case xor => subst h; exact ⟨.int k (ibits .xor k x y), by simp [binOp, Op.intBits, ibits], by simp [VRel, ibits, inR_wrap]⟩
  case andNot => subst h; exact ⟨.int k (ibits .andNot k x y), by simp [binOp, Op.intBits, ibits], by simp [VRel, ibits, inR_wrap]⟩
  case eql => subst h; exact ⟨.bool (x == y), by simp [binOp, Op.intCmp], by simp [VRel]⟩
  case neq => subst h; exact ⟨.bool (x != y), by simp [binOp, Op.intCmp], by simp [VRel]⟩
  case lss => subst h; exact ⟨.bool (decide (x < y)), by simp [binOp, Op.intCmp], by simp [VRel]⟩
  case leq => subst h; exact ⟨.bool (decide (x ≤ y)), by simp [binOp, Op.intCmp], by simp [VRel]⟩
  case gtr => subst h; exact ⟨.bool (decide (x > y)), by simp [binOp, Op.intCmp], by simp [VRel]⟩
  case geq => subst h; exact ⟨.bool (decide (x ≥ y)), by simp [binOp, Op.intCmp], by simp [VRel]⟩
theorem shop_rel [Pins] {op : BinOp} {k yk : IntKind} {x y : Int} {v : V} {t : TypeId} (hx : inR k x = true) (h : shop op k x y = some (true, v)) :
    ∃ cv, (binOp op t (.int k x) (.int yk y)).run P w = .ok cv w ∧ VRel E v cv := by
  cases op <;> simp only [shop, Option.some.injEq, Prod.mk.injEq, decide_eq_true_eq, reduceCtorEq] at h
  case shl =>
    obtain ⟨h0, rfl⟩ := h
    exact ⟨_, by rw [binOp_shl]; simp only [Op.shift]; rw [if_neg (by omega)]; rfl, by simp [VRel, inR_wrap]⟩
  case shr =>
    obtain ⟨h0, rfl⟩ := h
    exact ⟨_, by rw [binOp_shr]; simp only [Op.shift]; rw [if_neg (by omega)]; rfl, by simp only [VRel]; exact ⟨trivial, inR_between hx (fdiv_between x _).1 (fdiv_between x _).2⟩⟩

/-! ### Strings -/
theorem toList_data [Pins] (s : ByteArray) : s.toList = s.data.toList := by
  have key : ∀ (n : Nat) (i : Nat) (r : List UInt8), s.size - i = n → ByteArray.toList.loop s i r = r.reverse ++ s.data.toList.drop i := by
    intro n
    induction n with
    | zero =>
      intro i r h
      unfold ByteArray.toList.loop
      rw [if_neg (by omega), List.drop_eq_nil_of_le (show s.data.toList.length ≤ i by have hs : s.data.toList.length = s.size := rfl; omega)]
      simp
    | succ n ih =>
      intro i r h
      unfold ByteArray.toList.loop
      have hi : i < s.size := by omega
      rw [if_pos hi, ih (i + 1) _ (by omega)]
      have hi' : i < s.data.toList.length := hi
      rw [List.drop_eq_getElem_cons hi']
      have : s.get! i = s.data.toList[i] := by
        simp only [ByteArray.get!]
        rw [getElem!_pos s.data i (by simpa using hi')]
        simp
      simp [this]
  have := key s.size 0 [] (by omega)
  simpa [ByteArray.toList] using this
theorem bytesI_len [Pins] (s : ByteArray) : (bytesI s).length = s.size := by
  have hs : s.data.toList.length = s.size := rfl
  rw [bytesI, List.length_map, hs]
theorem byte_inj [Pins] : Function.Injective (fun c : UInt8 => (c.toNat : Int)) := by
  intro x y h
  exact UInt8.toNat_inj.1 (Int.ofNat.inj h)
theorem map_inj [Pins] {α β : Type} {f : α → β} (hf : Function.Injective f) : ∀ {x y : List α}, x.map f = y.map f → x = y
  | [], [], _ => rfl
  | [], _ :: _, h => by simp at h
  | _ :: _, [], h => by simp at h
  | a :: x, b :: y, h => by
    simp only [List.map_cons, List.cons.injEq] at h
    rw [hf h.1, map_inj hf h.2]
theorem beq_map [Pins] {α β : Type} [BEq α] [LawfulBEq α] [BEq β] [LawfulBEq β] {f : α → β} (hf : Function.Injective f) (x y : List α) : (x.map f == y.map f) = (x == y) := by
  rw [Bool.eq_iff_iff]
  simp only [beq_iff_eq]
  exact ⟨fun h => map_inj hf h, fun h => by rw [h]⟩
theorem bytesI_beq [Pins] (s t : ByteArray) : (bytesI s == bytesI t) = (s.toList == t.toList) := by
  rw [toList_data, toList_data]; exact beq_map byte_inj _ _
theorem bytesI_lt [Pins] : ∀ (x y : List UInt8), ltI (x.map fun c => (c.toNat : Int)) (y.map fun c => (c.toNat : Int)) = Op.bytesLess x y
  | x, [] => by cases x <;> simp [ltI, Op.bytesLess]
  | [], b :: y => by simp [ltI, Op.bytesLess]
  | a :: x, b :: y => by
    simp only [List.map_cons, ltI, Op.bytesLess, bytesI_lt x y]
    have h1 : decide ((a.toNat : Int) < (b.toNat : Int)) = decide (a < b) := by
      rw [Bool.eq_iff_iff]; simp [UInt8.lt_iff_toNat_lt]
    have h2 : ((a.toNat : Int) == (b.toNat : Int)) = (a == b) := by
      rw [Bool.eq_iff_iff]; simp only [beq_iff_eq]
      exact ⟨fun h => byte_inj h, fun h => by rw [h]⟩
    rw [h1, h2]
theorem strop_rel [Pins] {op : BinOp} {s u : ByteArray} {v : V} {t : TypeId} (h : strop op (bytesI s) (bytesI u) = some (true, v)) :
    ∃ cv, (binOp op t (.string s) (.string u)).run P w = .ok cv w ∧ VRel E v cv := by
  have hl : ltI (bytesI s) (bytesI u) = Op.bytesLess s.toList u.toList := by rw [toList_data, toList_data]; exact bytesI_lt _ _
  have hb : (binOp op t (.string s) (.string u)) = Op.stringOp op s u := by cases op <;> rfl
  rw [hb]
  cases op <;> simp only [strop, Option.some.injEq, Prod.mk.injEq, true_and, decide_eq_true_eq, reduceCtorEq, hl, bytesI_beq] at h
  case add =>
    obtain ⟨h0, rfl⟩ := h
    rw [bytesI_len, bytesI_len] at h0
    refine ⟨.string (s ++ u), ?_, ?_⟩
    · simp only [Op.stringOp]
      rw [if_neg (by rw [IntKind.max_i64]; omega)]
      rfl
    · simp only [VRel]
      exact ⟨_, rfl, by simp [bytesI, ByteArray.data_append], by rw [ByteArray.size_append]; omega⟩
  all_goals subst h; exact ⟨_, rfl, by simp [VRel]⟩
end
end Go.Ab
