import Derived.Test.YtgdmellcbgalaaaGreatProg
import Derived.Test.YtgdmellcbgalaaaGreatAbDefer
import Derived.Test.YtgdmellcbgalaaaGreatAbFocus
import Derived.Test.YtgdmellcbgalaaaGreatAbExt
import Derived.Test.YtgdmellcbgalaaaGreatAbSee
import Derived.Test.YtgdmellcbgalaaaGreatAbLaw
set_option linter.unusedVariables false
set_option linter.unusedSimpArgs false
set_option maxHeartbeats 4000000
set_option maxRecDepth 100000
namespace Go.Proofs.YtgdmellcbgalaaaGreat.rrx
open Go Go.Ab
theorem named : Named Tryz.prog := by
  have h : Tryz.prog.funcs.toList.all (fun fn => !(fn.name == "runtime.NumGoroutine")) = true := by kernel_rfl
  intro g fn hf
  have := List.all_eq_true.1 h fn (by rw [Array.getElem?_eq_some_iff] at hf; obtain ⟨h1, rfl⟩ := hf; simp)
  simpa using this
theorem stands {f : FuncId} {e : Array Value → Sem Value} (hf : Tryz.prog.funcs[f]? = some (fnOf Tryz.prog f)) (h1 : ((fnOf Tryz.prog f).name == "runtime.NumGoroutine") = false) (h2 : (fnOf Tryz.prog f).body.isNone = true)
    (h3 : Extern.findNext (fnOf Tryz.prog f) = none) (h4 : Extern.find (fnOf Tryz.prog f) = some e) : Stands Tryz.prog f e := ⟨_, hf, h1, h2, h3, h4⟩
def prims0 : Prims := fun f =>
  match Nat.beq f 117 with
  | true => some pIdx
  | false => none
theorem prims0_ok : PrimsOk Tryz.prog prims0 := by
  intro f g hg
  unfold prims0 at hg
  split at hg
  · rename_i hf
    obtain rfl := Nat.eq_of_beq_eq_true hf
    cases hg
    exact pIdx_ok (stands (by kernel_rfl) (by kernel_rfl) (by kernel_rfl) (by kernel_rfl) (by kernel_rfl))
  · cases hg
def C0 : CC := callD Tryz.prog prims0 1000
theorem C0_ok : CallsOk Tryz.prog C0 := callD_sound named prims0_ok 1000
theorem at5 : Tryz.prog.funcs[5]? = some (fnOf Tryz.prog 5) := by kernel_rfl
theorem live_run (K : V → Mem → Prop) : cbody Tryz.prog C0 (fun _ => none) 1000 (fnOf Tryz.prog 5) [] [] K = K (.B true) [] := by kernel_rfl
def P5 : Prim := fun args m K => seeNil args False (seeNil m False (K (.B true) []))
theorem P5_ok : PrimOk Tryz.prog 5 P5 := by
  intro args m K E w cargs hS ha h
  unfold P5 at h
  replace h := seeNil_use h
  rcases h with h | ⟨rfl, h⟩
  · exact h.elim
  replace h := seeNil_use h
  rcases h with h | ⟨rfl, h⟩
  · exact h.elim
  exact cbody_use named C0_ok at5 (l := 0) rfl (LoopsOk.none _ _) (live_run K) hS ha h
theorem at10 : Tryz.prog.funcs[10]? = some (fnOf Tryz.prog 10) := by kernel_rfl
theorem at12 : Tryz.prog.funcs[12]? = some (fnOf Tryz.prog 12) := by kernel_rfl
theorem at6 : Tryz.prog.funcs[6]? = some (fnOf Tryz.prog 6) := by kernel_rfl
theorem at3 : Tryz.prog.funcs[3]? = some (fnOf Tryz.prog 3) := by kernel_rfl
/-- A byte of a number. -/
def b8 (o : Int) (i : Nat) : Int := IntKind.wrap .u8 (Int.fdiv (IntKind.wrap .u64 o) (2 ^ i))
theorem wu64 {x : Nat} (h : x < 2 ^ 64) : IntKind.wrap .u64 (x : Int) = (x : Int) := by
  simp [IntKind.wrap, IntKind.bits, IntKind.signed]; omega
theorem or_nat (x y : Nat) (hx : x < 2 ^ 64) (hy : y < 2 ^ 64) : ibits .or .u64 (x : Int) (y : Int) = ((x ||| y : Nat) : Int) := by
  show IntKind.wrap .u64 ((BitVec.ofInt 64 (x : Int) ||| BitVec.ofInt 64 (y : Int)).toNat : Int) = _
  rw [BitVec.ofInt_natCast, BitVec.ofInt_natCast, BitVec.toNat_or, BitVec.toNat_ofNat, BitVec.toNat_ofNat, Nat.mod_eq_of_lt hx, Nat.mod_eq_of_lt hy]
  exact wu64 (Nat.or_lt_two_pow hx hy)
theorem or_add (a b k : Nat) (ha : a < 2 ^ k) : a ||| (b * 2 ^ k) = a + b * 2 ^ k := by
  rw [Nat.or_comm, Nat.mul_comm, ← Nat.two_pow_add_eq_or_of_lt ha b, Nat.add_comm]
/-- One byte more. -/
theorem or_byte {a b k : Nat} (hk : k ≤ 56) (ha : a < 2 ^ k) (hb : b < 256) : ibits .or .u64 (a : Int) (IntKind.wrap .u64 ((IntKind.wrap .u64 (b : Int)) * 2 ^ k)) = ((a + b * 2 ^ k : Nat) : Int) ∧ a + b * 2 ^ k < 2 ^ (k + 8) := by
  have hp : 0 < 2 ^ k := Nat.two_pow_pos k
  have h1 : b * 2 ^ k ≤ 255 * 2 ^ k := Nat.mul_le_mul_right _ (by omega)
  have h2 : a + b * 2 ^ k < 2 ^ (k + 8) := by rw [Nat.pow_add]; omega
  have h3 : 2 ^ (k + 8) ≤ 2 ^ 64 := Nat.pow_le_pow_right (by omega) (by omega)
  refine ⟨?_, h2⟩
  rw [wu64 (by omega)]
  have e : (b : Int) * 2 ^ k = ((b * 2 ^ k : Nat) : Int) := by simp
  rw [e, wu64 (by omega), or_nat _ _ (by omega) (by omega), or_add _ _ _ ha]
theorem wi64 {x : Nat} (h : x < 2 ^ 63) : IntKind.wrap .i64 (x : Int) = (x : Int) := by
  simp [IntKind.wrap, IntKind.bits, IntKind.signed]; omega
theorem byte_nat {U : Nat} (k : Nat) : IntKind.wrap .u8 (Int.fdiv (U : Int) (2 ^ k)) = ((U / 2 ^ k % 256 : Nat) : Int) := by
  have e : Int.fdiv (U : Int) (2 ^ k) = ((U / 2 ^ k : Nat) : Int) := by
    have : ((2 : Int) ^ k) = ((2 ^ k : Nat) : Int) := by simp
    rw [this, Int.fdiv_eq_ediv_of_nonneg _ (Int.natCast_nonneg _)]; simp
  rw [e]
  simp [IntKind.wrap, IntKind.bits, IntKind.signed]
theorem wi64n {x : Nat} (h : 9223372036854775808 ≤ x) (h2 : x < 18446744073709551616) : IntKind.wrap .i64 (x : Int) = (x : Int) - 18446744073709551616 := by
  simp [IntKind.wrap, IntKind.bits, IntKind.signed]; omega
theorem sgn {X : Nat} {o : Int} (h : X < 4294967296) (ho : (X < 2147483648 ∧ o = X) ∨ (2147483648 ≤ X ∧ o = X - 4294967296)) : Int.fdiv (IntKind.wrap .i64 (IntKind.wrap .u64 ((X : Int) * 2 ^ 32))) (2 ^ 32) = o := by
  have e : (X : Int) * 2 ^ 32 = ((X * 4294967296 : Nat) : Int) := by simp
  have e2 : (2 : Int) ^ 32 = 4294967296 := rfl
  rw [e, wu64 (by omega), e2, Int.fdiv_eq_ediv_of_nonneg _ (by decide)]
  rcases ho with ⟨h1, rfl⟩ | ⟨h1, rfl⟩
  · rw [wi64 (by omega)]; omega
  · rw [wi64n (by omega) (by omega)]; omega
/-- The number that the decoder reads. -/
def rd (p0 p1 p2 p3 : Int) : Int := Int.fdiv (IntKind.wrap .i64 (IntKind.wrap .u64 ((ibits .or .u64 (ibits .or .u64 (ibits .or .u64 (ibits .or .u64 (0 : Int) (IntKind.wrap .u64 ((IntKind.wrap .u64 (IntKind.wrap .i64 p0)) * 2 ^ 0))) (IntKind.wrap .u64 ((IntKind.wrap .u64 (IntKind.wrap .i64 p1)) * 2 ^ 8))) (IntKind.wrap .u64 ((IntKind.wrap .u64 (IntKind.wrap .i64 p2)) * 2 ^ 16))) (IntKind.wrap .u64 ((IntKind.wrap .u64 (IntKind.wrap .i64 p3)) * 2 ^ 24))) * 2 ^ 32))) (2 ^ 32)
theorem rd_ok {o : Int} (h1 : -2147483648 ≤ o) (h2 : o < 2147483648) : rd (b8 o 0) (b8 o 8) (b8 o 16) (b8 o 24) = o := by
  obtain ⟨U, hU, hlt, hm⟩ : ∃ U : Nat, IntKind.wrap .u64 o = (U : Int) ∧ U < 2 ^ 64 ∧ ((0 ≤ o ∧ (U : Int) = o) ∨ (o < 0 ∧ (U : Int) = o + 2 ^ 64)) := by
    refine ⟨(IntKind.wrap .u64 o).toNat, ?_, ?_, ?_⟩ <;> simp [IntKind.wrap, IntKind.bits, IntKind.signed] <;> omega
  unfold rd b8
  rw [hU, byte_nat, byte_nat, byte_nat, byte_nat]
  have hb : ∀ k, U / 2 ^ k % 256 < 256 := fun k => Nat.mod_lt _ (by omega)
  rw [wi64 (by have := hb 0; omega), wi64 (by have := hb 8; omega), wi64 (by have := hb 16; omega), wi64 (by have := hb 24; omega)]
  obtain ⟨e0, l0⟩ := or_byte (a := 0) (k := 0) (by omega) (by omega) (hb 0)
  obtain ⟨e1, l1⟩ := or_byte (k := 8) (by omega) (show _ < 2 ^ 8 from l0) (hb 8)
  obtain ⟨e2, l2⟩ := or_byte (k := 16) (by omega) (show _ < 2 ^ 16 from l1) (hb 16)
  obtain ⟨e3, l3⟩ := or_byte (k := 24) (by omega) (show _ < 2 ^ 24 from l2) (hb 24)
  have z : ((0 : Nat) : Int) = (0 : Int) := rfl
  rw [z] at e0
  rw [e0, e1, e2, e3]
  have hx : 0 + U / 2 ^ 0 % 256 * 2 ^ 0 + U / 2 ^ 8 % 256 * 2 ^ 8 + U / 2 ^ 16 % 256 * 2 ^ 16 + U / 2 ^ 24 % 256 * 2 ^ 24 = U % 4294967296 := by omega
  rw [hx]
  exact sgn (by omega) (by omega)
/-- What an instruction is: a register, and a number counted from behind it. -/
def inst (op r d : Int) : V := .agg [.I .i64 op, .I .i64 8, .I .i64 0, .I .i64 1, .I .i64 r, .I .i64 0, .I .i64 0, .I .i64 0, .B false, .B false, .I .i64 0, .S [], .I .i64 0, .I .i64 3, .I .i64 0, .I .i64 (-1), .I .i64 (-1), .I .i64 0, .B true, .B false, .I .i64 d, .S [], .I .i64 0, .B false]
/-- One byte: is it there? -/
def has (j L : Int) (Q : Prop) : Prop := bif decide (j ≥ L) then False else (bif (decide (0 ≤ j) && decide (j < L)) then Q else False)
theorem has_of {j L : Int} {Q : Prop} (h0 : 0 ≤ j) (h : j < L) (q : Q) : has j L Q := by
  unfold has
  rw [decide_eq_false (by omega : ¬ j ≥ L), decide_eq_true h, decide_eq_true h0]; exact q
def same5 (d : Int) (Q : Prop) : Prop := bif (((d == d) && true) && true) then (bif (((d == d) && true) && true) then (bif (((d == d) && true) && true) then (bif (((d == d) && true) && true) then (bif (((d == d) && true) && true) then Q else False) else False) else False) else False) else False
def same4 (d : Int) (Q : Prop) : Prop := bif (((d == d) && true) && true) then (bif (((d == d) && true) && true) then (bif (((d == d) && true) && true) then (bif (((d == d) && true) && true) then Q else False) else False) else False) else False
theorem same4_of {d : Int} {Q : Prop} (q : Q) : same4 d Q := by unfold same4; simp only [beq_self_eq_true, Bool.and_true, cond_true]; exact q
theorem same5_of {d : Int} {Q : Prop} (q : Q) : same5 d Q := by unfold same5; simp only [beq_self_eq_true, Bool.and_true, cond_true]; exact q
def read3 (L : Int) (Q : Prop) : Prop := has 0 L (has 1 L (has 2 L Q))
theorem read3_of {L : Int} {Q : Prop} (h : 3 ≤ L) (q : Q) : read3 L Q :=
  has_of (by decide) (by omega) (has_of (by decide) (by omega) (has_of (by decide) (by omega) q))
def wrF (d a b c p0 p1 p2 p3 : Int) (kt kf : Prop) : Prop :=
  bif (decide (d ≥ (-2147483648 : Int))) then (bif (!(decide (d < (2147483648 : Int)))) then kf else (bif (((d == d) && true) && true) then (bif (([a, b, c, b8 d 0, b8 d 8, b8 d 16, b8 d 24] : List Int) == ([a, b, c, p0, p1, p2, p3] : List Int)) then kt else kf) else False)) else kf
end Go.Proofs.YtgdmellcbgalaaaGreat.rrx
