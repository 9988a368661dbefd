import Derived.Test.YtgflbmcmkjkmmaaGreatSo8
set_option linter.unusedVariables false
set_option linter.unusedSimpArgs false
set_option maxHeartbeats 4000000
set_option maxRecDepth 100000
namespace Go.Proofs.YtgflbmcmkjkmmaaGreat.so
open Go Go.Ab Go.So
/-! ### A nil slice told as an empty one, with a result's code -/
def nk (et : Nat) (b : Blk) (K : V → Mem → Prop) (v : V) (m : Mem) : Prop := K v m ∨ ∃ c : Int, v = .tup [.nils, .I .i64 c] ∧ K (.tup [.sl m.length 0 none none, .I .i64 c]) (m ++ [b])
theorem nk_ret {et : Nat} {b : Blk} (hb : b.bare = true) {K : V → Mem → Prop} {E : Wh} {m : Mem} {w : World} {o : Ending} {w' : World} (h : Ret (nk et b K) E m w o w') : Ret K E m w o w' := by
  cases o with
  | returned c =>
    obtain ⟨v, m', E', hk, hst, hv⟩ := h
    rcases hk with hk | ⟨n, rfl, hk⟩
    · exact ⟨v, m', E', hk, hst, hv⟩
    · have h1 := bare_step hst.sim hb
      refine ⟨_, _, _, hk, hst.trans h1, ?_⟩
      have hE := upd_new hst.sim ⟨0, 0, 0, b.cols.length, 0⟩
      have h2 := VRel.mono hE hv
      simp only [VRel, VsRel] at h2 ⊢
      obtain ⟨cs, rfl, c1, t1, h3, hn, h4⟩ := h2
      exact ⟨_, rfl, c1, t1, h3, by simpa only [VRel] using empty_rel (E := E') (upd_same _ _ _) (by simpa only [VRel] using hn), h4⟩
  | _ => exact h.elim
theorem nk_nil {et : Nat} {b : Blk} {K : V → Mem → Prop} {m : Mem} {c : Int} (h : K (.tup [.sl m.length 0 none none, .I .i64 c]) (m ++ [b])) : nk et b K (.tup [.nils, .I .i64 c]) m := .inr ⟨c, rfl, h⟩
theorem nk_id {et : Nat} {b : Blk} {K : V → Mem → Prop} {v : V} {m : Mem} (h : K v m) : nk et b K v m := .inl h
theorem nk_use {f : FuncId} {et : Nat} {b : Blk} (hb : b.bare = true) {K : V → Mem → Prop} {E : Wh} {m : Mem} {w : World} {cargs : Array Value}
    (h : ((∃ fn, Tryz.prog.funcs[f]? = some fn ∧ fn.body.isSome = true) ∧ Calls Tryz.prog f cargs w (Ret (nk et b K) E m w)) ∨ ∃ cv w', (callFunc f cargs).run Tryz.prog w = .ok (.value cv) w' ∧ Ret (nk et b K) E m w (.returned cv) w') :
    ((∃ fn, Tryz.prog.funcs[f]? = some fn ∧ fn.body.isSome = true) ∧ Calls Tryz.prog f cargs w (Ret K E m w)) ∨ ∃ cv w', (callFunc f cargs).run Tryz.prog w = .ok (.value cv) w' ∧ Ret K E m w (.returned cv) w' := by
  rcases h with ⟨h1, h2⟩ | ⟨cv, w', h1, h2⟩
  · exact .inl ⟨h1, h2.mono fun e w' h => nk_ret hb h⟩
  · exact .inr ⟨cv, w', h1, nk_ret hb h2⟩
/-! ### Bytes of a number, the reference's way -/
theorem or_low {a b : Nat} (ha : a < 2 ^ 56) (hb : b < 256) : ibits .or .u64 (IntKind.wrap .u64 ((a : Int) * 2 ^ 8)) (IntKind.wrap .u64 (b : Int)) = ((a * 256 + b : Nat) : Int) ∧ a * 256 + b < 2 ^ 64 := by
  have h1 : a * 256 < 2 ^ 64 := by omega
  have e : (a : Int) * 2 ^ 8 = ((a * 256 : Nat) : Int) := by simp
  refine ⟨?_, by omega⟩
  rw [e, wu64 h1, wu64 (by omega), or_nat _ _ h1 (by omega), Nat.or_comm]
  have := or_add b a 8 hb
  have e2 : a * 2 ^ 8 = a * 256 := rfl
  rw [e2] at this
  rw [this, Nat.add_comm]
theorem fd8 {U : Nat} : Int.fdiv (U : Int) (2 ^ 8) = ((U / 256 : Nat) : Int) := by
  rw [Int.fdiv_eq_ediv_of_nonneg _ (by decide)]; simp
theorem fdk {U : Nat} (k : Nat) : Int.fdiv (U : Int) (2 ^ k) = ((U / 2 ^ k : Nat) : Int) := by
  have e : (2 : Int) ^ k = ((2 ^ k : Nat) : Int) := by simp
  rw [Int.fdiv_eq_ediv_of_nonneg _ (by rw [e]; exact Int.natCast_nonneg _), e]; simp
theorem nest (x : Int) (k : Nat) (h : 0 ≤ x) : Int.fdiv (Int.fdiv x (2 ^ k)) (2 ^ 8) = Int.fdiv x (2 ^ (k + 8)) := by
  obtain ⟨U, rfl⟩ := Int.eq_ofNat_of_zero_le h
  rw [fdk, fd8, fdk, Nat.div_div_eq_div_mul, Nat.pow_add]
theorem u64_nn (n : Int) : 0 ≤ IntKind.wrap .u64 n := by simp [IntKind.wrap, IntKind.bits, IntKind.signed]; omega
theorem fd0 (x : Int) : Int.fdiv x (2 ^ 0) = x := by rw [Int.fdiv_eq_ediv_of_nonneg _ (by decide)]; simp
def num31 (p0 p1 p2 p3 p4 p5 p6 p7 : Int) : Int := (IntKind.wrap .i64 (ibits .or .u64 (IntKind.wrap .u64 ((ibits .or .u64 (IntKind.wrap .u64 ((ibits .or .u64 (IntKind.wrap .u64 ((ibits .or .u64 (IntKind.wrap .u64 ((ibits .or .u64 (IntKind.wrap .u64 ((ibits .or .u64 (IntKind.wrap .u64 ((ibits .or .u64 (IntKind.wrap .u64 ((ibits .or .u64 (0 : Int) (IntKind.wrap .u64 p7)) * 2 ^ 8)) (IntKind.wrap .u64 p6)) * 2 ^ 8)) (IntKind.wrap .u64 p5)) * 2 ^ 8)) (IntKind.wrap .u64 p4)) * 2 ^ 8)) (IntKind.wrap .u64 p3)) * 2 ^ 8)) (IntKind.wrap .u64 p2)) * 2 ^ 8)) (IntKind.wrap .u64 p1)) * 2 ^ 8)) (IntKind.wrap .u64 p0)))
theorem num31_nat {c0 c1 c2 c3 c4 c5 c6 c7 : Nat} (h0 : c0 < 256) (h1 : c1 < 256) (h2 : c2 < 256) (h3 : c3 < 256) (h4 : c4 < 256) (h5 : c5 < 256) (h6 : c6 < 256) (h7 : c7 < 256) :
    num31 c0 c1 c2 c3 c4 c5 c6 c7 = IntKind.wrap .i64 ((((((((c7 * 256 + c6) * 256 + c5) * 256 + c4) * 256 + c3) * 256 + c2) * 256 + c1) * 256 + c0 : Nat) : Int) := by
  unfold num31
  have z : ibits .or .u64 (0 : Int) (IntKind.wrap .u64 (c7 : Int)) = (c7 : Int) := by
    rw [wu64 (by omega)]
    have := or_nat 0 c7 (by omega) (by omega)
    simpa using this
  rw [z, (or_low (a := c7) (by omega) h6).1]
  rw [(or_low (a := c7 * 256 + c6) (by omega) h5).1]
  rw [(or_low (a := (c7 * 256 + c6) * 256 + c5) (by omega) h4).1]
  rw [(or_low (a := ((c7 * 256 + c6) * 256 + c5) * 256 + c4) (by omega) h3).1]
  rw [(or_low (a := (((c7 * 256 + c6) * 256 + c5) * 256 + c4) * 256 + c3) (by omega) h2).1]
  rw [(or_low (a := ((((c7 * 256 + c6) * 256 + c5) * 256 + c4) * 256 + c3) * 256 + c2) (by omega) h1).1]
  rw [(or_low (a := (((((c7 * 256 + c6) * 256 + c5) * 256 + c4) * 256 + c3) * 256 + c2) * 256 + c1) (by omega) h0).1]
theorem num31_ok {n : Int} (h1 : -9223372036854775808 ≤ n) (h2 : n ≤ 9223372036854775807) : num31 (b8 n 0) (b8 n 8) (b8 n 16) (b8 n 24) (b8 n 32) (b8 n 40) (b8 n 48) (b8 n 56) = n := by
  obtain ⟨U, hU, hlt, hm⟩ : ∃ U : Nat, IntKind.wrap .u64 n = (U : Int) ∧ U < 2 ^ 64 ∧ ((0 ≤ n ∧ (U : Int) = n) ∨ (n < 0 ∧ (U : Int) = n + 2 ^ 64)) := by
    refine ⟨(IntKind.wrap .u64 n).toNat, ?_, ?_, ?_⟩ <;> simp [IntKind.wrap, IntKind.bits, IntKind.signed] <;> omega
  unfold b8
  rw [hU, byte_nat, byte_nat, byte_nat, byte_nat, byte_nat, byte_nat, byte_nat, byte_nat]
  have hb : ∀ k, U / 2 ^ k % 256 < 256 := fun k => Nat.mod_lt _ (by omega)
  rw [num31_nat (hb 0) (hb 8) (hb 16) (hb 24) (hb 32) (hb 40) (hb 48) (hb 56)]
  have hlt' : U < 18446744073709551616 := hlt
  have e : ((((((U / 2 ^ 56 % 256 * 256 + U / 2 ^ 48 % 256) * 256 + U / 2 ^ 40 % 256) * 256 + U / 2 ^ 32 % 256) * 256 + U / 2 ^ 24 % 256) * 256 + U / 2 ^ 16 % 256) * 256 + U / 2 ^ 8 % 256) * 256 + U / 2 ^ 0 % 256 = U := by
    have := sum8 U hlt'
    omega
  rw [e]
  rcases hm with ⟨q1, q2⟩ | ⟨q1, q2⟩
  · rw [q2]; exact w64 h1 h2
  · have q2' : (U : Int) = n + 18446744073709551616 := q2
    rw [wi64n (by omega) hlt']; omega
/-- Any eight bytes are some number's. -/
theorem dec8 {a b c d e f g h : Int} (ha : 0 ≤ a ∧ a ≤ 255) (hb : 0 ≤ b ∧ b ≤ 255) (hc : 0 ≤ c ∧ c ≤ 255) (hd : 0 ≤ d ∧ d ≤ 255) (he : 0 ≤ e ∧ e ≤ 255) (hf : 0 ≤ f ∧ f ≤ 255) (hg : 0 ≤ g ∧ g ≤ 255) (hh : 0 ≤ h ∧ h ≤ 255) :
    ∃ n : Int, inI n ∧ enc8 n = [a, b, c, d, e, f, g, h] := by
  have hU : ∃ U : Nat, (U : Int) = a + 256 * (b + 256 * (c + 256 * (d + 256 * (e + 256 * (f + 256 * (g + 256 * h)))))) := ⟨_, Int.toNat_of_nonneg (by omega)⟩
  obtain ⟨U, hU⟩ := hU
  have hlt : U < 18446744073709551616 := by omega
  have key : ∀ n : Int, IntKind.wrap .u64 n = (U : Int) → enc8 n = [a, b, c, d, e, f, g, h] := fun n hn => by
    unfold enc8 b8
    rw [hn, byte_nat, byte_nat, byte_nat, byte_nat, byte_nat, byte_nat, byte_nat, byte_nat]
    have : ∀ (x y : Int) (u v : List Int), x = y → u = v → x :: u = y :: v := fun _ _ _ _ h1 h2 => by rw [h1, h2]
    refine this _ _ _ _ (by omega) <| this _ _ _ _ (by omega) <| this _ _ _ _ (by omega) <| this _ _ _ _ (by omega) <| this _ _ _ _ (by omega) <| this _ _ _ _ (by omega) <| this _ _ _ _ (by omega) <| this _ _ _ _ (by omega) rfl
  by_cases hs : U < 9223372036854775808
  · exact ⟨U, ⟨by omega, by omega⟩, key _ (wu64 hlt)⟩
  · refine ⟨(U : Int) - 18446744073709551616, ⟨by omega, by omega⟩, key _ ?_⟩
    simp [IntKind.wrap, IntKind.bits, IntKind.signed]; omega
def byteL (bs : List Int) : Prop := ∀ b ∈ bs, 0 ≤ b ∧ b ≤ 255
theorem dec_all : ∀ (n : Nat) (bs : List Int), bs.length ≤ n → byteL bs → ∃ (ns post : List Int), bs = ns.flatMap enc8 ++ post ∧ post.length < 8 ∧ (∀ x ∈ ns, inI x)
  | 0, [], _, _ => ⟨[], [], rfl, by decide, by simp⟩
  | n + 1, bs, hn, hb => by
    match bs, hn, hb with
    | a :: b :: c :: d :: e :: f :: g :: h :: r, hn, hb =>
      obtain ⟨x, hx, he⟩ := dec8 (hb a (by simp)) (hb b (by simp)) (hb c (by simp)) (hb d (by simp)) (hb e (by simp)) (hb f (by simp)) (hb g (by simp)) (hb h (by simp))
      obtain ⟨ns, post, h1, h2, h3⟩ := dec_all n r (by simp at hn; omega) (fun y hy => hb y (by simp [hy]))
      refine ⟨x :: ns, post, ?_, h2, ?_⟩
      · rw [List.flatMap_cons, he, h1]; rfl
      · intro y hy
        rcases List.mem_cons.1 hy with rfl | hy
        · exact hx
        · exact h3 y hy
    | [], _, _ => exact ⟨[], [], rfl, by decide, by simp⟩
    | [a], _, _ => exact ⟨[], [a], rfl, by simp, by simp⟩
    | [a, b], _, _ => exact ⟨[], [a, b], rfl, by simp, by simp⟩
    | [a, b, c], _, _ => exact ⟨[], [a, b, c], rfl, by simp, by simp⟩
    | [a, b, c, d], _, _ => exact ⟨[], [a, b, c, d], rfl, by simp, by simp⟩
    | [a, b, c, d, e], _, _ => exact ⟨[], [a, b, c, d, e], rfl, by simp, by simp⟩
    | [a, b, c, d, e, f], _, _ => exact ⟨[], [a, b, c, d, e, f], rfl, by simp, by simp⟩
    | [a, b, c, d, e, f, g], _, _ => exact ⟨[], [a, b, c, d, e, f, g], rfl, by simp, by simp⟩
theorem at14 : Tryz.prog.funcs[14]? = some (fnOf Tryz.prog 14) := by kernel_rfl
abbrev Y14 : Type := Int → Int → (Prop) → (Prop) → (List Int → Prop) → (List Int → Prop) → Prop
set_option maxHeartbeats 4000000 in
set_option maxRecDepth 100000 in
def F14  (pa : Int) (so : Int) (k1 : Prop) (k2 : Prop) (k3 : List Int → Prop) (k4 : List Int → Prop) : Prop :=
  (bif (decide (pa < (0 : Int))) then (k1) else (bif (decide (pa > (140737488355328 : Int))) then (k1) else (bif (decide (so < (0 : Int))) then (k1) else (bif (decide (so > (140737488355328 : Int))) then (k1) else (bif (decide ((IntKind.wrap .i64 ((IntKind.wrap .i64 (so - pa)) - (6 : Int))) ≥ (-2147483648 : Int))) then (bif (!(decide ((IntKind.wrap .i64 ((IntKind.wrap .i64 (so - pa)) - (6 : Int))) < (2147483648 : Int)))) then (k2) else (bif (decide ((IntKind.wrap .i64 ((IntKind.wrap .i64 (so - pa)) - (6 : Int))) ≥ (-2147483648 : Int))) then (bif (!(decide ((IntKind.wrap .i64 ((IntKind.wrap .i64 (so - pa)) - (6 : Int))) < (2147483648 : Int)))) then (k3 ([(102 : Int), (144 : Int)] : List Int)) else (k4 ([(255 : Int), (37 : Int), (IntKind.wrap .u8 (Int.fdiv (IntKind.wrap .u64 (IntKind.wrap .i64 ((IntKind.wrap .i64 (so - pa)) - (6 : Int)))) (2 ^ 0))), (IntKind.wrap .u8 (Int.fdiv (IntKind.wrap .u64 (IntKind.wrap .i64 ((IntKind.wrap .i64 (so - pa)) - (6 : Int)))) (2 ^ 8))), (IntKind.wrap .u8 (Int.fdiv (IntKind.wrap .u64 (IntKind.wrap .i64 ((IntKind.wrap .i64 (so - pa)) - (6 : Int)))) (2 ^ 16))), (IntKind.wrap .u8 (Int.fdiv (IntKind.wrap .u64 (IntKind.wrap .i64 ((IntKind.wrap .i64 (so - pa)) - (6 : Int)))) (2 ^ 24))), (102 : Int), (144 : Int)] : List Int))) else (k3 ([(102 : Int), (144 : Int)] : List Int)))) else (k2))))))
theorem F14_ok  (pa : Int) (so : Int) (K : V → Mem → Prop) : cbody Tryz.prog C0 (fun _ => none) 1000 (fnOf Tryz.prog 14) [(.I .i64 pa), (.I .i64 so)] [] K =
    F14  pa so (K (.tup [.nils, (.I .i64 (11 : Int))]) []) (K (.tup [.nils, (.I .i64 (201 : Int))]) []) (fun (u0 : List Int) => K (.tup [(.sl 0 (0 : Nat) (none : Option Nat) (none : Option Nat)), (.I .i64 (30 : Int))]) [⟨[.ints .u8 u0], 5, false, true⟩]) (fun (u0 : List Int) => K (.tup [(.sl 0 (0 : Nat) (none : Option Nat) (none : Option Nat)), (.I .i64 (0 : Int))]) [⟨[.ints .u8 u0], 5, false, true⟩]) := by kernel_rfl
theorem at15 : Tryz.prog.funcs[15]? = some (fnOf Tryz.prog 15) := by kernel_rfl
abbrev Y15 : Type := Int → Int → (Prop) → (Prop) → (List Int → Prop) → Prop
set_option maxHeartbeats 4000000 in
set_option maxRecDepth 100000 in
def F15  (pa : Int) (so : Int) (k1 : Prop) (k2 : Prop) (k3 : List Int → Prop) : Prop :=
  (bif (decide (pa < (0 : Int))) then (k1) else (bif (decide (pa > (140737488355328 : Int))) then (k1) else (bif (decide (so < (0 : Int))) then (k1) else (bif (decide (so > (140737488355328 : Int))) then (k1) else (bif (decide ((IntKind.wrap .i64 ((IntKind.wrap .i64 (so - pa)) - (6 : Int))) ≥ (-2147483648 : Int))) then (bif (!(decide ((IntKind.wrap .i64 ((IntKind.wrap .i64 (so - pa)) - (6 : Int))) < (2147483648 : Int)))) then (k2) else (bif (decide ((IntKind.wrap .i64 ((IntKind.wrap .i64 (so - pa)) - (6 : Int))) ≥ (-2147483648 : Int))) then (bif (decide ((IntKind.wrap .i64 ((IntKind.wrap .i64 (so - pa)) - (6 : Int))) < (2147483648 : Int))) then (bif (decide ((IntKind.wrap .i64 ((IntKind.wrap .i64 (so - pa)) - (6 : Int))) ≥ (-2147483648 : Int))) then (bif (!(decide ((IntKind.wrap .i64 ((IntKind.wrap .i64 (so - pa)) - (6 : Int))) < (2147483648 : Int)))) then (k3 ([(102 : Int), (144 : Int)] : List Int)) else (k3 ([(255 : Int), (37 : Int), (IntKind.wrap .u8 (IntKind.wrap .u64 (IntKind.wrap .i64 ((IntKind.wrap .i64 (so - pa)) - (6 : Int))))), (IntKind.wrap .u8 (Int.fdiv (IntKind.wrap .u64 (IntKind.wrap .i64 ((IntKind.wrap .i64 (so - pa)) - (6 : Int)))) (2 ^ 8))), (IntKind.wrap .u8 (Int.fdiv (Int.fdiv (IntKind.wrap .u64 (IntKind.wrap .i64 ((IntKind.wrap .i64 (so - pa)) - (6 : Int)))) (2 ^ 8)) (2 ^ 8))), (IntKind.wrap .u8 (Int.fdiv (Int.fdiv (Int.fdiv (IntKind.wrap .u64 (IntKind.wrap .i64 ((IntKind.wrap .i64 (so - pa)) - (6 : Int)))) (2 ^ 8)) (2 ^ 8)) (2 ^ 8))), (102 : Int), (144 : Int)] : List Int))) else (k3 ([(102 : Int), (144 : Int)] : List Int))) else (bif (decide ((IntKind.wrap .i64 ((IntKind.wrap .i64 (so - pa)) - (6 : Int))) ≥ (-2147483648 : Int))) then (bif (!(decide ((IntKind.wrap .i64 ((IntKind.wrap .i64 (so - pa)) - (6 : Int))) < (2147483648 : Int)))) then (k3 ([(102 : Int), (144 : Int)] : List Int)) else (k3 ([(255 : Int), (37 : Int), (IntKind.wrap .u8 (IntKind.wrap .u64 (IntKind.wrap .i64 ((IntKind.wrap .i64 (so - pa)) - (6 : Int))))), (IntKind.wrap .u8 (Int.fdiv (IntKind.wrap .u64 (IntKind.wrap .i64 ((IntKind.wrap .i64 (so - pa)) - (6 : Int)))) (2 ^ 8))), (IntKind.wrap .u8 (Int.fdiv (Int.fdiv (IntKind.wrap .u64 (IntKind.wrap .i64 ((IntKind.wrap .i64 (so - pa)) - (6 : Int)))) (2 ^ 8)) (2 ^ 8))), (IntKind.wrap .u8 (Int.fdiv (Int.fdiv (Int.fdiv (IntKind.wrap .u64 (IntKind.wrap .i64 ((IntKind.wrap .i64 (so - pa)) - (6 : Int)))) (2 ^ 8)) (2 ^ 8)) (2 ^ 8))), (102 : Int), (144 : Int)] : List Int))) else (k3 ([(102 : Int), (144 : Int)] : List Int)))) else (bif (decide ((IntKind.wrap .i64 ((IntKind.wrap .i64 (so - pa)) - (6 : Int))) ≥ (-2147483648 : Int))) then (bif (!(decide ((IntKind.wrap .i64 ((IntKind.wrap .i64 (so - pa)) - (6 : Int))) < (2147483648 : Int)))) then (k3 ([(102 : Int), (144 : Int)] : List Int)) else (k3 ([(255 : Int), (37 : Int), (IntKind.wrap .u8 (IntKind.wrap .u64 (IntKind.wrap .i64 ((IntKind.wrap .i64 (so - pa)) - (6 : Int))))), (IntKind.wrap .u8 (Int.fdiv (IntKind.wrap .u64 (IntKind.wrap .i64 ((IntKind.wrap .i64 (so - pa)) - (6 : Int)))) (2 ^ 8))), (IntKind.wrap .u8 (Int.fdiv (Int.fdiv (IntKind.wrap .u64 (IntKind.wrap .i64 ((IntKind.wrap .i64 (so - pa)) - (6 : Int)))) (2 ^ 8)) (2 ^ 8))), (IntKind.wrap .u8 (Int.fdiv (Int.fdiv (Int.fdiv (IntKind.wrap .u64 (IntKind.wrap .i64 ((IntKind.wrap .i64 (so - pa)) - (6 : Int)))) (2 ^ 8)) (2 ^ 8)) (2 ^ 8))), (102 : Int), (144 : Int)] : List Int))) else (k3 ([(102 : Int), (144 : Int)] : List Int))))) else (k2))))))
theorem F15_ok  (pa : Int) (so : Int) (K : V → Mem → Prop) : cbody Tryz.prog C0 (fun _ => none) 1000 (fnOf Tryz.prog 15) [(.I .i64 pa), (.I .i64 so)] [] K =
    F15  pa so (K (.tup [.nils, (.I .i64 (11 : Int))]) []) (K (.tup [.nils, (.I .i64 (201 : Int))]) []) (fun (u0 : List Int) => K (.tup [(.sl 0 (0 : Nat) (none : Option Nat) (none : Option Nat)), (.I .i64 (0 : Int))]) [⟨[.ints .u8 u0], 5, false, true⟩]) := by kernel_rfl
theorem at30 : Tryz.prog.funcs[30]? = some (fnOf Tryz.prog 30) := by kernel_rfl
abbrev Y30 : Type := Int → (List Int → Prop) → Prop
set_option maxHeartbeats 4000000 in
set_option maxRecDepth 100000 in
def F30  (n : Int) (k1 : List Int → Prop) : Prop :=
  (k1 ([(IntKind.wrap .u8 (IntKind.wrap .u64 n)), (IntKind.wrap .u8 (Int.fdiv (IntKind.wrap .u64 n) (2 ^ 8))), (IntKind.wrap .u8 (Int.fdiv (Int.fdiv (IntKind.wrap .u64 n) (2 ^ 8)) (2 ^ 8))), (IntKind.wrap .u8 (Int.fdiv (Int.fdiv (Int.fdiv (IntKind.wrap .u64 n) (2 ^ 8)) (2 ^ 8)) (2 ^ 8))), (IntKind.wrap .u8 (Int.fdiv (Int.fdiv (Int.fdiv (Int.fdiv (IntKind.wrap .u64 n) (2 ^ 8)) (2 ^ 8)) (2 ^ 8)) (2 ^ 8))), (IntKind.wrap .u8 (Int.fdiv (Int.fdiv (Int.fdiv (Int.fdiv (Int.fdiv (IntKind.wrap .u64 n) (2 ^ 8)) (2 ^ 8)) (2 ^ 8)) (2 ^ 8)) (2 ^ 8))), (IntKind.wrap .u8 (Int.fdiv (Int.fdiv (Int.fdiv (Int.fdiv (Int.fdiv (Int.fdiv (IntKind.wrap .u64 n) (2 ^ 8)) (2 ^ 8)) (2 ^ 8)) (2 ^ 8)) (2 ^ 8)) (2 ^ 8))), (IntKind.wrap .u8 (Int.fdiv (Int.fdiv (Int.fdiv (Int.fdiv (Int.fdiv (Int.fdiv (Int.fdiv (IntKind.wrap .u64 n) (2 ^ 8)) (2 ^ 8)) (2 ^ 8)) (2 ^ 8)) (2 ^ 8)) (2 ^ 8)) (2 ^ 8)))] : List Int))
theorem F30_ok  (n : Int) (K : V → Mem → Prop) : cbody Tryz.prog C0 (fun _ => none) 1000 (fnOf Tryz.prog 30) [(.I .i64 n), (.I .i64 (8 : Int))] [] K =
    F30  n (fun (u0 : List Int) => K (.tup [(.sl 0 (0 : Nat) (none : Option Nat) (none : Option Nat)), (.I .i64 (0 : Int))]) [⟨[.ints .u8 u0], 5, false, true⟩]) := by kernel_rfl
abbrev Y31 : Type := Int → List Int → (Prop) → (Int → Prop) → Prop
set_option maxHeartbeats 4000000 in
set_option maxRecDepth 100000 in
def F31  (pa : Int) (bs : List Int) (k1 : Prop) (k2 : Int → Prop) : Prop :=
  (bif (decide (pa < (0 : Int))) then (k1) else (bif (decide (pa > ((((List.length bs) - (0 : Nat)) : Nat) : Int))) then (k1) else (bif (decide ((8 : Int) > (IntKind.wrap .i64 (((((List.length bs) - (0 : Nat)) : Nat) : Int) - pa)))) then (k1) else (bif ((decide ((0 : Int) ≤ (IntKind.wrap .i64 (pa + (7 : Int))))) && (decide ((IntKind.wrap .i64 (pa + (7 : Int))) < ((((List.length bs) - (0 : Nat)) : Nat) : Int)))) then (bif ((decide ((0 : Int) ≤ (IntKind.wrap .i64 (pa + (6 : Int))))) && (decide ((IntKind.wrap .i64 (pa + (6 : Int))) < ((((List.length bs) - (0 : Nat)) : Nat) : Int)))) then (bif ((decide ((0 : Int) ≤ (IntKind.wrap .i64 (pa + (5 : Int))))) && (decide ((IntKind.wrap .i64 (pa + (5 : Int))) < ((((List.length bs) - (0 : Nat)) : Nat) : Int)))) then (bif ((decide ((0 : Int) ≤ (IntKind.wrap .i64 (pa + (4 : Int))))) && (decide ((IntKind.wrap .i64 (pa + (4 : Int))) < ((((List.length bs) - (0 : Nat)) : Nat) : Int)))) then (bif ((decide ((0 : Int) ≤ (IntKind.wrap .i64 (pa + (3 : Int))))) && (decide ((IntKind.wrap .i64 (pa + (3 : Int))) < ((((List.length bs) - (0 : Nat)) : Nat) : Int)))) then (bif ((decide ((0 : Int) ≤ (IntKind.wrap .i64 (pa + (2 : Int))))) && (decide ((IntKind.wrap .i64 (pa + (2 : Int))) < ((((List.length bs) - (0 : Nat)) : Nat) : Int)))) then (bif ((decide ((0 : Int) ≤ (IntKind.wrap .i64 (pa + (1 : Int))))) && (decide ((IntKind.wrap .i64 (pa + (1 : Int))) < ((((List.length bs) - (0 : Nat)) : Nat) : Int)))) then (bif ((decide ((0 : Int) ≤ (IntKind.wrap .i64 (pa + (0 : Int))))) && (decide ((IntKind.wrap .i64 (pa + (0 : Int))) < ((((List.length bs) - (0 : Nat)) : Nat) : Int)))) then (k2 (IntKind.wrap .i64 (ibits .or .u64 (IntKind.wrap .u64 ((ibits .or .u64 (IntKind.wrap .u64 ((ibits .or .u64 (IntKind.wrap .u64 ((ibits .or .u64 (IntKind.wrap .u64 ((ibits .or .u64 (IntKind.wrap .u64 ((ibits .or .u64 (IntKind.wrap .u64 ((ibits .or .u64 (IntKind.wrap .u64 ((ibits .or .u64 (0 : Int) (IntKind.wrap .u64 (List.getD bs (Int.toNat (IntKind.wrap .i64 (pa + (7 : Int)))) (0 : Int)))) * 2 ^ 8)) (IntKind.wrap .u64 (List.getD bs (Int.toNat (IntKind.wrap .i64 (pa + (6 : Int)))) (0 : Int)))) * 2 ^ 8)) (IntKind.wrap .u64 (List.getD bs (Int.toNat (IntKind.wrap .i64 (pa + (5 : Int)))) (0 : Int)))) * 2 ^ 8)) (IntKind.wrap .u64 (List.getD bs (Int.toNat (IntKind.wrap .i64 (pa + (4 : Int)))) (0 : Int)))) * 2 ^ 8)) (IntKind.wrap .u64 (List.getD bs (Int.toNat (IntKind.wrap .i64 (pa + (3 : Int)))) (0 : Int)))) * 2 ^ 8)) (IntKind.wrap .u64 (List.getD bs (Int.toNat (IntKind.wrap .i64 (pa + (2 : Int)))) (0 : Int)))) * 2 ^ 8)) (IntKind.wrap .u64 (List.getD bs (Int.toNat (IntKind.wrap .i64 (pa + (1 : Int)))) (0 : Int)))) * 2 ^ 8)) (IntKind.wrap .u64 (List.getD bs (Int.toNat (IntKind.wrap .i64 (pa + (0 : Int)))) (0 : Int)))))) else False) else False) else False) else False) else False) else False) else False) else False))))
theorem F31_ok  (pa : Int) (bs : List Int) (K : V → Mem → Prop) : cbody Tryz.prog C0 (fun _ => none) 1000 (fnOf Tryz.prog 31) [(.sl 0 (0 : Nat) (none : Option Nat) (none : Option Nat)), (.I .i64 pa), (.I .i64 (8 : Int)), (.B true)] [⟨[.ints .u8 bs], 5, false, false⟩] K =
    F31  pa bs (K (.tup [(.I .i64 (0 : Int)), (.I .i64 (20 : Int))]) [⟨[.ints .u8 bs], 5, false, false⟩]) (fun (u0 : Int) => K (.tup [(.I .i64 u0), (.I .i64 (0 : Int))]) [⟨[.ints .u8 bs], 5, false, false⟩]) := by kernel_rfl
theorem at31 : Tryz.prog.funcs[31]? = some (fnOf Tryz.prog 31) := by kernel_rfl
abbrev Y31r : Type := Int → List Int → (Prop) → (Int → Prop) → Prop
set_option maxHeartbeats 4000000 in
set_option maxRecDepth 100000 in
def F31r  (pa : Int) (bs : List Int) (k1 : Prop) (k2 : Int → Prop) : Prop :=
  (bif (decide (pa < (0 : Int))) then (k1) else (bif (decide (pa > ((((List.length bs) - (0 : Nat)) : Nat) : Int))) then (k1) else (bif (decide ((8 : Int) > (IntKind.wrap .i64 (((((List.length bs) - (0 : Nat)) : Nat) : Int) - pa)))) then (k1) else (bif ((decide ((0 : Int) ≤ (IntKind.wrap .i64 (pa + (7 : Int))))) && (decide ((IntKind.wrap .i64 (pa + (7 : Int))) < ((((List.length bs) - (0 : Nat)) : Nat) : Int)))) then (bif ((decide ((0 : Int) ≤ (IntKind.wrap .i64 (pa + (6 : Int))))) && (decide ((IntKind.wrap .i64 (pa + (6 : Int))) < ((((List.length bs) - (0 : Nat)) : Nat) : Int)))) then (bif ((decide ((0 : Int) ≤ (IntKind.wrap .i64 (pa + (5 : Int))))) && (decide ((IntKind.wrap .i64 (pa + (5 : Int))) < ((((List.length bs) - (0 : Nat)) : Nat) : Int)))) then (bif ((decide ((0 : Int) ≤ (IntKind.wrap .i64 (pa + (4 : Int))))) && (decide ((IntKind.wrap .i64 (pa + (4 : Int))) < ((((List.length bs) - (0 : Nat)) : Nat) : Int)))) then (bif ((decide ((0 : Int) ≤ (IntKind.wrap .i64 (pa + (3 : Int))))) && (decide ((IntKind.wrap .i64 (pa + (3 : Int))) < ((((List.length bs) - (0 : Nat)) : Nat) : Int)))) then (bif ((decide ((0 : Int) ≤ (IntKind.wrap .i64 (pa + (2 : Int))))) && (decide ((IntKind.wrap .i64 (pa + (2 : Int))) < ((((List.length bs) - (0 : Nat)) : Nat) : Int)))) then (bif ((decide ((0 : Int) ≤ (IntKind.wrap .i64 (pa + (1 : Int))))) && (decide ((IntKind.wrap .i64 (pa + (1 : Int))) < ((((List.length bs) - (0 : Nat)) : Nat) : Int)))) then (bif ((decide ((0 : Int) ≤ (IntKind.wrap .i64 (pa + (0 : Int))))) && (decide ((IntKind.wrap .i64 (pa + (0 : Int))) < ((((List.length bs) - (0 : Nat)) : Nat) : Int)))) then (k2 (IntKind.wrap .i64 (ibits .or .u64 (IntKind.wrap .u64 ((ibits .or .u64 (IntKind.wrap .u64 ((ibits .or .u64 (IntKind.wrap .u64 ((ibits .or .u64 (IntKind.wrap .u64 ((ibits .or .u64 (IntKind.wrap .u64 ((ibits .or .u64 (IntKind.wrap .u64 ((ibits .or .u64 (IntKind.wrap .u64 ((ibits .or .u64 (0 : Int) (IntKind.wrap .u64 (List.getD bs (Int.toNat (IntKind.wrap .i64 (pa + (7 : Int)))) (0 : Int)))) * 2 ^ 8)) (IntKind.wrap .u64 (List.getD bs (Int.toNat (IntKind.wrap .i64 (pa + (6 : Int)))) (0 : Int)))) * 2 ^ 8)) (IntKind.wrap .u64 (List.getD bs (Int.toNat (IntKind.wrap .i64 (pa + (5 : Int)))) (0 : Int)))) * 2 ^ 8)) (IntKind.wrap .u64 (List.getD bs (Int.toNat (IntKind.wrap .i64 (pa + (4 : Int)))) (0 : Int)))) * 2 ^ 8)) (IntKind.wrap .u64 (List.getD bs (Int.toNat (IntKind.wrap .i64 (pa + (3 : Int)))) (0 : Int)))) * 2 ^ 8)) (IntKind.wrap .u64 (List.getD bs (Int.toNat (IntKind.wrap .i64 (pa + (2 : Int)))) (0 : Int)))) * 2 ^ 8)) (IntKind.wrap .u64 (List.getD bs (Int.toNat (IntKind.wrap .i64 (pa + (1 : Int)))) (0 : Int)))) * 2 ^ 8)) (IntKind.wrap .u64 (List.getD bs (Int.toNat (IntKind.wrap .i64 (pa + (0 : Int)))) (0 : Int)))))) else False) else False) else False) else False) else False) else False) else False) else False))))
theorem F31r_ok  (pa : Int) (bs : List Int) (K : V → Mem → Prop) : cbody Tryz.prog C0 (fun _ => none) 1000 (fnOf Tryz.prog 31) [(.sl 0 (0 : Nat) (none : Option Nat) (none : Option Nat)), (.I .i64 pa), (.I .i64 (8 : Int)), (.B true)] [⟨[.ints .u8 bs], 5, true, false⟩] K =
    F31r  pa bs (K (.tup [(.I .i64 (0 : Int)), (.I .i64 (20 : Int))]) [⟨[.ints .u8 bs], 5, true, false⟩]) (fun (u0 : Int) => K (.tup [(.I .i64 u0), (.I .i64 (0 : Int))]) [⟨[.ints .u8 bs], 5, true, false⟩]) := by kernel_rfl
/-! ### Stubs -/
def stN (pa so : Int) : Int := IntKind.wrap .i64 ((IntKind.wrap .i64 (so - pa)) - (6 : Int))
def stIn (pa so : Int) : Bool := bif decide (pa < (0 : Int)) then false else (bif decide (pa > (140737488355328 : Int)) then false else (bif decide (so < (0 : Int)) then false else (bif decide (so > (140737488355328 : Int)) then false else true)))
def stOk (pa so : Int) : Bool := bif decide (stN pa so ≥ (-2147483648 : Int)) then decide (stN pa so < (2147483648 : Int)) else false
def stubC (pa so : Int) : Int := bif stIn pa so then (bif stOk pa so then 0 else 201) else 11
def stubV (pa so : Int) : List Int := bif stIn pa so then (bif stOk pa so then [255, 37, b8 (stN pa so) 0, b8 (stN pa so) 8, b8 (stN pa so) 16, b8 (stN pa so) 24, 102, 144] else []) else []
theorem h14 (k : List Int → Int → Prop) {pa so : Int} {a1 a2 : Prop} {a3 a4 : List Int → Prop} (i1 : k [] 11 → a1) (i2 : k [] 201 → a2) (i4 : ∀ u, k u 0 → a4 u) (h : k (stubV pa so) (stubC pa so)) : F14 pa so a1 a2 a3 a4 := by
  unfold F14
  unfold stubV stubC stIn stOk b8 stN at h
  generalize decide (pa < (0 : Int)) = x1 at h ⊢
  generalize decide (pa > (140737488355328 : Int)) = x2 at h ⊢
  generalize decide (so < (0 : Int)) = x3 at h ⊢
  generalize decide (so > (140737488355328 : Int)) = x4 at h ⊢
  generalize IntKind.wrap .i64 ((IntKind.wrap .i64 (so - pa)) - (6 : Int)) = n at h ⊢
  generalize decide (n ≥ (-2147483648 : Int)) = x5 at h ⊢
  generalize decide (n < (2147483648 : Int)) = x6 at h ⊢
  cases x1 <;> cases x2 <;> cases x3 <;> cases x4 <;> cases x5 <;> cases x6 <;> first | exact i1 h | exact i2 h | exact i4 _ h
theorem enc4 (n : Int) : [(IntKind.wrap .u8 (IntKind.wrap .u64 n)), (IntKind.wrap .u8 (Int.fdiv (IntKind.wrap .u64 n) (2 ^ 8))), (IntKind.wrap .u8 (Int.fdiv (Int.fdiv (IntKind.wrap .u64 n) (2 ^ 8)) (2 ^ 8))), (IntKind.wrap .u8 (Int.fdiv (Int.fdiv (Int.fdiv (IntKind.wrap .u64 n) (2 ^ 8)) (2 ^ 8)) (2 ^ 8)))] = [b8 n 0, b8 n 8, b8 n 16, b8 n 24] := by
  unfold b8
  rw [fd0, nest _ 8 (u64_nn n), nest _ (8 + 8) (u64_nn n)]
theorem h15 (k : List Int → Int → Prop) {pa so : Int} {a1 a2 : Prop} {a3 : List Int → Prop} (i1 : k [] 11 → a1) (i2 : k [] 201 → a2) (i4 : ∀ u, k u 0 → a3 u) (h : k (stubV pa so) (stubC pa so)) : F15 pa so a1 a2 a3 := by
  have e4 := enc4 (stN pa so)
  unfold F15
  unfold stubV stubC stIn stOk at h
  unfold stN at h e4
  generalize decide (pa < (0 : Int)) = x1 at h ⊢
  generalize decide (pa > (140737488355328 : Int)) = x2 at h ⊢
  generalize decide (so < (0 : Int)) = x3 at h ⊢
  generalize decide (so > (140737488355328 : Int)) = x4 at h ⊢
  generalize IntKind.wrap .i64 ((IntKind.wrap .i64 (so - pa)) - (6 : Int)) = n at h e4 ⊢
  generalize decide (n ≥ (-2147483648 : Int)) = x5 at h ⊢
  generalize decide (n < (2147483648 : Int)) = x6 at h ⊢
  generalize (IntKind.wrap .u8 (IntKind.wrap .u64 n)) = y0 at e4 ⊢
  generalize (IntKind.wrap .u8 (Int.fdiv (Int.fdiv (Int.fdiv (IntKind.wrap .u64 n) (2 ^ 8)) (2 ^ 8)) (2 ^ 8))) = y3 at e4 ⊢
  generalize (IntKind.wrap .u8 (Int.fdiv (Int.fdiv (IntKind.wrap .u64 n) (2 ^ 8)) (2 ^ 8))) = y2 at e4 ⊢
  generalize (IntKind.wrap .u8 (Int.fdiv (IntKind.wrap .u64 n) (2 ^ 8))) = y1 at e4 ⊢
  simp only [List.cons.injEq, and_true] at e4
  obtain ⟨rfl, rfl, rfl, rfl⟩ := e4
  cases x1 <;> cases x2 <;> cases x3 <;> cases x4 <;> cases x5 <;> cases x6 <;> first | exact i1 h | exact i2 h | exact i4 _ h
def stP : Prim := fun args m K =>
  match args, m with
  | [.I .i64 pa, .I .i64 so], [] => K (.tup [.sl 0 0 none none, .I .i64 (stubC pa so)]) [⟨[.ints .u8 (stubV pa so)], 5, false, true⟩]
  | _, _ => False
theorem bare5 : (⟨[.ints .u8 []], 5, false, true⟩ : Blk).bare = true := by decide
theorem P14_ok : PrimOk Tryz.prog 14 stP := by
  intro args m K E w cargs hS ha h
  unfold stP at h
  split at h
  · rename_i pa so
    refine nk_use (et := 5) bare5 (cbody_use named C0_ok at14 (l := 0) rfl (LoopsOk.none _ _) (F14_ok pa so _) hS ha ?_)
    exact h14 (fun b c => K (.tup [.sl 0 0 none none, .I .i64 c]) [⟨[.ints .u8 b], 5, false, true⟩]) (fun h => nk_nil (m := []) h) (fun h => nk_nil (m := []) h) (fun u h => nk_id h) h
  · cases h
theorem P15_ok : PrimOk Tryz.prog 15 stP := by
  intro args m K E w cargs hS ha h
  unfold stP at h
  split at h
  · rename_i pa so
    refine nk_use (et := 5) bare5 (cbody_use named C0_ok at15 (l := 0) rfl (LoopsOk.none _ _) (F15_ok pa so _) hS ha ?_)
    exact h15 (fun b c => K (.tup [.sl 0 0 none none, .I .i64 c]) [⟨[.ints .u8 b], 5, false, true⟩]) (fun h => nk_nil (m := []) h) (fun h => nk_nil (m := []) h) (fun u h => nk_id h) h
  · cases h
/-! ### The reference's numbers -/
theorem enc30 (n : Int) : [(IntKind.wrap .u8 (IntKind.wrap .u64 n)), (IntKind.wrap .u8 (Int.fdiv (IntKind.wrap .u64 n) (2 ^ 8))), (IntKind.wrap .u8 (Int.fdiv (Int.fdiv (IntKind.wrap .u64 n) (2 ^ 8)) (2 ^ 8))), (IntKind.wrap .u8 (Int.fdiv (Int.fdiv (Int.fdiv (IntKind.wrap .u64 n) (2 ^ 8)) (2 ^ 8)) (2 ^ 8))), (IntKind.wrap .u8 (Int.fdiv (Int.fdiv (Int.fdiv (Int.fdiv (IntKind.wrap .u64 n) (2 ^ 8)) (2 ^ 8)) (2 ^ 8)) (2 ^ 8))), (IntKind.wrap .u8 (Int.fdiv (Int.fdiv (Int.fdiv (Int.fdiv (Int.fdiv (IntKind.wrap .u64 n) (2 ^ 8)) (2 ^ 8)) (2 ^ 8)) (2 ^ 8)) (2 ^ 8))), (IntKind.wrap .u8 (Int.fdiv (Int.fdiv (Int.fdiv (Int.fdiv (Int.fdiv (Int.fdiv (IntKind.wrap .u64 n) (2 ^ 8)) (2 ^ 8)) (2 ^ 8)) (2 ^ 8)) (2 ^ 8)) (2 ^ 8))), (IntKind.wrap .u8 (Int.fdiv (Int.fdiv (Int.fdiv (Int.fdiv (Int.fdiv (Int.fdiv (Int.fdiv (IntKind.wrap .u64 n) (2 ^ 8)) (2 ^ 8)) (2 ^ 8)) (2 ^ 8)) (2 ^ 8)) (2 ^ 8)) (2 ^ 8)))] = enc8 n := by
  unfold enc8 b8
  have h := u64_nn n
  rw [fd0, nest _ 8 h, nest _ (8 + 8) h, nest _ (8 + 8 + 8) h, nest _ (8 + 8 + 8 + 8) h, nest _ (8 + 8 + 8 + 8 + 8) h, nest _ (8 + 8 + 8 + 8 + 8 + 8) h]
theorem P30_ok : PrimOk Tryz.prog 30 P28 := by
  intro args m K E w cargs hS ha h
  unfold P28 at h
  split at h
  · rename_i n e
    split at h
    · rename_i he
      obtain rfl : e = 8 := by simpa using he
      refine cbody_use named C0_ok at30 (l := 0) rfl (LoopsOk.none _ _) (F30_ok n K) hS ha ?_
      unfold F30
      rw [enc30]
      exact h
    · cases h
  · cases h
theorem h31 {bs : List Int} {at' : Int} {k : Int → Prop} {e : Prop} (h : getS bs at' k) : F31 at' bs e k := by
  obtain ⟨pre, post, n, rfl, rfl, h1, h2, hs, hk⟩ := h
  have hl : (pre ++ (enc8 n ++ post)).length = pre.length + 8 + post.length := by simp [enc8]; omega
  have hs' : pre.length + 8 + post.length ≤ 1152921504606846976 := by rw [← hl]; exact hs
  have ei : ∀ i : Nat, i < 8 → IntKind.wrap .i64 (((pre.length : Nat) : Int) + (i : Int)) = ((pre.length + i : Nat) : Int) := fun i hi => by rw [w64 (by omega) (by omega)]; omega
  have e0 := ei 0 (by omega)
  have e1 := ei 1 (by omega)
  have e2 := ei 2 (by omega)
  have e3 := ei 3 (by omega)
  have e4 := ei 4 (by omega)
  have e5 := ei 5 (by omega)
  have e6 := ei 6 (by omega)
  have e7 := ei 7 (by omega)
  have g : ∀ i : Nat, i < 8 → List.getD (pre ++ (enc8 n ++ post)) (pre.length + i) 0 = (enc8 n).getD i 0 := fun i hi => by
    simp only [List.getD_eq_getElem?_getD]
    rw [List.getElem?_append_right (by omega), Nat.add_sub_cancel_left, List.getElem?_append_left (by simp [enc8]; omega)]
  unfold F31
  rw [w64 (z := (((List.length (pre ++ (enc8 n ++ post)) - (0 : Nat) : Nat)) : Int) - ((pre.length : Nat) : Int)) (by omega) (by omega)]
  rw [decide_eq_false (by omega : ¬ ((pre.length : Nat) : Int) < 0), decide_eq_false (by omega : ¬ ((pre.length : Nat) : Int) > (((List.length (pre ++ (enc8 n ++ post)) - (0 : Nat) : Nat)) : Int)), decide_eq_false (by omega : ¬ (8 : Int) > (((List.length (pre ++ (enc8 n ++ post)) - (0 : Nat) : Nat)) : Int) - ((pre.length : Nat) : Int))]
  simp only [Int.natCast_zero, Int.natCast_one, Int.cast_ofNat_Int] at e0 e1 e2 e3 e4 e5 e6 e7
  rw [e0, e1, e2, e3, e4, e5, e6, e7, inbI (by omega), inbI (by omega), inbI (by omega), inbI (by omega), inbI (by omega), inbI (by omega), inbI (by omega), inbI (by omega)]
  simp only [Int.toNat_natCast]
  rw [g 0 (by omega), g 1 (by omega), g 2 (by omega), g 3 (by omega), g 4 (by omega), g 5 (by omega), g 6 (by omega), g 7 (by omega)]
  simp only [cond_true, cond_false]
  have hn := num31_ok h1 h2
  unfold num31 at hn
  show k _
  refine Eq.mpr (congrArg k ?_) hk
  exact hn
theorem h31r {bs : List Int} {at' : Int} {k : Int → Prop} {e : Prop} (h : getS bs at' k) : F31r at' bs e k := h31 h
theorem P31_ok : PrimOk Tryz.prog 31 P36 := by
  intro args m K E w cargs hS ha h
  unfold P36 at h
  split at h
  · rename_i a e bs et ro
    split at h
    · rename_i hc
      simp only [Bool.and_eq_true, beq_iff_eq] at hc
      obtain ⟨rfl, h5⟩ := hc
      obtain rfl := Nat.eq_of_beq_eq_true h5
      cases ro with
      | false => exact cbody_use named C0_ok at31 (l := 1) rfl (LoopsOk.none _ _) (F31_ok a bs K) hS ha (h31 h)
      | true => exact cbody_use named C0_ok at31 (l := 1) rfl (LoopsOk.none _ _) (F31r_ok a bs K) hS ha (h31r h)
    · cases h
  · cases h
end Go.Proofs.YtgflbmcmkjkmmaaGreat.so
