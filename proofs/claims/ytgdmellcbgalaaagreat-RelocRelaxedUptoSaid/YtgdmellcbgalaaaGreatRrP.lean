import Derived.Test.YtgdmellcbgalaaaGreatRrC0
import Derived.Test.YtgdmellcbgalaaaGreatRrC1
import Derived.Test.YtgdmellcbgalaaaGreatRrC2
import Derived.Test.YtgdmellcbgalaaaGreatRrC3
import Derived.Test.YtgdmellcbgalaaaGreatRrC4
import Derived.Test.YtgdmellcbgalaaaGreatRrC5
import Derived.Test.YtgdmellcbgalaaaGreatRrC6
import Derived.Test.YtgdmellcbgalaaaGreatRrC7
set_option linter.unusedVariables false
set_option linter.unusedSimpArgs false
set_option maxHeartbeats 4000000
set_option maxRecDepth 100000
namespace Go.Proofs.YtgdmellcbgalaaaGreat.rrx
open Go Go.Ab
/-- A REX, a ModRM, the register. -/
def tab : List (Int × Int × Int) := [(72, 5, 0), (72, 13, 1), (72, 21, 2), (72, 29, 3), (72, 37, 4), (72, 45, 5), (72, 53, 6), (72, 61, 7), (76, 5, 8), (76, 13, 9), (76, 21, 10), (76, 29, 11), (76, 37, 12), (76, 45, 13), (76, 53, 14), (76, 61, 15)]
def enc (x : Int × Int × Int) (op o : Int) : List Int := [x.1, op, x.2.1, b8 o 0, b8 o 8, b8 o 16, b8 o 24]
def tryF (ys : List Int) (k1 k2 : Int → Int → Prop) : Prop := ∃ x ∈ tab, ∃ (o : Int) (rest : List Int), -2147483648 ≤ o ∧ o < 2147483648 ∧ ((ys = enc x 139 o ++ rest ∧ k1 x.2.2 o) ∨ (ys = enc x 141 o ++ rest ∧ k2 x.2.2 o))
def wrG (v : V) (ys : List Int) (Q : Prop) : Prop := ∃ x ∈ tab, ∃ o : Int, -2147483648 ≤ o ∧ o < 2147483648 ∧ ((v = inst 1 x.2.2 o ∧ ys = enc x 139 o) ∨ (v = inst 2 x.2.2 o ∧ ys = enc x 141 o)) ∧ Q
def pTry : Prim := fun args m K =>
  match args with
  | [.sl k row none none] =>
    (match (m.getD k default).cols with
     | [.ints .u8 xs] => (match Nat.beq (m.getD k default).et 5 with | true => tryF (List.drop row xs) (fun r d => K (.tup [inst 1 r d, .I .i64 7, .I .i64 0]) m) (fun r d => K (.tup [inst 2 r d, .I .i64 7, .I .i64 0]) m) | false => False)
     | _ => False)
  | _ => False
def pWr : Prim := fun args m K =>
  match args with
  | [v, .sl k row (some n) _] =>
    (match (m.getD k default).cols with
     | [.ints .u8 xs] => (match Nat.beq (m.getD k default).et 5 with | true => wrG v (List.take n (List.drop row xs)) (K (.B true) m) | false => False)
     | _ => False)
  | _ => False
theorem blk_of {m : Mem} {k : Nat} {xs : List Int} (h : (m.getD k default).cols = [.ints .u8 xs]) (h5 : Nat.beq (m.getD k default).et 5 = true) : ∃ ro mv, m[k]? = some ⟨[.ints .u8 xs], 5, ro, mv⟩ := by
  rw [List.getD_eq_getElem?_getD] at h h5
  cases hm : m[k]? with
  | none => rw [hm] at h; cases h
  | some b =>
    rw [hm] at h h5
    obtain ⟨c, e, ro, mv⟩ := b
    have h5' := Nat.eq_of_beq_eq_true h5
    simp only [Option.getD_some] at h h5'
    subst h; subst h5'
    exact ⟨ro, mv, rfl⟩
theorem g104 {rx a b c p0 p1 p2 p3 : Int} {rest : List Int} {k : Int → Prop} (h : k (rd p0 p1 p2 p3)) : G104 rx (a :: b :: c :: p0 :: p1 :: p2 :: p3 :: rest) k := by
  have hl : (((List.length (a :: b :: c :: p0 :: p1 :: p2 :: p3 :: rest) - (0 : Nat) : Nat)) : Int) = (rest.length : Int) + 7 := by simp; omega
  unfold G104 F104
  rw [hl]
  rw [decide_eq_false (by omega : ¬ (3 : Int) ≥ (rest.length : Int) + 7), decide_eq_true (by omega : (3 : Int) < (rest.length : Int) + 7), decide_eq_false (by omega : ¬ (4 : Int) ≥ (rest.length : Int) + 7), decide_eq_true (by omega : (4 : Int) < (rest.length : Int) + 7), decide_eq_false (by omega : ¬ (5 : Int) ≥ (rest.length : Int) + 7), decide_eq_true (by omega : (5 : Int) < (rest.length : Int) + 7), decide_eq_false (by omega : ¬ (6 : Int) ≥ (rest.length : Int) + 7), decide_eq_true (by omega : (6 : Int) < (rest.length : Int) + 7)]
  simp only [cond_true, cond_false]
  exact h
theorem use_try {rx op md o1 r : Int} (sm : Int → Prop → Prop) (hsm : ∀ d Q, Q → sm d Q)
    (run : ∀ (f104 : Y104) (p0 p1 p2 p3 : Int) (rest : List Int) (K : V → Mem → Prop), cbodyD Tryz.prog (CN f104) (fun _ => none) 1000 (fnOf Tryz.prog 10) [.sl 0 0 none none] [⟨[.ints .u8 (rx :: op :: md :: p0 :: p1 :: p2 :: p3 :: rest)], 5, true, false⟩] K =
      read3 ((((List.length (rx :: op :: md :: p0 :: p1 :: p2 :: p3 :: rest)) - (0 : Nat)) : Nat) : Int) (f104 rx (rx :: op :: md :: p0 :: p1 :: p2 :: p3 :: rest) (fun d => sm d (K (.tup [inst o1 r d, .I .i64 7, .I .i64 0]) [⟨[.ints .u8 (rx :: op :: md :: p0 :: p1 :: p2 :: p3 :: rest)], 5, true, false⟩]))))
    {o : Int} {rest : List Int} (h1 : -2147483648 ≤ o) (h2 : o < 2147483648) {k row : Nat} {xs : List Int} {ro mv : Bool} {m : Mem} {E : Wh} {w : World} {cargs : Array Value} {K : V → Mem → Prop}
    (hS : Sim E m w) (ha : VsRel E [.sl k row none none] cargs.toList) (hm : m[k]? = some ⟨[.ints .u8 xs], 5, ro, mv⟩) (hy : List.drop row xs = rx :: op :: md :: b8 o 0 :: b8 o 8 :: b8 o 16 :: b8 o 24 :: rest) (hK : K (.tup [inst o1 r o, .I .i64 7, .I .i64 0]) m) :
    ((∃ fn, Tryz.prog.funcs[10]? = some fn ∧ fn.body.isSome = true) ∧ Calls Tryz.prog 10 cargs w (Ret K E m w)) ∨ ∃ cv w', (callFunc 10 cargs).run Tryz.prog w = .ok (.value cv) w' ∧ Ret K E m w (.returned cv) w' := by
  refine focus_call (P := Tryz.prog) (pre := []) (post := []) hS ha rfl rfl hm (fun E' hS' ha' => ?_)
  have hw : winL xs row none = rx :: op :: md :: b8 o 0 :: b8 o 8 :: b8 o 16 :: b8 o 24 :: rest := hy
  rw [hw] at hS' ⊢
  exact cbodyD_use named CN_ok at10 (l := 1) rfl (LoopsOk.none _ _) (run G104 _ _ _ _ _ _) hS' ha' (read3_of (by simp; omega) (g104 (by rw [rd_ok h1 h2]; exact hsm _ _ ⟨rfl, hK⟩)))
theorem use_wr {rx op md o1 r : Int}
    (run : ∀ (d p0 p1 p2 p3 : Int) (K : V → Mem → Prop), cbody Tryz.prog C0 (fun _ => none) 1000 (fnOf Tryz.prog 12) [inst o1 r d, .sl 0 0 none none] [⟨[.ints .u8 [rx, op, md, p0, p1, p2, p3]], 5, true, false⟩] K =
      wrF d rx op md p0 p1 p2 p3 (K (.B true) [⟨[.ints .u8 [rx, op, md, p0, p1, p2, p3]], 5, true, false⟩]) (K (.B false) [⟨[.ints .u8 [rx, op, md, p0, p1, p2, p3]], 5, true, false⟩]))
    {o : Int} (h1 : -2147483648 ≤ o) (h2 : o < 2147483648) {k row n : Nat} {cap : Option Nat} {xs : List Int} {ro mv : Bool} {m : Mem} {E : Wh} {w : World} {cargs : Array Value} {K : V → Mem → Prop}
    (hS : Sim E m w) (ha : VsRel E [inst o1 r o, .sl k row (some n) cap] cargs.toList) (hm : m[k]? = some ⟨[.ints .u8 xs], 5, ro, mv⟩) (hy : List.take n (List.drop row xs) = [rx, op, md, b8 o 0, b8 o 8, b8 o 16, b8 o 24]) (hK : K (.B true) m) :
    ((∃ fn, Tryz.prog.funcs[12]? = some fn ∧ fn.body.isSome = true) ∧ Calls Tryz.prog 12 cargs w (Ret K E m w)) ∨ ∃ cv w', (callFunc 12 cargs).run Tryz.prog w = .ok (.value cv) w' ∧ Ret K E m w (.returned cv) w' := by
  refine focus_call (P := Tryz.prog) (pre := [inst o1 r o]) (post := []) hS ha rfl rfl hm (fun E' hS' ha' => ?_)
  have hw : winL xs row (some n) = [rx, op, md, b8 o 0, b8 o 8, b8 o 16, b8 o 24] := hy
  rw [hw] at hS' ⊢
  refine cbody_use named C0_ok at12 (l := 1) rfl (LoopsOk.none _ _) (run _ _ _ _ _ _) hS' ha' ?_
  unfold wrF
  rw [decide_eq_true (show o ≥ -2147483648 from h1), decide_eq_true h2]
  simp only [beq_self_eq_true, Bool.and_true, Bool.not_true, cond_true, cond_false]
  exact ⟨rfl, hK⟩
theorem P10_ok : PrimOk Tryz.prog 10 pTry := by
  intro args m K E w cargs hS ha h
  unfold pTry at h
  split at h
  · rename_i k row
    split at h
    · rename_i xs hc
      split at h
      · rename_i h5
        obtain ⟨ro, mv, hm⟩ := blk_of hc h5
        obtain ⟨x, hx, o, rest, h1, h2, ⟨hy, hk⟩ | ⟨hy, hk⟩⟩ := h
        · simp only [tab, List.mem_cons, List.not_mem_nil, or_false] at hx
          rcases hx with rfl | rfl | rfl | rfl | rfl | rfl | rfl | rfl | rfl | rfl | rfl | rfl | rfl | rfl | rfl | rfl
          · exact use_try same4 (fun _ _ => same4_of) try_139_0 h1 h2 hS ha hm hy hk
          · exact use_try same4 (fun _ _ => same4_of) try_139_1 h1 h2 hS ha hm hy hk
          · exact use_try same4 (fun _ _ => same4_of) try_139_2 h1 h2 hS ha hm hy hk
          · exact use_try same4 (fun _ _ => same4_of) try_139_3 h1 h2 hS ha hm hy hk
          · exact use_try same4 (fun _ _ => same4_of) try_139_4 h1 h2 hS ha hm hy hk
          · exact use_try same4 (fun _ _ => same4_of) try_139_5 h1 h2 hS ha hm hy hk
          · exact use_try same4 (fun _ _ => same4_of) try_139_6 h1 h2 hS ha hm hy hk
          · exact use_try same4 (fun _ _ => same4_of) try_139_7 h1 h2 hS ha hm hy hk
          · exact use_try same4 (fun _ _ => same4_of) try_139_8 h1 h2 hS ha hm hy hk
          · exact use_try same4 (fun _ _ => same4_of) try_139_9 h1 h2 hS ha hm hy hk
          · exact use_try same4 (fun _ _ => same4_of) try_139_10 h1 h2 hS ha hm hy hk
          · exact use_try same4 (fun _ _ => same4_of) try_139_11 h1 h2 hS ha hm hy hk
          · exact use_try same4 (fun _ _ => same4_of) try_139_12 h1 h2 hS ha hm hy hk
          · exact use_try same4 (fun _ _ => same4_of) try_139_13 h1 h2 hS ha hm hy hk
          · exact use_try same4 (fun _ _ => same4_of) try_139_14 h1 h2 hS ha hm hy hk
          · exact use_try same4 (fun _ _ => same4_of) try_139_15 h1 h2 hS ha hm hy hk
        · simp only [tab, List.mem_cons, List.not_mem_nil, or_false] at hx
          rcases hx with rfl | rfl | rfl | rfl | rfl | rfl | rfl | rfl | rfl | rfl | rfl | rfl | rfl | rfl | rfl | rfl
          · exact use_try same5 (fun _ _ => same5_of) try_141_0 h1 h2 hS ha hm hy hk
          · exact use_try same5 (fun _ _ => same5_of) try_141_1 h1 h2 hS ha hm hy hk
          · exact use_try same5 (fun _ _ => same5_of) try_141_2 h1 h2 hS ha hm hy hk
          · exact use_try same5 (fun _ _ => same5_of) try_141_3 h1 h2 hS ha hm hy hk
          · exact use_try same5 (fun _ _ => same5_of) try_141_4 h1 h2 hS ha hm hy hk
          · exact use_try same5 (fun _ _ => same5_of) try_141_5 h1 h2 hS ha hm hy hk
          · exact use_try same5 (fun _ _ => same5_of) try_141_6 h1 h2 hS ha hm hy hk
          · exact use_try same5 (fun _ _ => same5_of) try_141_7 h1 h2 hS ha hm hy hk
          · exact use_try same5 (fun _ _ => same5_of) try_141_8 h1 h2 hS ha hm hy hk
          · exact use_try same5 (fun _ _ => same5_of) try_141_9 h1 h2 hS ha hm hy hk
          · exact use_try same5 (fun _ _ => same5_of) try_141_10 h1 h2 hS ha hm hy hk
          · exact use_try same5 (fun _ _ => same5_of) try_141_11 h1 h2 hS ha hm hy hk
          · exact use_try same5 (fun _ _ => same5_of) try_141_12 h1 h2 hS ha hm hy hk
          · exact use_try same5 (fun _ _ => same5_of) try_141_13 h1 h2 hS ha hm hy hk
          · exact use_try same5 (fun _ _ => same5_of) try_141_14 h1 h2 hS ha hm hy hk
          · exact use_try same5 (fun _ _ => same5_of) try_141_15 h1 h2 hS ha hm hy hk
      · cases h
    · cases h
  · cases h
theorem P12_ok : PrimOk Tryz.prog 12 pWr := by
  intro args m K E w cargs hS ha h
  unfold pWr at h
  split at h
  · rename_i v k row n cap
    split at h
    · rename_i xs hc
      split at h
      · rename_i h5
        obtain ⟨ro, mv, hm⟩ := blk_of hc h5
        obtain ⟨x, hx, o, h1, h2, ⟨hv, hy⟩ | ⟨hv, hy⟩, hk⟩ := h
        · subst hv
          simp only [tab, List.mem_cons, List.not_mem_nil, or_false] at hx
          rcases hx with rfl | rfl | rfl | rfl | rfl | rfl | rfl | rfl | rfl | rfl | rfl | rfl | rfl | rfl | rfl | rfl
          · exact use_wr wr_139_0 h1 h2 hS ha hm hy hk
          · exact use_wr wr_139_1 h1 h2 hS ha hm hy hk
          · exact use_wr wr_139_2 h1 h2 hS ha hm hy hk
          · exact use_wr wr_139_3 h1 h2 hS ha hm hy hk
          · exact use_wr wr_139_4 h1 h2 hS ha hm hy hk
          · exact use_wr wr_139_5 h1 h2 hS ha hm hy hk
          · exact use_wr wr_139_6 h1 h2 hS ha hm hy hk
          · exact use_wr wr_139_7 h1 h2 hS ha hm hy hk
          · exact use_wr wr_139_8 h1 h2 hS ha hm hy hk
          · exact use_wr wr_139_9 h1 h2 hS ha hm hy hk
          · exact use_wr wr_139_10 h1 h2 hS ha hm hy hk
          · exact use_wr wr_139_11 h1 h2 hS ha hm hy hk
          · exact use_wr wr_139_12 h1 h2 hS ha hm hy hk
          · exact use_wr wr_139_13 h1 h2 hS ha hm hy hk
          · exact use_wr wr_139_14 h1 h2 hS ha hm hy hk
          · exact use_wr wr_139_15 h1 h2 hS ha hm hy hk
        · subst hv
          simp only [tab, List.mem_cons, List.not_mem_nil, or_false] at hx
          rcases hx with rfl | rfl | rfl | rfl | rfl | rfl | rfl | rfl | rfl | rfl | rfl | rfl | rfl | rfl | rfl | rfl
          · exact use_wr wr_141_0 h1 h2 hS ha hm hy hk
          · exact use_wr wr_141_1 h1 h2 hS ha hm hy hk
          · exact use_wr wr_141_2 h1 h2 hS ha hm hy hk
          · exact use_wr wr_141_3 h1 h2 hS ha hm hy hk
          · exact use_wr wr_141_4 h1 h2 hS ha hm hy hk
          · exact use_wr wr_141_5 h1 h2 hS ha hm hy hk
          · exact use_wr wr_141_6 h1 h2 hS ha hm hy hk
          · exact use_wr wr_141_7 h1 h2 hS ha hm hy hk
          · exact use_wr wr_141_8 h1 h2 hS ha hm hy hk
          · exact use_wr wr_141_9 h1 h2 hS ha hm hy hk
          · exact use_wr wr_141_10 h1 h2 hS ha hm hy hk
          · exact use_wr wr_141_11 h1 h2 hS ha hm hy hk
          · exact use_wr wr_141_12 h1 h2 hS ha hm hy hk
          · exact use_wr wr_141_13 h1 h2 hS ha hm hy hk
          · exact use_wr wr_141_14 h1 h2 hS ha hm hy hk
          · exact use_wr wr_141_15 h1 h2 hS ha hm hy hk
      · cases h
    · cases h
  · cases h
end Go.Proofs.YtgdmellcbgalaaaGreat.rrx
