import Derived.Test.YtgdmellcbgalaaaGreatRrP
set_option linter.unusedVariables false
set_option linter.unusedSimpArgs false
set_option maxHeartbeats 4000000
set_option maxRecDepth 100000
namespace Go.Proofs.YtgdmellcbgalaaaGreat.rrx
open Go Go.Ab
def prims2 : Prims := fun f =>
  match Nat.beq f 10 with
  | true => some pTry
  | false =>
  match Nat.beq f 12 with
  | true => some pWr
  | false => prims0 f
theorem prims2_ok : PrimsOk Tryz.prog prims2 := by
  intro f g hg
  unfold prims2 at hg
  split at hg
  · rename_i hf
    obtain rfl := Nat.eq_of_beq_eq_true hf
    cases hg
    exact P10_ok
  · skip
    split at hg
    · rename_i hf
      obtain rfl := Nat.eq_of_beq_eq_true hf
      cases hg
      exact P12_ok
    · skip
      exact prims0_ok f g hg
def C2 : CC := callD Tryz.prog prims2 1000
theorem C2_ok : CallsOk Tryz.prog C2 := callD_sound named prims2_ok 1000
def oneX (xs : List Int) (n : Int) (ro : Bool) (K : V → Mem → Prop) : Prop :=
  (bif (decide (n < (0 : Int))) then (K (.tup [(.agg [(.I .i64 (0 : Int)), (.I .i64 (0 : Int)), (.I .i64 (0 : Int)), (.I .i64 (0 : Int)), (.I .i64 (0 : Int)), (.I .i64 (0 : Int)), (.I .i64 (0 : Int)), (.I .i64 (0 : Int)), (.B false), (.B false), (.I .i64 (0 : Int)), (.S ([] : List Int)), (.I .i64 (0 : Int)), (.I .i64 (0 : Int)), (.I .i64 (0 : Int)), (.I .i64 (0 : Int)), (.I .i64 (0 : Int)), (.I .i64 (0 : Int)), (.B false), (.B false), (.I .i64 (0 : Int)), (.S ([] : List Int)), (.I .i64 (0 : Int)), (.B false)]), (.I .i64 (0 : Int)), (.I .i64 (11 : Int))]) [⟨[.ints .u8 xs], 5, ro, false⟩]) else (bif (decide (n > ((((List.length xs) - (0 : Nat)) : Nat) : Int))) then (K (.tup [(.agg [(.I .i64 (0 : Int)), (.I .i64 (0 : Int)), (.I .i64 (0 : Int)), (.I .i64 (0 : Int)), (.I .i64 (0 : Int)), (.I .i64 (0 : Int)), (.I .i64 (0 : Int)), (.I .i64 (0 : Int)), (.B false), (.B false), (.I .i64 (0 : Int)), (.S ([] : List Int)), (.I .i64 (0 : Int)), (.I .i64 (0 : Int)), (.I .i64 (0 : Int)), (.I .i64 (0 : Int)), (.I .i64 (0 : Int)), (.I .i64 (0 : Int)), (.B false), (.B false), (.I .i64 (0 : Int)), (.S ([] : List Int)), (.I .i64 (0 : Int)), (.B false)]), (.I .i64 (0 : Int)), (.I .i64 (11 : Int))]) [⟨[.ints .u8 xs], 5, ro, false⟩]) else (bif ((decide ((0 : Int) ≤ n)) && (decide ((Int.toNat n) ≤ ((List.length xs) - (0 : Nat))))) then (tryF (List.drop (Int.toNat n) xs) (fun (r1 d1 : Int) => (bif ((decide ((0 : Int) ≤ (IntKind.wrap .i64 (n + (7 : Int))))) && ((decide ((Int.toNat (IntKind.wrap .i64 (n + (7 : Int)))) ≤ ((List.length xs) - (0 : Nat)))) && ((decide ((0 : Int) ≤ n)) && (decide (n ≤ (IntKind.wrap .i64 (n + (7 : Int)))))))) then (wrG (.agg [(.I .i64 (1 : Int)), (.I .i64 (8 : Int)), (.I .i64 (0 : Int)), (.I .i64 (1 : Int)), (.I .i64 r1), (.I .i64 (0 : Int)), (.I .i64 (0 : Int)), (.I .i64 (0 : Int)), (.B false), (.B false), (.I .i64 (0 : Int)), (.S ([] : List Int)), (.I .i64 (0 : Int)), (.I .i64 (3 : Int)), (.I .i64 (0 : Int)), (.I .i64 (-1 : Int)), (.I .i64 (-1 : Int)), (.I .i64 (0 : Int)), (.B true), (.B false), (.I .i64 d1), (.S ([] : List Int)), (.I .i64 (0 : Int)), (.B false)]) (List.take ((Int.toNat (IntKind.wrap .i64 (n + (7 : Int)))) - (Int.toNat n)) (List.drop (Int.toNat n) xs)) (K (.tup [(.agg [(.I .i64 (1 : Int)), (.I .i64 (8 : Int)), (.I .i64 (0 : Int)), (.I .i64 (1 : Int)), (.I .i64 r1), (.I .i64 (0 : Int)), (.I .i64 (0 : Int)), (.I .i64 (0 : Int)), (.B false), (.B false), (.I .i64 (0 : Int)), (.S ([] : List Int)), (.I .i64 (0 : Int)), (.I .i64 (3 : Int)), (.I .i64 (0 : Int)), (.I .i64 (-1 : Int)), (.I .i64 (-1 : Int)), (.I .i64 (0 : Int)), (.B true), (.B false), (.I .i64 d1), (.S ([] : List Int)), (.I .i64 (0 : Int)), (.B false)]), (.I .i64 (7 : Int)), (.I .i64 (0 : Int))]) [⟨[.ints .u8 xs], 5, ro, false⟩])) else False)) (fun (r2 d2 : Int) => (bif ((decide ((0 : Int) ≤ (IntKind.wrap .i64 (n + (7 : Int))))) && ((decide ((Int.toNat (IntKind.wrap .i64 (n + (7 : Int)))) ≤ ((List.length xs) - (0 : Nat)))) && ((decide ((0 : Int) ≤ n)) && (decide (n ≤ (IntKind.wrap .i64 (n + (7 : Int)))))))) then (wrG (.agg [(.I .i64 (2 : Int)), (.I .i64 (8 : Int)), (.I .i64 (0 : Int)), (.I .i64 (1 : Int)), (.I .i64 r2), (.I .i64 (0 : Int)), (.I .i64 (0 : Int)), (.I .i64 (0 : Int)), (.B false), (.B false), (.I .i64 (0 : Int)), (.S ([] : List Int)), (.I .i64 (0 : Int)), (.I .i64 (3 : Int)), (.I .i64 (0 : Int)), (.I .i64 (-1 : Int)), (.I .i64 (-1 : Int)), (.I .i64 (0 : Int)), (.B true), (.B false), (.I .i64 d2), (.S ([] : List Int)), (.I .i64 (0 : Int)), (.B false)]) (List.take ((Int.toNat (IntKind.wrap .i64 (n + (7 : Int)))) - (Int.toNat n)) (List.drop (Int.toNat n) xs)) (K (.tup [(.agg [(.I .i64 (2 : Int)), (.I .i64 (8 : Int)), (.I .i64 (0 : Int)), (.I .i64 (1 : Int)), (.I .i64 r2), (.I .i64 (0 : Int)), (.I .i64 (0 : Int)), (.I .i64 (0 : Int)), (.B false), (.B false), (.I .i64 (0 : Int)), (.S ([] : List Int)), (.I .i64 (0 : Int)), (.I .i64 (3 : Int)), (.I .i64 (0 : Int)), (.I .i64 (-1 : Int)), (.I .i64 (-1 : Int)), (.I .i64 (0 : Int)), (.B true), (.B false), (.I .i64 d2), (.S ([] : List Int)), (.I .i64 (0 : Int)), (.B false)]), (.I .i64 (7 : Int)), (.I .i64 (0 : Int))]) [⟨[.ints .u8 xs], 5, ro, false⟩])) else False))) else False)))
theorem one_run (xs : List Int) (n : Int) (ro : Bool) (K : V → Mem → Prop) : cbody Tryz.prog C2 (fun _ => none) 1000 (fnOf Tryz.prog 6) [.sl 0 0 none none, .I .i64 n] [⟨[.ints .u8 xs], 5, ro, false⟩] K = oneX xs n ro K := by kernel_rfl
def oneF (xs : List Int) (n : Int) (k1 k2 : Int → Int → Prop) : Prop := ∃ x ∈ tab, ∃ (o : Int) (pre rest : List Int), -2147483648 ≤ o ∧ o < 2147483648 ∧ n = pre.length ∧ ((xs = pre ++ (enc x 139 o ++ rest) ∧ k1 x.2.2 o) ∨ (xs = pre ++ (enc x 141 o ++ rest) ∧ k2 x.2.2 o))
theorem one_of {xs : List Int} {n : Int} {ro : Bool} {K : V → Mem → Prop} (hl : xs.length ≤ 9223372036854775807) (h : oneF xs n (fun r d => K (.tup [inst 1 r d, .I .i64 7, .I .i64 0]) [⟨[.ints .u8 xs], 5, ro, false⟩]) (fun r d => K (.tup [inst 2 r d, .I .i64 7, .I .i64 0]) [⟨[.ints .u8 xs], 5, ro, false⟩])) : oneX xs n ro K := by
  obtain ⟨x, hx, o, pre, rest, h1, h2, rfl, h⟩ := h
  have hlen : xs.length = pre.length + (7 + rest.length) := by rcases h with ⟨rfl, _⟩ | ⟨rfl, _⟩ <;> simp [enc] <;> omega
  have hd : ∀ op, xs = pre ++ (enc x op o ++ rest) → List.drop (Int.toNat (pre.length : Int)) xs = enc x op o ++ rest := fun op e => by rw [e, Int.toNat_natCast]; simp
  have ht : ∀ op, List.take (Int.toNat (IntKind.wrap .i64 ((pre.length : Int) + 7)) - Int.toNat (pre.length : Int)) (enc x op o ++ rest) = enc x op o := fun op => by
    have e : IntKind.wrap .i64 ((pre.length : Int) + 7) = ((pre.length + 7 : Nat) : Int) := by simp [IntKind.wrap, IntKind.bits, IntKind.signed]; omega
    rw [e, Int.toNat_natCast, Int.toNat_natCast, Nat.add_sub_cancel_left]
    rfl
  have ew : IntKind.wrap .i64 ((pre.length : Int) + 7) = ((pre.length + 7 : Nat) : Int) := by simp [IntKind.wrap, IntKind.bits, IntKind.signed]; omega
  unfold oneX
  rw [decide_eq_false (by omega : ¬ (pre.length : Int) < 0), decide_eq_false (by omega : ¬ (pre.length : Int) > ((((List.length xs) - (0 : Nat)) : Nat) : Int)), decide_eq_true (by omega : (0 : Int) ≤ (pre.length : Int)), decide_eq_true (by omega : Int.toNat (pre.length : Int) ≤ List.length xs - 0),
    decide_eq_true (by rw [ew]; omega : (0 : Int) ≤ IntKind.wrap .i64 ((pre.length : Int) + 7)), decide_eq_true (by rw [ew]; omega : Int.toNat (IntKind.wrap .i64 ((pre.length : Int) + 7)) ≤ List.length xs - 0), decide_eq_true (by rw [ew]; omega : (pre.length : Int) ≤ IntKind.wrap .i64 ((pre.length : Int) + 7))]
  simp only [Bool.and_self, cond_true, cond_false]
  refine ⟨x, hx, o, rest, h1, h2, ?_⟩
  rcases h with ⟨e, hk⟩ | ⟨e, hk⟩
  · refine .inl ⟨hd _ e, x, hx, o, h1, h2, .inl ⟨rfl, ?_⟩, hk⟩
    rw [hd _ e]; exact ht _
  · refine .inr ⟨hd _ e, x, hx, o, h1, h2, .inr ⟨rfl, ?_⟩, hk⟩
    rw [hd _ e]; exact ht _
def pOne : Prim := fun args m K =>
  match args, m with
  | [.sl 0 0 none none, .I .i64 n], [⟨[.ints .u8 xs], et, ro, false⟩] =>
    (match Nat.beq et 5 with | true => oneF xs n (fun r d => K (.tup [inst 1 r d, .I .i64 7, .I .i64 0]) [⟨[.ints .u8 xs], 5, ro, false⟩]) (fun r d => K (.tup [inst 2 r d, .I .i64 7, .I .i64 0]) [⟨[.ints .u8 xs], 5, ro, false⟩]) | false => False)
  | _, _ => False
theorem P6_ok : PrimOk Tryz.prog 6 pOne := by
  intro args m K E w cargs hS ha h
  unfold pOne at h
  split at h
  · rename_i n xs et ro
    split at h
    · rename_i h5
      obtain rfl := Nat.eq_of_beq_eq_true h5
      have hl : xs.length ≤ 9223372036854775807 := by
        simp only [VsRel, VRel] at ha
        obtain ⟨c, cs, _, ⟨e, a, q, hE, _⟩, _⟩ := ha
        obtain ⟨b, hb, hR⟩ := hS.blk 0 e hE
        simp at hb; subst hb
        have h1 : e.rows = xs.length := hR.rows
        have h2 := hR.room
        have h3 := hR.max
        have h4 : maxLen ≤ 9223372036854775807 := by decide
        omega
      exact cbody_use named C2_ok at6 (l := 1) rfl (LoopsOk.none _ _) (one_run xs n ro K) hS ha (one_of hl h)
    · cases h
  · cases h
def prims3 : Prims := fun f =>
  match Nat.beq f 5 with
  | true => some P5
  | false =>
  match Nat.beq f 6 with
  | true => some pOne
  | false => prims0 f
theorem prims3_ok : PrimsOk Tryz.prog prims3 := by
  intro f g hg
  unfold prims3 at hg
  split at hg
  · rename_i hf
    obtain rfl := Nat.eq_of_beq_eq_true hf
    cases hg
    exact P5_ok
  · skip
    split at hg
    · rename_i hf
      obtain rfl := Nat.eq_of_beq_eq_true hf
      cases hg
      exact P6_ok
    · skip
      exact prims0_ok f g hg
def C3 : CC := callD Tryz.prog prims3 1000
theorem C3_ok : CallsOk Tryz.prog C3 := callD_sound named prims3_ok 1000
def lawX (xs : List Int) (n : Int) (kt kf : Prop) : Prop :=
  (bif ((decide ((((0 : Nat) + ((List.length xs) - (0 : Nat))) * (1 : Nat)) ≤ (140737488355328 : Nat))) && (decide (((0 : Nat) + ((List.length xs) - (0 : Nat))) ≤ (140737488355328 : Nat)))) then (bif (decide (n < (3 : Int))) then kt else (bif (decide (n > (IntKind.wrap .i64 (((((List.length xs) - (0 : Nat)) : Nat) : Int) - (4 : Int))))) then kt else (bif ((decide ((0 : Int) ≤ (IntKind.wrap .i64 (n - (2 : Int))))) && (decide ((IntKind.wrap .i64 (n - (2 : Int))) < ((((List.length xs) - (0 : Nat)) : Nat) : Int)))) then (bif ((List.getD xs (Int.toNat (IntKind.wrap .i64 (n - (2 : Int)))) (0 : Int)) != (139 : Int)) then kt else (bif ((decide ((0 : Int) ≤ (IntKind.wrap .i64 (n - (1 : Int))))) && (decide ((IntKind.wrap .i64 (n - (1 : Int))) < ((((List.length xs) - (0 : Nat)) : Nat) : Int)))) then (bif ((ibits .and .u8 (List.getD xs (Int.toNat (IntKind.wrap .i64 (n - (1 : Int)))) (0 : Int)) (199 : Int)) != (5 : Int)) then kt else (bif ((decide ((0 : Int) ≤ (IntKind.wrap .i64 (n - (3 : Int))))) && (decide ((IntKind.wrap .i64 (n - (3 : Int))) < ((((List.length xs) - (0 : Nat)) : Nat) : Int)))) then (bif ((List.getD xs (Int.toNat (IntKind.wrap .i64 (n - (3 : Int)))) (0 : Int)) != (72 : Int)) then (bif ((decide ((0 : Int) ≤ (IntKind.wrap .i64 (n - (3 : Int))))) && (decide ((IntKind.wrap .i64 (n - (3 : Int))) < ((((List.length xs) - (0 : Nat)) : Nat) : Int)))) then (bif ((List.getD xs (Int.toNat (IntKind.wrap .i64 (n - (3 : Int)))) (0 : Int)) != (76 : Int)) then kt else (bif ((decide ((((List.length xs) - (0 : Nat)) * (1 : Nat)) ≤ (140737488355328 : Nat))) && (decide (((List.length xs) - (0 : Nat)) ≤ (140737488355328 : Nat)))) then (bif ((decide ((0 : Int) ≤ (IntKind.wrap .i64 (n - (2 : Int))))) && (decide ((IntKind.wrap .i64 (n - (2 : Int))) < ((((List.length xs) - (0 : Nat)) : Nat) : Int)))) then (bif (decide (n < (3 : Int))) then kf else (bif (decide ((IntKind.wrap .i64 (n + (4 : Int))) > ((((List.length xs) - (0 : Nat)) : Nat) : Int))) then kf else (bif (((((List.length (List.set xs (Int.toNat (IntKind.wrap .i64 (n - (2 : Int)))) (141 : Int))) - (0 : Nat)) : Nat) : Int) != ((((List.length xs) - (0 : Nat)) : Nat) : Int)) then kf else (oneF xs (IntKind.wrap .i64 (n - (3 : Int))) (fun (r3 d3 : Int) => (oneF (List.set xs (Int.toNat (IntKind.wrap .i64 (n - (2 : Int)))) (141 : Int)) (IntKind.wrap .i64 (n - (3 : Int))) (fun (r4 d4 : Int) => kf) (fun (r5 d5 : Int) => (bif (((r3 == r5) && true) && (((d3 == d5) && true) && true)) then kt else kf)))) (fun (r6 d6 : Int) => (oneF (List.set xs (Int.toNat (IntKind.wrap .i64 (n - (2 : Int)))) (141 : Int)) (IntKind.wrap .i64 (n - (3 : Int))) (fun (r7 d7 : Int) => kf) (fun (r8 d8 : Int) => kf))))))) else False) else False)) else False) else (bif ((decide ((((List.length xs) - (0 : Nat)) * (1 : Nat)) ≤ (140737488355328 : Nat))) && (decide (((List.length xs) - (0 : Nat)) ≤ (140737488355328 : Nat)))) then (bif ((decide ((0 : Int) ≤ (IntKind.wrap .i64 (n - (2 : Int))))) && (decide ((IntKind.wrap .i64 (n - (2 : Int))) < ((((List.length xs) - (0 : Nat)) : Nat) : Int)))) then (bif (decide (n < (3 : Int))) then kf else (bif (decide ((IntKind.wrap .i64 (n + (4 : Int))) > ((((List.length xs) - (0 : Nat)) : Nat) : Int))) then kf else (bif (((((List.length (List.set xs (Int.toNat (IntKind.wrap .i64 (n - (2 : Int)))) (141 : Int))) - (0 : Nat)) : Nat) : Int) != ((((List.length xs) - (0 : Nat)) : Nat) : Int)) then kf else (oneF xs (IntKind.wrap .i64 (n - (3 : Int))) (fun (r9 d9 : Int) => (oneF (List.set xs (Int.toNat (IntKind.wrap .i64 (n - (2 : Int)))) (141 : Int)) (IntKind.wrap .i64 (n - (3 : Int))) (fun (r10 d10 : Int) => kf) (fun (r11 d11 : Int) => (bif (((r9 == r11) && true) && (((d9 == d11) && true) && true)) then kt else kf)))) (fun (r12 d12 : Int) => (oneF (List.set xs (Int.toNat (IntKind.wrap .i64 (n - (2 : Int)))) (141 : Int)) (IntKind.wrap .i64 (n - (3 : Int))) (fun (r13 d13 : Int) => kf) (fun (r14 d14 : Int) => kf))))))) else False) else False)) else False)) else False)) else False))) else False)
theorem law_run (xs : List Int) (n : Int) (K : V → Mem → Prop) : cbody Tryz.prog C3 (fun _ => none) 1000 (fnOf Tryz.prog 3) [.sl 0 0 none none, .I .i64 n] [⟨[.ints .u8 xs], 5, true, false⟩] K = lawX xs n (K (.B true) [⟨[.ints .u8 xs], 5, true, false⟩]) (K (.B false) [⟨[.ints .u8 xs], 5, true, false⟩]) := by kernel_rfl
end Go.Proofs.YtgdmellcbgalaaaGreat.rrx
