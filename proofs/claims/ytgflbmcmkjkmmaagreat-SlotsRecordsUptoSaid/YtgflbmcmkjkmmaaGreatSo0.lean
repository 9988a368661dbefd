import Derived.Test.YtgflbmcmkjkmmaaGreatProg
import Derived.Test.YtgflbmcmkjkmmaaGreatAbExt
import Derived.Test.YtgflbmcmkjkmmaaGreatAbSee
import Derived.Test.YtgflbmcmkjkmmaaGreatAbLaw
import Derived.Test.YtgflbmcmkjkmmaaGreatSoThy
set_option linter.unusedVariables false
set_option linter.unusedSimpArgs false
set_option maxHeartbeats 4000000
set_option maxRecDepth 100000
namespace Go.Proofs.YtgflbmcmkjkmmaaGreat.so
open Go Go.Ab Go.So
theorem named : Named Tryz.prog := by
  have h : Tryz.prog.funcs.toList.all (fun fn => !(fn.name == "runtime.NumGoroutine")) = true := by kernel_rfl
  intro g fn hf
  have := List.all_eq_true.1 h fn (by rw [Array.getElem?_eq_some_iff] at hf; obtain ⟨h1, rfl⟩ := hf; simp)
  simpa using this
theorem stands {f : FuncId} {e : Array Value → Sem Value} (hf : Tryz.prog.funcs[f]? = some (fnOf Tryz.prog f)) (h1 : ((fnOf Tryz.prog f).name == "runtime.NumGoroutine") = false) (h2 : (fnOf Tryz.prog f).body.isNone = true)
    (h3 : Extern.findNext (fnOf Tryz.prog f) = none) (h4 : Extern.find (fnOf Tryz.prog f) = some e) : Stands Tryz.prog f e := ⟨_, hf, h1, h2, h3, h4⟩
def prims0 : Prims := fun f =>
  match Nat.beq f 183 with
  | true => some pIdx
  | false => none
theorem prims0_ok : PrimsOk Tryz.prog prims0 := by
  intro f g hg
  unfold prims0 at hg
  split at hg
  · rename_i hf
    obtain rfl := Nat.eq_of_beq_eq_true hf
    cases hg
    exact pIdx_ok (stands (by kernel_rfl) (by kernel_rfl) (by kernel_rfl) (by kernel_rfl) (by kernel_rfl))
  · cases hg
def C0 : CC := call Tryz.prog prims0 1000
theorem C0_ok : CallsOk Tryz.prog C0 := call_sound named prims0_ok 1000
theorem at18 : Tryz.prog.funcs[18]? = some (fnOf Tryz.prog 18) := by kernel_rfl
theorem live_run (K : V → Mem → Prop) : cbody Tryz.prog C0 (fun _ => none) 1000 (fnOf Tryz.prog 18) [] [] K = K (.B true) [] := by kernel_rfl
def P18 : Prim := fun args m K => seeNil args False (seeNil m False (K (.B true) []))
theorem P18_ok : PrimOk Tryz.prog 18 P18 := by
  intro args m K E w cargs hS ha h
  unfold P18 at h
  replace h := seeNil_use h
  rcases h with h | ⟨rfl, h⟩
  · exact h.elim
  replace h := seeNil_use h
  rcases h with h | ⟨rfl, h⟩
  · exact h.elim
  exact cbody_use named C0_ok at18 (l := 0) rfl (LoopsOk.none _ _) (live_run K) hS ha h
/-- How two records stand to each other: by their kinds, then by their places. -/
def c3 (a b : Int) : Int := bif decide (a < b) then -1 else (bif decide (a > b) then 1 else 0)
def cmpF (xa xt ya yt : Int) : Int := bif (xt == 8) then (bif (yt == 8) then c3 xa ya else -1) else (bif (yt == 8) then 1 else c3 xa ya)
theorem at23 : Tryz.prog.funcs[23]? = some (fnOf Tryz.prog 23) := by kernel_rfl
abbrev Y23 : Type := Int → Int → Int → Int → Int → Int → (Prop) → (Prop) → (Prop) → Prop
set_option maxHeartbeats 4000000 in
set_option maxRecDepth 100000 in
def F23  (xa : Int) (xt : Int) (xn : Int) (ya : Int) (yt : Int) (yn : Int) (k1 : Prop) (k2 : Prop) (k3 : Prop) : Prop :=
  (bif (xt == (8 : Int)) then (bif ((ya == ya) && ((xa == xa) && (((ya == ya) && ((yt == yt) && ((yn == yn) && true))) && true))) then (bif (yt == (8 : Int)) then (bif ((ya == ya) && ((xa == xa) && true)) then (bif ((ya == ya) && ((xa == xa) && true)) then (bif (xa != xa) then (bif (ya != ya) then (bif ((ya == ya) && ((xa == xa) && (((ya == ya) && ((yt == yt) && ((yn == yn) && true))) && (((xa == xa) && ((xt == xt) && ((xn == xn) && true))) && true)))) then (k1) else False) else (bif ((ya == ya) && ((xa == xa) && (((ya == ya) && ((yt == yt) && ((yn == yn) && true))) && (((xa == xa) && ((xt == xt) && ((xn == xn) && true))) && true)))) then (k2) else False)) else (bif (ya != ya) then (bif ((ya == ya) && ((xa == xa) && (((ya == ya) && ((yt == yt) && ((yn == yn) && true))) && (((xa == xa) && ((xt == xt) && ((xn == xn) && true))) && true)))) then (k3) else False) else (bif (decide (xa < ya)) then (bif ((ya == ya) && ((xa == xa) && (((ya == ya) && ((yt == yt) && ((yn == yn) && true))) && (((xa == xa) && ((xt == xt) && ((xn == xn) && true))) && true)))) then (k2) else False) else (bif (decide (xa > ya)) then (bif ((ya == ya) && ((xa == xa) && (((ya == ya) && ((yt == yt) && ((yn == yn) && true))) && (((xa == xa) && ((xt == xt) && ((xn == xn) && true))) && true)))) then (k3) else False) else (bif ((ya == ya) && ((xa == xa) && (((ya == ya) && ((yt == yt) && ((yn == yn) && true))) && (((xa == xa) && ((xt == xt) && ((xn == xn) && true))) && true)))) then (k1) else False))))) else False) else False) else (bif ((ya == ya) && ((xa == xa) && true)) then (bif ((ya == ya) && ((xa == xa) && true)) then (bif (xa != xa) then (bif (ya != ya) then (bif ((ya == ya) && ((xa == xa) && (((ya == ya) && ((yt == yt) && ((yn == yn) && true))) && (((xa == xa) && ((xt == xt) && ((xn == xn) && true))) && true)))) then (k2) else False) else (bif ((ya == ya) && ((xa == xa) && (((ya == ya) && ((yt == yt) && ((yn == yn) && true))) && (((xa == xa) && ((xt == xt) && ((xn == xn) && true))) && true)))) then (k2) else False)) else (bif (ya != ya) then (bif ((ya == ya) && ((xa == xa) && (((ya == ya) && ((yt == yt) && ((yn == yn) && true))) && (((xa == xa) && ((xt == xt) && ((xn == xn) && true))) && true)))) then (k2) else False) else (bif (decide (xa < ya)) then (bif ((ya == ya) && ((xa == xa) && (((ya == ya) && ((yt == yt) && ((yn == yn) && true))) && (((xa == xa) && ((xt == xt) && ((xn == xn) && true))) && true)))) then (k2) else False) else (bif (decide (xa > ya)) then (bif ((ya == ya) && ((xa == xa) && (((ya == ya) && ((yt == yt) && ((yn == yn) && true))) && (((xa == xa) && ((xt == xt) && ((xn == xn) && true))) && true)))) then (k2) else False) else (bif ((ya == ya) && ((xa == xa) && (((ya == ya) && ((yt == yt) && ((yn == yn) && true))) && (((xa == xa) && ((xt == xt) && ((xn == xn) && true))) && true)))) then (k2) else False))))) else False) else False)) else False) else (bif ((ya == ya) && ((xa == xa) && (((ya == ya) && ((yt == yt) && ((yn == yn) && true))) && true))) then (bif (yt == (8 : Int)) then (bif ((ya == ya) && ((xa == xa) && true)) then (bif ((ya == ya) && ((xa == xa) && true)) then (bif (xa != xa) then (bif (ya != ya) then (bif ((ya == ya) && ((xa == xa) && (((ya == ya) && ((yt == yt) && ((yn == yn) && true))) && (((xa == xa) && ((xt == xt) && ((xn == xn) && true))) && true)))) then (k3) else False) else (bif ((ya == ya) && ((xa == xa) && (((ya == ya) && ((yt == yt) && ((yn == yn) && true))) && (((xa == xa) && ((xt == xt) && ((xn == xn) && true))) && true)))) then (k3) else False)) else (bif (ya != ya) then (bif ((ya == ya) && ((xa == xa) && (((ya == ya) && ((yt == yt) && ((yn == yn) && true))) && (((xa == xa) && ((xt == xt) && ((xn == xn) && true))) && true)))) then (k3) else False) else (bif (decide (xa < ya)) then (bif ((ya == ya) && ((xa == xa) && (((ya == ya) && ((yt == yt) && ((yn == yn) && true))) && (((xa == xa) && ((xt == xt) && ((xn == xn) && true))) && true)))) then (k3) else False) else (bif (decide (xa > ya)) then (bif ((ya == ya) && ((xa == xa) && (((ya == ya) && ((yt == yt) && ((yn == yn) && true))) && (((xa == xa) && ((xt == xt) && ((xn == xn) && true))) && true)))) then (k3) else False) else (bif ((ya == ya) && ((xa == xa) && (((ya == ya) && ((yt == yt) && ((yn == yn) && true))) && (((xa == xa) && ((xt == xt) && ((xn == xn) && true))) && true)))) then (k3) else False))))) else False) else False) else (bif ((ya == ya) && ((xa == xa) && true)) then (bif ((ya == ya) && ((xa == xa) && true)) then (bif (xa != xa) then (bif (ya != ya) then (bif ((ya == ya) && ((xa == xa) && (((ya == ya) && ((yt == yt) && ((yn == yn) && true))) && (((xa == xa) && ((xt == xt) && ((xn == xn) && true))) && true)))) then (k1) else False) else (bif ((ya == ya) && ((xa == xa) && (((ya == ya) && ((yt == yt) && ((yn == yn) && true))) && (((xa == xa) && ((xt == xt) && ((xn == xn) && true))) && true)))) then (k2) else False)) else (bif (ya != ya) then (bif ((ya == ya) && ((xa == xa) && (((ya == ya) && ((yt == yt) && ((yn == yn) && true))) && (((xa == xa) && ((xt == xt) && ((xn == xn) && true))) && true)))) then (k3) else False) else (bif (decide (xa < ya)) then (bif ((ya == ya) && ((xa == xa) && (((ya == ya) && ((yt == yt) && ((yn == yn) && true))) && (((xa == xa) && ((xt == xt) && ((xn == xn) && true))) && true)))) then (k2) else False) else (bif (decide (xa > ya)) then (bif ((ya == ya) && ((xa == xa) && (((ya == ya) && ((yt == yt) && ((yn == yn) && true))) && (((xa == xa) && ((xt == xt) && ((xn == xn) && true))) && true)))) then (k3) else False) else (bif ((ya == ya) && ((xa == xa) && (((ya == ya) && ((yt == yt) && ((yn == yn) && true))) && (((xa == xa) && ((xt == xt) && ((xn == xn) && true))) && true)))) then (k1) else False))))) else False) else False)) else False))
theorem F23_ok  (xa : Int) (xt : Int) (xn : Int) (ya : Int) (yt : Int) (yn : Int) (K : V → Mem → Prop) : cbody Tryz.prog C0 (fun _ => none) 1000 (fnOf Tryz.prog 23) [(.agg [(.I .i64 xa), (.I .i64 xt), (.I .i64 xn)]), (.agg [(.I .i64 ya), (.I .i64 yt), (.I .i64 yn)]), (.ptr 0 (0 : Nat) 0)] [⟨[.vals [(.fn (.func 21) [] [])]], 54, false, false⟩] K =
    F23  xa xt xn ya yt yn (K (.I .i64 (0 : Int)) [⟨[.vals [(.fn (.func 21) [] [])]], 54, false, false⟩]) (K (.I .i64 (-1 : Int)) [⟨[.vals [(.fn (.func 21) [] [])]], 54, false, false⟩]) (K (.I .i64 (1 : Int)) [⟨[.vals [(.fn (.func 21) [] [])]], 54, false, false⟩]) := by kernel_rfl
theorem h23 (xa xt xn ya yt yn : Int) (k : Int → Prop) (h : k (cmpF xa xt ya yt)) : F23 xa xt xn ya yt yn (k (0)) (k (-1)) (k (1)) := by
  unfold F23
  unfold cmpF c3 at h
  simp only [beq_self_eq_true, bne_self_eq_false, Bool.and_true, Bool.and_self, cond_true, cond_false]
  cases h1 : (xt == 8) <;> cases h2 : (yt == 8) <;> simp only [h1, h2, cond_true, cond_false] at h ⊢
  · cases h3 : decide (xa < ya) <;> cases h4 : decide (xa > ya) <;> simp only [h3, h4, cond_true, cond_false] at h ⊢ <;> exact h
  · first | exact h | (cases h3 : decide (xa < ya) <;> cases h4 : decide (xa > ya) <;> simp only [h3, h4, cond_true, cond_false] at h ⊢ <;> exact h)
  · first | exact h | (cases h3 : decide (xa < ya) <;> cases h4 : decide (xa > ya) <;> simp only [h3, h4, cond_true, cond_false] at h ⊢ <;> exact h)
  · cases h3 : decide (xa < ya) <;> cases h4 : decide (xa > ya) <;> simp only [h3, h4, cond_true, cond_false] at h ⊢ <;> exact h
/-- The closure's variable: the function that ranks. -/
def box : Blk := ⟨[.vals [(.fn (.func 21) [] [])]], 54, false, false⟩
def isBox (b : Blk) : Bool :=
  match b with
  | ⟨[.vals [.fn (.func g) [] []]], e, false, false⟩ => Nat.beq g 21 && Nat.beq e 54
  | _ => false
theorem isBox_eq {b : Blk} (h : isBox b = true) : b = ⟨[.vals [(.fn (.func 21) [] [])]], 54, false, false⟩ := by
  unfold isBox at h
  split at h
  · rename_i g e
    simp only [Bool.and_eq_true] at h
    obtain rfl := Nat.eq_of_beq_eq_true h.1
    obtain rfl := Nat.eq_of_beq_eq_true h.2
    rfl
  · cases h
def P23 : Prim := fun args m K =>
  match args, m with
  | [.agg [.I .i64 xa, .I .i64 xt, .I .i64 xn], .agg [.I .i64 ya, .I .i64 yt, .I .i64 yn], .ptr 0 0 0], [b] => (match isBox b with | true => K (.I .i64 (cmpF xa xt ya yt)) [b] | false => False)
  | _, _ => False
theorem P23_ok : PrimOk Tryz.prog 23 P23 := by
  intro args m K E w cargs hS ha h
  unfold P23 at h
  split at h
  · rename_i xa xt xn ya yt yn b
    split at h
    · rename_i hb
      obtain rfl := isBox_eq hb
      exact cbody_use named C0_ok at23 (l := 1) rfl (LoopsOk.none _ _) (F23_ok xa xt xn ya yt yn K) hS ha (h23 xa xt xn ya yt yn (fun u => K (.I .i64 u) _) h)
    · cases h
  · cases h
def prims1 : Prims := fun f =>
  match Nat.beq f 23 with
  | true => some P23
  | false => prims0 f
theorem prims1_ok : PrimsOk Tryz.prog prims1 := by
  intro f g hg
  unfold prims1 at hg
  split at hg
  · rename_i hf
    obtain rfl := Nat.eq_of_beq_eq_true hf
    cases hg
    exact P23_ok
  · skip
    exact prims0_ok f g hg
def C1 : CC := call Tryz.prog prims1 1000
theorem C1_ok : CallsOk Tryz.prog C1 := call_sound named prims1_ok 1000

/-! ## Records -/
abbrev R := Int × Int × Int
def ltR (a b : R) : Bool := decide (cmpF a.1 a.2.1 b.1 b.2.1 < 0)
def rk (a : R) : Int := if a.2.1 = 8 then 0 else 1
theorem ltR_iff (a b : R) : ltR a b = true ↔ rk a < rk b ∨ (rk a = rk b ∧ a.1 < b.1) := by
  unfold ltR cmpF c3 rk
  have q : ∀ x : R, (x.2.1 = 8 ∧ (x.2.1 == 8) = true) ∨ (x.2.1 ≠ 8 ∧ (x.2.1 == 8) = false) := fun x => by by_cases h : x.2.1 = 8 <;> simp [h]
  have d : (a.1 < b.1 ∧ decide (a.1 < b.1) = true ∧ True ∧ decide (a.1 > b.1) = false) ∨ (¬ a.1 < b.1 ∧ decide (a.1 < b.1) = false ∧ ((a.1 > b.1 ∧ decide (a.1 > b.1) = true) ∨ (¬ a.1 > b.1 ∧ decide (a.1 > b.1) = false))) := by
    by_cases h : a.1 < b.1
    · exact .inl ⟨h, decide_eq_true h, trivial, decide_eq_false (by omega)⟩
    · refine .inr ⟨h, decide_eq_false h, ?_⟩
      by_cases k : a.1 > b.1
      · exact .inl ⟨k, decide_eq_true k⟩
      · exact .inr ⟨k, decide_eq_false k⟩
  rw [decide_eq_true_iff]
  rcases q a with ⟨a1, a2⟩ | ⟨a1, a2⟩ <;> rcases q b with ⟨b1, b2⟩ | ⟨b1, b2⟩ <;> rcases d with ⟨d1, d2, d3, d4⟩ | ⟨d1, d2, ⟨d3, d4⟩ | ⟨d3, d4⟩⟩ <;> simp only [a2, b2, d2, d4, cond_true, cond_false] <;> simp only [a1, b1, if_true, if_false] <;> first | omega | (simp; done) | (simp; omega) | (simp [d1]; done)
theorem ltR_not (a b : R) : ltR a b = false ↔ ¬ (rk a < rk b ∨ (rk a = rk b ∧ a.1 < b.1)) := by
  rw [← ltR_iff]; simp
theorem ordR : Ord ltR where
  irr a := by rw [ltR_not]; omega
  tr a b c h k := by rw [ltR_iff] at *; omega
  neg a b c h k := by rw [ltR_not] at *; omega
abbrev KK := List Int → List Int → List Int → Prop
def f1 (r : R) : Int := r.1
def f2 (r : R) : Int := r.2.1
def f3 (r : R) : Int := r.2.2
def put3 (k : KK) (rs : List R) : Prop := k (rs.map f1) (rs.map f2) (rs.map f3)
def is3 (rs : List R) (xs ts ns : List Int) : Prop := xs = rs.map f1 ∧ ts = rs.map f2 ∧ ns = rs.map f3
def small (n : Nat) : Prop := n ≤ 1152921504606846976
def insS (a b : Int) (xs ts ns : List Int) (k : KK) : Prop := ∃ p s q : List R, is3 (p ++ (s ++ q)) xs ts ns ∧ small (p ++ (s ++ q)).length ∧ a = p.length ∧ b = ((p.length + s.length : Nat) : Int) ∧ ∀ s', Srt ltR s' → Same ltR s s' → put3 k (p ++ (s' ++ q))
def swpS (a b n : Int) (xs ts ns : List Int) (k : KK) : Prop := ∃ p u m v q : List R, is3 (p ++ (u ++ (m ++ (v ++ q)))) xs ts ns ∧ small (p ++ (u ++ (m ++ (v ++ q)))).length ∧ a = p.length ∧ b = ((p.length + u.length + m.length : Nat) : Int) ∧ n = u.length ∧ v.length = u.length ∧ put3 k (p ++ (v ++ (m ++ (u ++ q))))
def rotS (a m b : Int) (xs ts ns : List Int) (k : KK) : Prop := ∃ p u v q : List R, is3 (p ++ (u ++ (v ++ q))) xs ts ns ∧ small (p ++ (u ++ (v ++ q))).length ∧ a = p.length ∧ m = ((p.length + u.length : Nat) : Int) ∧ b = ((p.length + u.length + v.length : Nat) : Int) ∧ u ≠ [] ∧ v ≠ [] ∧ put3 k (p ++ (v ++ (u ++ q)))
def mrgN (N : Nat) (a m b : Int) (xs ts ns : List Int) (k : KK) : Prop := ∃ p u v q : List R, is3 (p ++ (u ++ (v ++ q))) xs ts ns ∧ small (p ++ (u ++ (v ++ q))).length ∧ a = p.length ∧ m = ((p.length + u.length : Nat) : Int) ∧ b = ((p.length + u.length + v.length : Nat) : Int) ∧ u ≠ [] ∧ v ≠ [] ∧ u.length + v.length ≤ N ∧ Srt ltR u ∧ Srt ltR v ∧ ∀ s', Srt ltR s' → Same ltR (u ++ v) s' → put3 k (p ++ (s' ++ q))
def mrgS (a m b : Int) (xs ts ns : List Int) (k : KK) : Prop := ∃ N, mrgN N a m b xs ts ns k
def stbS (n : Int) (xs ts ns : List Int) (k : KK) : Prop := ∃ rs : List R, is3 rs xs ts ns ∧ small rs.length ∧ n = rs.length ∧ ∀ s', Srt ltR s' → Same ltR rs s' → put3 k s'
/-- Functions over the records' block, two or three places and the closure. -/
def okD (f e : Nat) (b : Blk) : Bool := Nat.beq f 23 && (Nat.beq e 47 && isBox b)
def p1 (g : Int → List Int → List Int → List Int → KK → Prop) : Prim := fun args m K =>
  match args, m with
  | [.sl 0 0 none none, .I .i64 a, .fn (.func f) [] [.ptr 1 0 0]], [⟨[.ints .i64 xs, .ints .i64 ts, .ints .i64 ns], e, false, false⟩, b] =>
    (match okD f e b with | true => g a xs ts ns (fun xs ts ns => K (.tup []) [⟨[.ints .i64 xs, .ints .i64 ts, .ints .i64 ns], e, false, false⟩, b]) | false => False)
  | _, _ => False
def p2 (g : Int → Int → List Int → List Int → List Int → KK → Prop) : Prim := fun args m K =>
  match args, m with
  | [.sl 0 0 none none, .I .i64 a, .I .i64 b', .fn (.func f) [] [.ptr 1 0 0]], [⟨[.ints .i64 xs, .ints .i64 ts, .ints .i64 ns], e, false, false⟩, b] =>
    (match okD f e b with | true => g a b' xs ts ns (fun xs ts ns => K (.tup []) [⟨[.ints .i64 xs, .ints .i64 ts, .ints .i64 ns], e, false, false⟩, b]) | false => False)
  | _, _ => False
def p3 (g : Int → Int → Int → List Int → List Int → List Int → KK → Prop) : Prim := fun args m K =>
  match args, m with
  | [.sl 0 0 none none, .I .i64 a, .I .i64 b', .I .i64 c, .fn (.func f) [] [.ptr 1 0 0]], [⟨[.ints .i64 xs, .ints .i64 ts, .ints .i64 ns], e, false, false⟩, b] =>
    (match okD f e b with | true => g a b' c xs ts ns (fun xs ts ns => K (.tup []) [⟨[.ints .i64 xs, .ints .i64 ts, .ints .i64 ns], e, false, false⟩, b]) | false => False)
  | _, _ => False
theorem okD_eq {f e : Nat} {b : Blk} (h : okD f e b = true) : f = 23 ∧ e = 47 ∧ b = ⟨[.vals [(.fn (.func 21) [] [])]], 54, false, false⟩ := by
  simp only [okD, Bool.and_eq_true] at h
  exact ⟨Nat.eq_of_beq_eq_true h.1, Nat.eq_of_beq_eq_true h.2.1, isBox_eq h.2.2⟩
/-! ## Columns -/
theorem getD_at (f : R → Int) (p : List R) (x : R) (q : List R) : List.getD ((p ++ x :: q).map f) p.length 0 = f x := by simp [List.getD_eq_getElem?_getD]
theorem set_at (f : R → Int) (p : List R) (x y : R) (q : List R) : List.set ((p ++ x :: q).map f) p.length (f y) = (p ++ y :: q).map f := by
  simp
theorem w64 {z : Int} (h1 : -9223372036854775808 ≤ z) (h2 : z ≤ 9223372036854775807) : IntKind.wrap .i64 z = z := by simp [IntKind.wrap, IntKind.bits, IntKind.signed]; omega
/-- The middle of two places. -/
theorem mid_eq {a b : Nat} (h : a + b ≤ 9223372036854775807) : IntKind.wrap .i64 (Int.fdiv (IntKind.wrap .u64 (IntKind.wrap .i64 ((a : Int) + (b : Int)))) (2 ^ 1)) = (((a + b) / 2 : Nat) : Int) := by
  rw [w64 (z := (a : Int) + (b : Int)) (by omega) (by omega)]
  have e1 : IntKind.wrap .u64 ((a : Int) + (b : Int)) = ((a + b : Nat) : Int) := by simp [IntKind.wrap, IntKind.bits, IntKind.signed]; omega
  rw [e1, Int.fdiv_eq_ediv_of_nonneg _ (by decide)]
  have e2 : ((a + b : Nat) : Int) / (2 ^ 1) = (((a + b) / 2 : Nat) : Int) := by simp
  rw [e2]
  exact w64 (by omega) (by omega)
end Go.Proofs.YtgflbmcmkjkmmaaGreat.so
