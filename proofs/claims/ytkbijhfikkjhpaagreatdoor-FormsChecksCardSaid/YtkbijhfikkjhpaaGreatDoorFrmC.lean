/- Law 03: what the operands of instructions may be, as plain functions. -/
import Derived.Test.YtkbijhfikkjhpaaGreatDoorAbSee
import Derived.Test.YtkbijhfikkjhpaaGreatDoorAbExt
import Derived.Test.YtkbijhfikkjhpaaGreatDoorFcA
set_option linter.unusedVariables false
set_option linter.unusedSimpArgs false
namespace Go.Proofs.YtkbijhfikkjhpaaGreatDoor.frm
open Go Go.Ab
def badC (c : Int) : Bool := decide (c < 33) || decide (c > 126) || ([40, 41, 44, 64, 36, 37, 42, 35, 59, 58, 34, 39] : List Int).contains c
def nameB (w : List Int) : Bool := decide (1 ≤ w.length) && decide (w.length ≤ 255) && w.all (fun c => !badC c)
def wideB (n : Int) : Bool := decide (n ≥ -2147483648) && decide (n < 2147483648)
def regB (k r b x s : Int) (p f : Bool) (n : Int) (w : List Int) (m : Int) : Bool :=
  k == 1 && b == 0 && x == 0 && s == 0 && !p && !f && n == 0 && w == [] && m == 0 && decide (0 ≤ r) && decide (r ≤ 15)
def immB (k r b x s : Int) (p f : Bool) (n : Int) (w : List Int) (m : Int) : Bool :=
  k == 2 && r == 0 && b == 0 && x == 0 && s == 0 && !p && !f && w == [] && m == 0
def noneB (k r b x s : Int) (p f : Bool) (n : Int) (w : List Int) (m : Int) : Bool :=
  k == 0 && r == 0 && b == 0 && x == 0 && s == 0 && !p && !f && n == 0 && w == [] && m == 0
def memB (k r b x s : Int) (p f : Bool) (n : Int) (w : List Int) (m : Int) : Bool :=
  k == 3 && wideB n && r == 0 &&
  (bif p then b == -1 && x == -1 && s == 0 && !f && (bif w == [] then m == 0 else nameB w && (m == 0 || ((m == 2 || m == 3) && n == 0)))
   else bif f then b == -1 && x == -1 && s == 0 && (bif w == [] then m == 0 else nameB w && m == 4)
   else decide (0 ≤ b) && decide (b ≤ 15) && (bif w == [] then m == 0 else nameB w && (m == 4 || m == 5)) &&
     (bif x == -1 then s == 0 else decide (0 ≤ x) && decide (x ≤ 15) && x != 4 && (s == 1 || s == 2 || s == 4 || s == 8)))
def tgtB (k r b x s : Int) (p f : Bool) (n : Int) (w : List Int) (m : Int) : Bool :=
  k == 4 && r == 0 && b == 0 && x == 0 && s == 0 && !p && !f && (bif w == [] then m == 0 && wideB n else n == 0 && nameB w && (m == 0 || m == 1))
def rmB (k r b x s : Int) (p f : Bool) (n : Int) (w : List Int) (m : Int) : Bool := regB k r b x s p f n w m || memB k r b x s p f n w m
theorem wid {x : Int} (h1 : -9223372036854775808 ≤ x) (h2 : x ≤ 9223372036854775807) : IntKind.wrap .i64 x = x := by
  simp [IntKind.wrap, IntKind.bits, IntKind.signed]; omega
theorem dt {p : Prop} [inst : Decidable p] (h : p) : decide p = true := decide_eq_true h
theorem df {p : Prop} [inst : Decidable p] (h : ¬ p) : decide p = false := decide_eq_false h
theorem cond_ind {c : Bool} {a b : Prop} (h1 : c = true → a) (h2 : c = false → b) : (bif c then a else b) := by cases c; exact h2 rfl; exact h1 rfl
theorem idxF_ge : ∀ (s : List Int) (c n : Int), 0 ≤ n → decide (idxF s c n ≥ 0) = s.contains c
  | [], c, n, _ => by simp [idxF]
  | x :: s, c, n, h => by
    have ih := idxF_ge s c (n + 1) (by omega)
    unfold idxF
    by_cases hx : x = c
    · subst hx; simp [h]
    · have h1 : (x == c) = false := by simpa using hx
      have h2 : ¬ c = x := fun hh => hx hh.symm
      rw [h1]
      simp only [ih, List.contains_cons]
      simp [h2]
abbrev insA (op isz ico : Int) (tk tr tb tx ts : Int) (tp tf : Bool) (tn : Int) (tw : List Int) (tm : Int) (fk fr fb fx fs : Int) (fp ff : Bool) (fn : Int) (fw : List Int) (fm : Int) (sh : Bool) : V := .agg [(.I .i64 op), (.I .i64 isz), (.I .i64 ico), (.I .i64 tk), (.I .i64 tr), (.I .i64 tb), (.I .i64 tx), (.I .i64 ts), (.B tp), (.B tf), (.I .i64 tn), (.S tw), (.I .i64 tm), (.I .i64 fk), (.I .i64 fr), (.I .i64 fb), (.I .i64 fx), (.I .i64 fs), (.B fp), (.B ff), (.I .i64 fn), (.S fw), (.I .i64 fm), (.B sh)]
end Go.Proofs.YtkbijhfikkjhpaaGreatDoor.frm
set_option linter.unusedVariables false
set_option linter.unusedSimpArgs false
namespace Go.Proofs.YtkbijhfikkjhpaaGreatDoor.frm
open Go Go.Ab
def fitB (n z : Int) : Bool :=
  bif z == 1 then decide (n ≥ -128) && decide (n ≤ 255) else bif z == 4 then decide (n ≥ -2147483648) && decide (n < 4294967296) else wideB n
def sizeB (op z : Int) : Bool :=
  bif op == 2 || op == 12 || op == 28 || op == 29 || op == 30 || op == 31 then z == 4 || z == 8
  else bif op == 20 || op == 21 || op == 22 || op == 23 || op == 24 then z == 8
  else bif op == 27 then z == 1
  else bif op == 25 || op == 26 || op == 32 || op == 33 || op == 34 || op == 35 then z == 0
  else z == 1 || z == 4 || z == 8
def condB (op c : Int) : Bool := bif op == 24 || op == 27 || op == 28 then decide (0 ≤ c) && decide (c ≤ 15) else c == 0
/-- 'r', 'm', 'i', 'o', 'g': register, memory, number, none, target; of 'To' (t) and 'From' (f). -/
def opsB (op z : Int) (rt mt nt gt rf mf imf nf ff tw0 sh : Bool) (fr fn tn : Int) : Bool :=
  let rmt := rt || mt
  let rmf := rf || mf
  let sum := rmt && (rf || imf && fitB fn z) || rt && mf
  let near := nf && gt && (!sh || !tw0 || decide (tn ≥ -128) && decide (tn ≤ 127))
  bif op == 1 then sum || z == 8 && rt && imf
  else bif op == 2 then rt && mf && !ff
  else bif op == 11 then rmt && (rf || imf && fitB fn z)
  else bif op == 12 || op == 28 || op == 29 || op == 30 then rt && rmf
  else bif op == 13 || op == 14 || op == 15 || op == 16 || op == 21 || op == 27 then rmt && nf
  else bif op == 17 || op == 18 || op == 19 then rmt && (rf && fr == 1 || imf && decide (0 ≤ fn) && decide (fn ≤ (bif z == 8 then 63 else 31)))
  else bif op == 20 then nt && (rmf || imf && wideB fn)
  else bif op == 22 then !sh && (near || rmt && nf)
  else bif op == 23 then near || !sh && rmt && nf
  else bif op == 24 then near
  else bif op == 25 || op == 26 || op == 32 || op == 33 || op == 34 || op == 35 then nt && nf
  else bif op == 31 then rmt && rf
  else sum
def validB (op z c : Int) (tk tr tb tx ts : Int) (tp tf : Bool) (tn : Int) (tw : List Int) (tm : Int) (fk fr fb fx fs : Int) (fp ff : Bool) (fn : Int) (fw : List Int) (fm : Int) (sh : Bool) : Bool :=
  decide (1 ≤ op) && decide (op ≤ 35) && sizeB op z && condB op c && (!sh || op == 23 || op == 24) &&
  opsB op z (regB tk tr tb tx ts tp tf tn tw tm) (memB tk tr tb tx ts tp tf tn tw tm) (noneB tk tr tb tx ts tp tf tn tw tm) (tgtB tk tr tb tx ts tp tf tn tw tm)
    (regB fk fr fb fx fs fp ff fn fw fm) (memB fk fr fb fx fs fp ff fn fw fm) (immB fk fr fb fx fs fp ff fn fw fm) (noneB fk fr fb fx fs fp ff fn fw fm) ff (tw == []) sh fr fn tn
def chkE (op z c : Int) (tk tr tb tx ts : Int) (tp tf : Bool) (tn : Int) (tw : List Int) (tm : Int) (fk fr fb fx fs : Int) (fp ff : Bool) (fn : Int) (fw : List Int) (fm : Int) (sh : Bool) : Int :=
  bif validB op z c tk tr tb tx ts tp tf tn tw tm fk fr fb fx fs fp ff fn fw fm sh then 0 else 30
theorem chkE_out {op z c : Int} {tk tr tb tx ts : Int} {tp tf : Bool} {tn : Int} {tw : List Int} {tm : Int} {fk fr fb fx fs : Int} {fp ff : Bool} {fn : Int} {fw : List Int} {fm : Int} {sh : Bool} (h : op < 1 ∨ op > 35) :
    chkE op z c tk tr tb tx ts tp tf tn tw tm fk fr fb fx fs fp ff fn fw fm sh = 30 := by
  unfold chkE validB
  rcases h with h | h
  · rw [df (show ¬ 1 ≤ op by omega)]; rfl
  · rw [df (show ¬ op ≤ 35 by omega), Bool.and_false]; rfl
/-- No two kinds at once. -/
theorem kinds (k r b x s : Int) (p f : Bool) (n : Int) (w : List Int) (m : Int) :
    (regB k r b x s p f n w m && memB k r b x s p f n w m) = false ∧ (regB k r b x s p f n w m && immB k r b x s p f n w m) = false ∧ (regB k r b x s p f n w m && noneB k r b x s p f n w m) = false ∧
    (regB k r b x s p f n w m && tgtB k r b x s p f n w m) = false ∧ (memB k r b x s p f n w m && immB k r b x s p f n w m) = false ∧ (memB k r b x s p f n w m && noneB k r b x s p f n w m) = false ∧
    (memB k r b x s p f n w m && tgtB k r b x s p f n w m) = false ∧ (immB k r b x s p f n w m && noneB k r b x s p f n w m) = false ∧ (noneB k r b x s p f n w m && tgtB k r b x s p f n w m) = false := by
  by_cases h1 : k = 1
  · subst h1; simp [regB, memB, immB, noneB, tgtB]
  by_cases h2 : k = 2
  · subst h2; simp [regB, memB, immB, noneB, tgtB]
  by_cases h3 : k = 3
  · subst h3; simp [regB, memB, immB, noneB, tgtB]
  by_cases h0 : k = 0
  · subst h0; simp [regB, memB, immB, noneB, tgtB]
  have e1 : (k == 1) = false := by simpa using h1
  have e2 : (k == 2) = false := by simpa using h2
  have e3 : (k == 3) = false := by simpa using h3
  have e0 : (k == 0) = false := by simpa using h0
  simp [regB, memB, immB, noneB, tgtB, e1, e2, e3, e0]
theorem kindsK (k r b x s : Int) (p f : Bool) (n : Int) (w : List Int) (m : Int) :
    (regB k r b x s p f n w m = true → k = 1) ∧ (memB k r b x s p f n w m = true → k = 3) ∧ (immB k r b x s p f n w m = true → k = 2) ∧ (noneB k r b x s p f n w m = true → k = 0) ∧ (tgtB k r b x s p f n w m = true → k = 4) := by
  simp only [regB, memB, immB, noneB, tgtB, Bool.and_eq_true, beq_iff_eq]
  refine ⟨?_, ?_, ?_, ?_, ?_⟩ <;> intro h <;> simp_all
end Go.Proofs.YtkbijhfikkjhpaaGreatDoor.frm
