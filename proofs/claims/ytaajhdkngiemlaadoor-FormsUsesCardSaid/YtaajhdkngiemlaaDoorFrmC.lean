/- Law 03: which instructions there are, as a plain function. -/
import Derived.Test.YtaajhdkngiemlaaDoorFrmB
set_option linter.unusedVariables false
set_option linter.unusedSimpArgs false
namespace Go.Proofs.YtaajhdkngiemlaaDoor.frm
open Go Go.Ab
def fitB (n z : Int) : Bool :=
  bif z == 1 then decide (n ≥ -128) && decide (n ≤ 255) else bif z == 4 then decide (n ≥ -2147483648) && decide (n < 4294967296) else wideB n
def sizeB (op z : Int) : Bool :=
  bif op == 2 || op == 12 || op == 28 || op == 29 || op == 30 || op == 31 then z == 4 || z == 8
  else bif op == 20 || op == 21 || op == 22 || op == 23 || op == 24 then z == 8
  else bif op == 27 then z == 1
  else bif op == 25 || op == 26 || op == 32 || op == 33 || op == 34 || op == 35 then z == 0
  else z == 1 || z == 4 || z == 8
def condB (op c : Int) : Bool := bif op == 24 || op == 27 || op == 28 then decide (0 ≤ c) && decide (c ≤ 15) else c == 0
/-- 'r', 'm', 'i', 'o', 'g': register, memory, number, none, target; of 'To' (t) and 'From' (f). -/
def opsB (op z : Int) (rt mt nt gt rf mf imf nf ff tw0 sh : Bool) (fr fn tn : Int) : Bool :=
  let rmt := rt || mt
  let rmf := rf || mf
  let sum := rmt && (rf || imf && fitB fn z) || rt && mf
  let near := nf && gt && (!sh || !tw0 || decide (tn ≥ -128) && decide (tn ≤ 127))
  bif op == 1 then sum || z == 8 && rt && imf
  else bif op == 2 then rt && mf && !ff
  else bif op == 11 then rmt && (rf || imf && fitB fn z)
  else bif op == 12 || op == 28 || op == 29 || op == 30 then rt && rmf
  else bif op == 13 || op == 14 || op == 15 || op == 16 || op == 21 || op == 27 then rmt && nf
  else bif op == 17 || op == 18 || op == 19 then rmt && (rf && fr == 1 || imf && decide (0 ≤ fn) && decide (fn ≤ (bif z == 8 then 63 else 31)))
  else bif op == 20 then nt && (rmf || imf && wideB fn)
  else bif op == 22 then !sh && (near || rmt && nf)
  else bif op == 23 then near || !sh && rmt && nf
  else bif op == 24 then near
  else bif op == 25 || op == 26 || op == 32 || op == 33 || op == 34 || op == 35 then nt && nf
  else bif op == 31 then rmt && rf
  else sum
def validB (op z c : Int) (tk tr tb tx ts : Int) (tp tf : Bool) (tn : Int) (tw : List Int) (tm : Int) (fk fr fb fx fs : Int) (fp ff : Bool) (fn : Int) (fw : List Int) (fm : Int) (sh : Bool) : Bool :=
  decide (1 ≤ op) && decide (op ≤ 35) && sizeB op z && condB op c && (!sh || op == 23 || op == 24) &&
  opsB op z (regB tk tr tb tx ts tp tf tn tw tm) (memB tk tr tb tx ts tp tf tn tw tm) (noneB tk tr tb tx ts tp tf tn tw tm) (tgtB tk tr tb tx ts tp tf tn tw tm)
    (regB fk fr fb fx fs fp ff fn fw fm) (memB fk fr fb fx fs fp ff fn fw fm) (immB fk fr fb fx fs fp ff fn fw fm) (noneB fk fr fb fx fs fp ff fn fw fm) ff (tw == []) sh fr fn tn
def chkE (op z c : Int) (tk tr tb tx ts : Int) (tp tf : Bool) (tn : Int) (tw : List Int) (tm : Int) (fk fr fb fx fs : Int) (fp ff : Bool) (fn : Int) (fw : List Int) (fm : Int) (sh : Bool) : Int :=
  bif validB op z c tk tr tb tx ts tp tf tn tw tm fk fr fb fx fs fp ff fn fw fm sh then 0 else 30
theorem chkE_out {op z c : Int} {tk tr tb tx ts : Int} {tp tf : Bool} {tn : Int} {tw : List Int} {tm : Int} {fk fr fb fx fs : Int} {fp ff : Bool} {fn : Int} {fw : List Int} {fm : Int} {sh : Bool} (h : op < 1 ∨ op > 35) :
    chkE op z c tk tr tb tx ts tp tf tn tw tm fk fr fb fx fs fp ff fn fw fm sh = 30 := by
  unfold chkE validB
  rcases h with h | h
  · rw [df (show ¬ 1 ≤ op by omega)]; rfl
  · rw [df (show ¬ op ≤ 35 by omega), Bool.and_false]; rfl
/-- No two kinds at once. -/
theorem kinds (k r b x s : Int) (p f : Bool) (n : Int) (w : List Int) (m : Int) :
    (regB k r b x s p f n w m && memB k r b x s p f n w m) = false ∧ (regB k r b x s p f n w m && immB k r b x s p f n w m) = false ∧ (regB k r b x s p f n w m && noneB k r b x s p f n w m) = false ∧
    (regB k r b x s p f n w m && tgtB k r b x s p f n w m) = false ∧ (memB k r b x s p f n w m && immB k r b x s p f n w m) = false ∧ (memB k r b x s p f n w m && noneB k r b x s p f n w m) = false ∧
    (memB k r b x s p f n w m && tgtB k r b x s p f n w m) = false ∧ (immB k r b x s p f n w m && noneB k r b x s p f n w m) = false ∧ (noneB k r b x s p f n w m && tgtB k r b x s p f n w m) = false := by
  by_cases h1 : k = 1
  · subst h1; simp [regB, memB, immB, noneB, tgtB]
  by_cases h2 : k = 2
  · subst h2; simp [regB, memB, immB, noneB, tgtB]
  by_cases h3 : k = 3
  · subst h3; simp [regB, memB, immB, noneB, tgtB]
  by_cases h0 : k = 0
  · subst h0; simp [regB, memB, immB, noneB, tgtB]
  have e1 : (k == 1) = false := by simpa using h1
  have e2 : (k == 2) = false := by simpa using h2
  have e3 : (k == 3) = false := by simpa using h3
  have e0 : (k == 0) = false := by simpa using h0
  simp [regB, memB, immB, noneB, tgtB, e1, e2, e3, e0]
theorem kindsK (k r b x s : Int) (p f : Bool) (n : Int) (w : List Int) (m : Int) :
    (regB k r b x s p f n w m = true → k = 1) ∧ (memB k r b x s p f n w m = true → k = 3) ∧ (immB k r b x s p f n w m = true → k = 2) ∧ (noneB k r b x s p f n w m = true → k = 0) ∧ (tgtB k r b x s p f n w m = true → k = 4) := by
  simp only [regB, memB, immB, noneB, tgtB, Bool.and_eq_true, beq_iff_eq]
  refine ⟨?_, ?_, ?_, ?_, ?_⟩ <;> intro h <;> simp_all
end Go.Proofs.YtaajhdkngiemlaaDoor.frm
