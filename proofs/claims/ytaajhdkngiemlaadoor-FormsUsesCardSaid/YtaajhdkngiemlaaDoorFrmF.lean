import Derived.Test.YtaajhdkngiemlaaDoorFrmC
set_option linter.unusedVariables false
set_option linter.unusedSimpArgs false
namespace Go.Proofs.YtaajhdkngiemlaaDoor.frm
open Go Go.Ab
theorem chk01 {op z c : Int} {tk tr tb tx ts : Int} {tp tf : Bool} {tn : Int} {tw : List Int} {tm : Int} {fk fr fb fx fs : Int} {fp ff : Bool} {fn : Int} {fw : List Int} {fm : Int} {sh : Bool} : chkE op z c tk tr tb tx ts tp tf tn tw tm fk fr fb fx fs fp ff fn fw fm sh = 0 ∨ chkE op z c tk tr tb tx ts tp tf tn tw tm fk fr fb fx fs fp ff fn fw fm sh = 30 := by
  unfold chkE; cases validB op z c tk tr tb tx ts tp tf tn tw tm fk fr fb fx fs fp ff fn fw fm sh <;> simp
theorem chk_badF {op z c : Int} {tk tr tb tx ts : Int} {tp tf : Bool} {tn : Int} {tw : List Int} {tm : Int} {fk fr fb fx fs : Int} {fp ff : Bool} {fn : Int} {fw : List Int} {fm : Int} {sh : Bool} (h1 : regB fk fr fb fx fs fp ff fn fw fm = false) (h2 : memB fk fr fb fx fs fp ff fn fw fm = false) (h3 : immB fk fr fb fx fs fp ff fn fw fm = false) (h4 : noneB fk fr fb fx fs fp ff fn fw fm = false) : chkE op z c tk tr tb tx ts tp tf tn tw tm fk fr fb fx fs fp ff fn fw fm sh = 30 := by
  unfold chkE validB opsB
  rw [h1, h2, h3, h4]
  simp
theorem chk_badT {op z c : Int} {tk tr tb tx ts : Int} {tp tf : Bool} {tn : Int} {tw : List Int} {tm : Int} {fk fr fb fx fs : Int} {fp ff : Bool} {fn : Int} {fw : List Int} {fm : Int} {sh : Bool} (h1 : regB tk tr tb tx ts tp tf tn tw tm = false) (h2 : memB tk tr tb tx ts tp tf tn tw tm = false) (h3 : tgtB tk tr tb tx ts tp tf tn tw tm = false) (h4 : noneB tk tr tb tx ts tp tf tn tw tm = false) : chkE op z c tk tr tb tx ts tp tf tn tw tm fk fr fb fx fs fp ff fn fw fm sh = 30 := by
  unfold chkE validB opsB
  rw [h1, h2, h3, h4]
  simp
theorem badR {k r b x s : Int} {p f : Bool} {n : Int} {w : List Int} {m : Int} (h : k ≠ 1) (hr : r ≠ 0) : regB k r b x s p f n w m = false ∧ memB k r b x s p f n w m = false ∧ immB k r b x s p f n w m = false ∧ noneB k r b x s p f n w m = false ∧ tgtB k r b x s p f n w m = false := by
  simp only [regB, memB, immB, noneB, tgtB]
  have e1 : (k == 1) = false := by simpa using h
  have e2 : (r == 0) = false := by simpa using hr
  simp [e1, e2]
theorem badN {k r b x s : Int} {p f : Bool} {n : Int} {w : List Int} {m : Int} (h : k = 1) (hn : n ≠ 0) : regB k r b x s p f n w m = false ∧ memB k r b x s p f n w m = false ∧ immB k r b x s p f n w m = false ∧ noneB k r b x s p f n w m = false ∧ tgtB k r b x s p f n w m = false := by
  simp only [regB, memB, immB, noneB, tgtB]
  subst h
  have e2 : (n == 0) = false := by simpa using hn
  simp [e2]
theorem badB {k r b x s : Int} {p f : Bool} {n : Int} {w : List Int} {m : Int} (h1 : k ≠ 1) (h2 : k ≠ 2) (h3 : k ≠ 3) (h0 : k ≠ 0) (hb : b ≠ 0) : regB k r b x s p f n w m = false ∧ memB k r b x s p f n w m = false ∧ immB k r b x s p f n w m = false ∧ noneB k r b x s p f n w m = false ∧ tgtB k r b x s p f n w m = false := by
  simp only [regB, memB, immB, noneB, tgtB]
  have e1 : (k == 1) = false := by simpa using h1
  have e2 : (k == 2) = false := by simpa using h2
  have e3 : (k == 3) = false := by simpa using h3
  have e0 : (k == 0) = false := by simpa using h0
  have e5 : (b == 0) = false := by simpa using hb
  simp [e1, e2, e3, e0, e5]
theorem nz (n d : Int) (hd : d = 15 ∨ d = 9) : IntKind.wrap .i64 ((1 : Int) + Int.tmod (IntKind.wrap .i64 (Int.tmod n d + d)) d) ≠ 0 := by
  have h1 : -d < Int.tmod n d ∧ Int.tmod n d < d := by
    have g1 := Int.lt_tmod_of_pos n (show 0 < d by omega)
    have g2 := Int.tmod_lt_of_pos n (show 0 < d by omega)
    omega
  rw [wid (x := Int.tmod n d + d) (by omega) (by omega)]
  have h2 : 0 ≤ Int.tmod (Int.tmod n d + d) d := Int.tmod_nonneg d (by omega)
  have h3 := Int.tmod_lt_of_pos (Int.tmod n d + d) (show 0 < d by omega)
  rw [wid (by omega) (by omega)]
  omega
end Go.Proofs.YtaajhdkngiemlaaDoor.frm
