import Derived.Test.YtaajhdkngiemlaaDoorFrmF
import Derived.Test.YtaajhdkngiemlaaDoorFrmH
set_option linter.unusedVariables false
set_option linter.unusedSimpArgs false
namespace Go.Proofs.YtaajhdkngiemlaaDoor.frm
open Go Go.Ab
def readB (op z : Int) : Bool := bif op == 1 then z == 1 else !(op == 2 || op == 29 || op == 30 || op == 21)
def extraU (op : Int) : BitVec 16 := bif op == 20 || op == 21 || op == 22 || op == 25 then 16#16 else bif op == 26 then 32#16 else bif op == 32 then 1#16 else bif op == 35 then 197#16 else 0#16
def usesV (op z tk tr tb tx fk fr fb fx : Int) : BitVec 16 :=
  insV tk tb tx ||| insV fk fb fx ||| (bif fk == 1 then bV fr else 0#16) ||| (bif tk == 1 && readB op z then bV tr else 0#16) ||| extraU op
def usesE (op z c : Int) (tk tr tb tx ts : Int) (tp tf : Bool) (tn : Int) (tw : List Int) (tm : Int) (fk fr fb fx fs : Int) (fp ff : Bool) (fn : Int) (fw : List Int) (fm : Int) (sh : Bool) : Int := bif validB op z c tk tr tb tx ts tp tf tn tw tm fk fr fb fx fs fp ff fn fw fm sh then ((usesV op z tk tr tb tx fk fr fb fx).toNat : Int) else 0
def writesB (op : Int) : Bool := !(op == 10 || op == 11 || op == 20 || op == 22 || op == 23)
def extraS (op fr : Int) : BitVec 16 := bif op == 20 || op == 21 || op == 22 || op == 25 then 16#16 else bif op == 26 then 48#16 else bif op == 32 then 4#16 else bif op == 31 then bV fr else bif op == 35 then 2051#16 else 0#16
def setsV (op tk tr fr : Int) : BitVec 16 := (bif tk == 1 && writesB op then bV tr else 0#16) ||| extraS op fr
def setsE (op z c : Int) (tk tr tb tx ts : Int) (tp tf : Bool) (tn : Int) (tw : List Int) (tm : Int) (fk fr fb fx fs : Int) (fp ff : Bool) (fn : Int) (fw : List Int) (fm : Int) (sh : Bool) : Int := bif validB op z c tk tr tb tx ts tp tf tn tw tm fk fr fb fx fs fp ff fn fw fm sh then ((setsV op tk tr fr).toNat : Int) else 0
theorem okT_of {op z c : Int} {tk tr tb tx ts : Int} {tp tf : Bool} {tn : Int} {tw : List Int} {tm : Int} {fk fr fb fx fs : Int} {fp ff : Bool} {fn : Int} {fw : List Int} {fm : Int} {sh : Bool} (h : validB op z c tk tr tb tx ts tp tf tn tw tm fk fr fb fx fs fp ff fn fw fm sh = true) : regB tk tr tb tx ts tp tf tn tw tm = true ∨ memB tk tr tb tx ts tp tf tn tw tm = true ∨ noneB tk tr tb tx ts tp tf tn tw tm = true ∨ tgtB tk tr tb tx ts tp tf tn tw tm = true := by
  cases h1 : regB tk tr tb tx ts tp tf tn tw tm <;> cases h2 : memB tk tr tb tx ts tp tf tn tw tm <;> cases h3 : noneB tk tr tb tx ts tp tf tn tw tm <;> cases h4 : tgtB tk tr tb tx ts tp tf tn tw tm <;> simp
  have := chk_badT (op := op) (z := z) (c := c) (tk := tk) (tr := tr) (tb := tb) (tx := tx) (ts := ts) (tp := tp) (tf := tf) (tn := tn) (tw := tw) (tm := tm) (fk := fk) (fr := fr) (fb := fb) (fx := fx) (fs := fs) (fp := fp) (ff := ff) (fn := fn) (fw := fw) (fm := fm) (sh := sh) h1 h2 h4 h3
  unfold chkE at this
  rw [h] at this
  cases this
theorem okF_of {op z c : Int} {tk tr tb tx ts : Int} {tp tf : Bool} {tn : Int} {tw : List Int} {tm : Int} {fk fr fb fx fs : Int} {fp ff : Bool} {fn : Int} {fw : List Int} {fm : Int} {sh : Bool} (h : validB op z c tk tr tb tx ts tp tf tn tw tm fk fr fb fx fs fp ff fn fw fm sh = true) : regB fk fr fb fx fs fp ff fn fw fm = true ∨ memB fk fr fb fx fs fp ff fn fw fm = true ∨ immB fk fr fb fx fs fp ff fn fw fm = true ∨ noneB fk fr fb fx fs fp ff fn fw fm = true := by
  cases h1 : regB fk fr fb fx fs fp ff fn fw fm <;> cases h2 : memB fk fr fb fx fs fp ff fn fw fm <;> cases h3 : immB fk fr fb fx fs fp ff fn fw fm <;> cases h4 : noneB fk fr fb fx fs fp ff fn fw fm <;> simp
  have := chk_badF (op := op) (z := z) (c := c) (tk := tk) (tr := tr) (tb := tb) (tx := tx) (ts := ts) (tp := tp) (tf := tf) (tn := tn) (tw := tw) (tm := tm) (fk := fk) (fr := fr) (fb := fb) (fx := fx) (fs := fs) (fp := fp) (ff := ff) (fn := fn) (fw := fw) (fm := fm) (sh := sh) h1 h2 h3 h4
  unfold chkE at this
  rw [h] at this
  cases this
theorem facts_of (k r b x s : Int) (p f : Bool) (n : Int) (w : List Int) (m : Int) (h : regB k r b x s p f n w m = true ∨ memB k r b x s p f n w m = true ∨ k = 0 ∨ k = 2 ∨ k = 4) : (k = 3 → b ≤ 15 ∧ x ≤ 15) ∧ (k = 1 → 0 ≤ r ∧ r ≤ 15) := by
  rcases h with h | h | h | h | h
  · simp [regB] at h
    refine ⟨fun hk => by omega, fun _ => by omega⟩
  · unfold memB at h
    cases p <;> cases f <;> simp at h <;> refine ⟨fun hk => ?_, fun hk => by omega⟩
    · obtain ⟨_, ⟨⟨_, h1⟩, _⟩, h2⟩ := h
      refine ⟨by omega, ?_⟩
      by_cases hx : x = -1
      · omega
      · simp [hx] at h2; omega
    all_goals (refine ⟨by omega, by omega⟩)
  · exact ⟨fun hk => by omega, fun hk => by omega⟩
  · exact ⟨fun hk => by omega, fun hk => by omega⟩
  · exact ⟨fun hk => by omega, fun hk => by omega⟩
theorem factsT {op z c : Int} {tk tr tb tx ts : Int} {tp tf : Bool} {tn : Int} {tw : List Int} {tm : Int} {fk fr fb fx fs : Int} {fp ff : Bool} {fn : Int} {fw : List Int} {fm : Int} {sh : Bool} (h : validB op z c tk tr tb tx ts tp tf tn tw tm fk fr fb fx fs fp ff fn fw fm sh = true) : (tk = 3 → tb ≤ 15 ∧ tx ≤ 15) ∧ (tk = 1 → 0 ≤ tr ∧ tr ≤ 15) := by
  obtain ⟨u1, u2, u3, u4, u5⟩ := kindsK tk tr tb tx ts tp tf tn tw tm
  refine facts_of tk tr tb tx ts tp tf tn tw tm ?_
  rcases okT_of h with h | h | h | h
  · exact .inl h
  · exact .inr (.inl h)
  · exact .inr (.inr (.inl (u4 h)))
  · exact .inr (.inr (.inr (.inr (u5 h))))
theorem factsF {op z c : Int} {tk tr tb tx ts : Int} {tp tf : Bool} {tn : Int} {tw : List Int} {tm : Int} {fk fr fb fx fs : Int} {fp ff : Bool} {fn : Int} {fw : List Int} {fm : Int} {sh : Bool} (h : validB op z c tk tr tb tx ts tp tf tn tw tm fk fr fb fx fs fp ff fn fw fm sh = true) : (fk = 3 → fb ≤ 15 ∧ fx ≤ 15) ∧ (fk = 1 → 0 ≤ fr ∧ fr ≤ 15) := by
  obtain ⟨u1, u2, u3, u4, u5⟩ := kindsK fk fr fb fx fs fp ff fn fw fm
  refine facts_of fk fr fb fx fs fp ff fn fw fm ?_
  rcases okF_of h with h | h | h | h
  · exact .inl h
  · exact .inr (.inl h)
  · exact .inr (.inr (.inr (.inl (u3 h))))
  · exact .inr (.inr (.inl (u4 h)))
end Go.Proofs.YtaajhdkngiemlaaDoor.frm
