import Derived.Test.YtaajhdkngiemlaaDoorFrmE
import Derived.Test.YtaajhdkngiemlaaDoorFrmF
set_option linter.unusedVariables false
set_option linter.unusedSimpArgs false
namespace Go.Proofs.YtaajhdkngiemlaaDoor.frm
open Go Go.Ab
theorem eqT (k : Bool → Prop) (h : k true) {x : Int} (e : x = 30) : k (x == (30 : Int)) := by rw [e]; exact h
theorem chk_badF' {op z c : Int} {tk tr tb tx ts : Int} {tp tf : Bool} {tn : Int} {tw : List Int} {tm : Int} {fk fr fb fx fs : Int} {fp ff : Bool} {fn : Int} {fw : List Int} {fm : Int} {sh : Bool} (h : regB fk fr fb fx fs fp ff fn fw fm = false ∧ memB fk fr fb fx fs fp ff fn fw fm = false ∧ immB fk fr fb fx fs fp ff fn fw fm = false ∧ noneB fk fr fb fx fs fp ff fn fw fm = false ∧ tgtB fk fr fb fx fs fp ff fn fw fm = false) : chkE op z c tk tr tb tx ts tp tf tn tw tm fk fr fb fx fs fp ff fn fw fm sh = 30 := chk_badF h.1 h.2.1 h.2.2.1 h.2.2.2.1
theorem chk_badT' {op z c : Int} {tk tr tb tx ts : Int} {tp tf : Bool} {tn : Int} {tw : List Int} {tm : Int} {fk fr fb fx fs : Int} {fp ff : Bool} {fn : Int} {fw : List Int} {fm : Int} {sh : Bool} (h : regB tk tr tb tx ts tp tf tn tw tm = false ∧ memB tk tr tb tx ts tp tf tn tw tm = false ∧ immB tk tr tb tx ts tp tf tn tw tm = false ∧ noneB tk tr tb tx ts tp tf tn tw tm = false ∧ tgtB tk tr tb tx ts tp tf tn tw tm = false) : chkE op z c tk tr tb tx ts tp tf tn tw tm fk fr fb fx fs fp ff fn fw fm sh = 30 := chk_badT h.1 h.2.1 h.2.2.2.2 h.2.2.2.1
set_option maxHeartbeats 8000000 in
theorem h4 (iop : Int) (isz ico : Int) (tk tr tb tx ts : Int) (tp tf : Bool) (tn : Int) (tw : List Int) (tm : Int) (fk fr fb fx fs : Int) (fp ff : Bool) (fn : Int) (fw : List Int) (fm : Int) (sh : Bool) (wh nn : Int) (k : Bool → Prop) (h : k true) : G4 iop isz ico tk tr tb tx ts tp tf tn tw tm fk fr fb fx fs fp ff fn fw fm sh wh nn (k true) (k false) (fun u => k u) := by
  have c01 := chk01 (op := iop) (z := isz) (c := ico) (tk := tk) (tr := tr) (tb := tb) (tx := tx) (ts := ts) (tp := tp) (tf := tf) (tn := tn) (tw := tw) (tm := tm) (fk := fk) (fr := fr) (fb := fb) (fx := fx) (fs := fs) (fp := fp) (ff := ff) (fn := fn) (fw := fw) (fm := fm) (sh := sh)
  have n15 := nz nn 15 (.inl rfl)
  have n9 := nz nn 9 (.inr rfl)
  unfold G4 F4
  generalize IntKind.wrap .i64 ((1 : Int) + Int.tmod (IntKind.wrap .i64 (Int.tmod nn 15 + 15)) 15) = q15 at *
  generalize IntKind.wrap .i64 ((1 : Int) + Int.tmod (IntKind.wrap .i64 (Int.tmod nn 9 + 9)) 9) = q9 at *
  (repeat' refine cond_ind (fun _ => ?_) (fun _ => ?_)) <;> first
    | exact h
    | exact eqT k h (chk_badF' (badR (by intro e; simp_all) n15))
    | exact eqT k h (chk_badF' (badN (by simp_all) n9))
    | exact eqT k h (chk_badF' (badB (by intro e; simp_all) (by intro e; simp_all) (by intro e; simp_all) (by intro e; simp_all) n15))
    | exact eqT k h (chk_badT' (badR (by intro e; simp_all) n15))
    | exact eqT k h (chk_badT' (badN (by simp_all) n9))
    | exact eqT k h (chk_badT' (badB (by intro e; simp_all) (by intro e; simp_all) (by intro e; simp_all) (by intro e; simp_all) n15))
    | (exfalso; rcases c01 with e | e <;> simp_all; done)
end Go.Proofs.YtaajhdkngiemlaaDoor.frm
