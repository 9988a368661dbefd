import Derived.Test.YtaajhdkngiemlaaDoorFrm5
set_option linter.unusedVariables false
set_option linter.unusedSimpArgs false
set_option maxHeartbeats 4000000
set_option maxRecDepth 100000
namespace Go.Proofs.YtaajhdkngiemlaaDoor.frm
open Go Go.Ab
def primsX : Prims := fun f =>
  match Nat.beq f 28 with
  | true => some (fun _ _ _ => False)
  | false => prims2 f
theorem primsX_ok : PrimsOk Tryd.prog primsX := by
  intro f g hg
  unfold primsX at hg
  split at hg
  · rename_i hf
    obtain rfl := Nat.eq_of_beq_eq_true hf
    cases hg
    intro args m K E w cargs hS ha h
    exact h.elim
  · skip
    exact prims2_ok f g hg
def CX : CC := call Tryd.prog primsX 1000
theorem CX_ok : CallsOk Tryd.prog CX := call_sound named primsX_ok 1000

def F13_x  (iop isz ico tk tr tb tx ts : Int) (tp tf : Bool) (tn : Int) (tw : List Int) (tm fk fr fb fx fs : Int) (fp ff : Bool) (fn : Int) (fw : List Int) (fm : Int) (sh : Bool) (k1 : Prop) : Prop :=
  (bif (decide (iop < (1 : Int))) then k1 else (bif (decide (iop > (35 : Int))) then k1 else False))
theorem F13_x_ok  (iop isz ico tk tr tb tx ts : Int) (tp tf : Bool) (tn : Int) (tw : List Int) (tm fk fr fb fx fs : Int) (fp ff : Bool) (fn : Int) (fw : List Int) (fm : Int) (sh : Bool) (K : V → Mem → Prop) : cbody Tryd.prog CX (fun _ => none) 1000 (fnOf Tryd.prog 13) [(insA iop isz ico tk tr tb tx ts tp tf tn tw tm fk fr fb fx fs fp ff fn fw fm sh)] [] K =
    F13_x  iop isz ico tk tr tb tx ts tp tf tn tw tm fk fr fb fx fs fp ff fn fw fm sh (K (.I .i64 (30 : Int)) []) := by kernel_rfl
def G13_x := F13_x 
end Go.Proofs.YtaajhdkngiemlaaDoor.frm
