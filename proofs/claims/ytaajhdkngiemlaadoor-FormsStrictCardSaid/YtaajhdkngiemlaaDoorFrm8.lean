import Derived.Test.YtaajhdkngiemlaaDoorFrm5
set_option linter.unusedVariables false
set_option linter.unusedSimpArgs false
namespace Go.Proofs.YtaajhdkngiemlaaDoor.frm
open Go Go.Ab
def primsX : Prims := fun f =>
  match Nat.beq f 28 with
  | true => some (fun _ _ _ => False)
  | false => prims2 f
theorem primsX_ok : PrimsOk Tryd.prog primsX := by
  intro f g hg
  unfold primsX at hg
  split at hg
  · rename_i hf
    obtain rfl := Nat.eq_of_beq_eq_true hf
    cases hg
    intro args m K E w cargs hS ha h
    exact h.elim
  · skip
    exact prims2_ok f g hg
def CX : CC := call Tryd.prog primsX 1000
theorem CX_ok : CallsOk Tryd.prog CX := call_sound named primsX_ok 1000

abbrev Y13_x : Type := Int → Int → Int → Int → Int → Int → Int → Int → Bool → Bool → Int → List Int → Int → Int → Int → Int → Int → Int → Bool → Bool → Int → List Int → Int → Bool → (Prop) → Prop
set_option maxHeartbeats 4000000 in
set_option maxRecDepth 100000 in
def F13_x  (iop : Int) (isz : Int) (ico : Int) (tk : Int) (tr : Int) (tb : Int) (tx : Int) (ts : Int) (tp : Bool) (tf : Bool) (tn : Int) (tw : List Int) (tm : Int) (fk : Int) (fr : Int) (fb : Int) (fx : Int) (fs : Int) (fp : Bool) (ff : Bool) (fn : Int) (fw : List Int) (fm : Int) (sh : Bool) (k1 : Prop) : Prop :=
  (bif (decide (iop < (1 : Int))) then (k1) else (bif (decide (iop > (35 : Int))) then (k1) else False))
theorem F13_x_ok  (iop : Int) (isz : Int) (ico : Int) (tk : Int) (tr : Int) (tb : Int) (tx : Int) (ts : Int) (tp : Bool) (tf : Bool) (tn : Int) (tw : List Int) (tm : Int) (fk : Int) (fr : Int) (fb : Int) (fx : Int) (fs : Int) (fp : Bool) (ff : Bool) (fn : Int) (fw : List Int) (fm : Int) (sh : Bool) (K : V → Mem → Prop) : cbody Tryd.prog CX (fun _ => none) 1000 (fnOf Tryd.prog 13) [(.agg [(.I .i64 iop), (.I .i64 isz), (.I .i64 ico), (.I .i64 tk), (.I .i64 tr), (.I .i64 tb), (.I .i64 tx), (.I .i64 ts), (.B tp), (.B tf), (.I .i64 tn), (.S tw), (.I .i64 tm), (.I .i64 fk), (.I .i64 fr), (.I .i64 fb), (.I .i64 fx), (.I .i64 fs), (.B fp), (.B ff), (.I .i64 fn), (.S fw), (.I .i64 fm), (.B sh)])] [] K =
    F13_x  iop isz ico tk tr tb tx ts tp tf tn tw tm fk fr fb fx fs fp ff fn fw fm sh (K (.I .i64 (30 : Int)) []) := by kernel_rfl
def G13_x : Y13_x := F13_x 
end Go.Proofs.YtaajhdkngiemlaaDoor.frm
