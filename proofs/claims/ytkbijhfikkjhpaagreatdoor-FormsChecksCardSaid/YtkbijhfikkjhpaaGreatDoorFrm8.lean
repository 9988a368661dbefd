import Derived.Test.YtkbijhfikkjhpaaGreatDoorFrm5
set_option linter.unusedVariables false
set_option linter.unusedSimpArgs false
set_option maxHeartbeats 4000000
set_option maxRecDepth 100000
namespace Go.Proofs.YtkbijhfikkjhpaaGreatDoor.frm
open Go Go.Ab
theorem at8 : Tryz.prog.funcs[8]? = some (fnOf Tryz.prog 8) := by kernel_rfl
def F8_1  (isz ico tk tr tb tx ts : Int) (tp tf : Bool) (tn : Int) (tw : List Int) (tm fk fr fb fx fs : Int) (fp ff : Bool) (fn : Int) (fw : List Int) (fm : Int) (sh : Bool) (k1 k2 : Prop) : Prop :=
  let q5 := (regB tk tr tb tx ts tp tf tn tw tm)
  let q4 := (bif sh then k1 else k2)
  let q1 := (bif (isz == 8) then (bif q5 then (bif (!(immB fk fr fb fx fs fp ff fn fw fm)) then k1 else q4) else k1) else k1)
  let q2 := (bif (isz == 1) then (bif (decide (fn ≥ (-128))) then (bif (decide (fn ≤ 255)) then q4 else q1) else q1) else (bif (isz == 4) then (bif (decide (fn ≥ (-2147483648))) then (bif (decide (fn < 4294967296)) then q4 else q1) else q1) else (bif (decide (fn ≥ (-2147483648))) then (bif (decide (fn < 2147483648)) then q4 else q1) else q1)))
  let q3 := (bif q5 then (bif (memB fk fr fb fx fs fp ff fn fw fm) then q4 else q1) else q1)
  let q0 := (bif (!(ico == 0)) then k1 else (bif (immB fk fr fb fx fs fp ff fn fw fm) then (bif q5 then q2 else (bif (memB tk tr tb tx ts tp tf tn tw tm) then q2 else q1)) else (bif q5 then (bif (regB fk fr fb fx fs fp ff fn fw fm) then q4 else q3) else (bif (memB tk tr tb tx ts tp tf tn tw tm) then (bif (regB fk fr fb fx fs fp ff fn fw fm) then q4 else q3) else q3))))
  (bif (isz == 1) then q0 else (bif (isz == 4) then q0 else (bif (!(isz == 8)) then k1 else q0)))
theorem F8_1_ok  (isz ico tk tr tb tx ts : Int) (tp tf : Bool) (tn : Int) (tw : List Int) (tm fk fr fb fx fs : Int) (fp ff : Bool) (fn : Int) (fw : List Int) (fm : Int) (sh : Bool) (K : V → Mem → Prop) : cbody Tryz.prog C2 (fun _ => none) 1000 (fnOf Tryz.prog 8) [(insA 1 isz ico tk tr tb tx ts tp tf tn tw tm fk fr fb fx fs fp ff fn fw fm sh)] [] K =
    F8_1  isz ico tk tr tb tx ts tp tf tn tw tm fk fr fb fx fs fp ff fn fw fm sh (K (.I .i64 30) []) (K (.I .i64 0) []) := by kernel_rfl
def G8_1 := F8_1 
def F8_2  (isz ico tk tr tb tx ts : Int) (tp tf : Bool) (tn : Int) (tw : List Int) (tm fk fr fb fx fs : Int) (fp ff : Bool) (fn : Int) (fw : List Int) (fm : Int) (sh : Bool) (k1 k2 : Prop) : Prop :=
  (bif (isz == 4) then (bif (!(ico == 0)) then k1 else (bif (regB tk tr tb tx ts tp tf tn tw tm) then (bif (memB fk fr fb fx fs fp ff fn fw fm) then (bif (!(!ff)) then k1 else (bif sh then k1 else k2)) else k1) else k1)) else (bif (!(isz == 8)) then k1 else (bif (!(ico == 0)) then k1 else (bif (regB tk tr tb tx ts tp tf tn tw tm) then (bif (memB fk fr fb fx fs fp ff fn fw fm) then (bif (!(!ff)) then k1 else (bif sh then k1 else k2)) else k1) else k1))))
theorem F8_2_ok  (isz ico tk tr tb tx ts : Int) (tp tf : Bool) (tn : Int) (tw : List Int) (tm fk fr fb fx fs : Int) (fp ff : Bool) (fn : Int) (fw : List Int) (fm : Int) (sh : Bool) (K : V → Mem → Prop) : cbody Tryz.prog C2 (fun _ => none) 1000 (fnOf Tryz.prog 8) [(insA 2 isz ico tk tr tb tx ts tp tf tn tw tm fk fr fb fx fs fp ff fn fw fm sh)] [] K =
    F8_2  isz ico tk tr tb tx ts tp tf tn tw tm fk fr fb fx fs fp ff fn fw fm sh (K (.I .i64 30) []) (K (.I .i64 0) []) := by kernel_rfl
def G8_2 := F8_2 
def F8_3  (isz ico tk tr tb tx ts : Int) (tp tf : Bool) (tn : Int) (tw : List Int) (tm fk fr fb fx fs : Int) (fp ff : Bool) (fn : Int) (fw : List Int) (fm : Int) (sh : Bool) (k1 k2 : Prop) : Prop :=
  let q3 := (bif sh then k1 else k2)
  let q1 := (bif (isz == 1) then (bif (decide (fn ≥ (-128))) then (bif (!(decide (fn ≤ 255))) then k1 else q3) else k1) else (bif (isz == 4) then (bif (decide (fn ≥ (-2147483648))) then (bif (!(decide (fn < 4294967296))) then k1 else q3) else k1) else (bif (decide (fn ≥ (-2147483648))) then (bif (!(decide (fn < 2147483648))) then k1 else q3) else k1)))
  let q2 := (bif (regB tk tr tb tx ts tp tf tn tw tm) then (bif (!(memB fk fr fb fx fs fp ff fn fw fm)) then k1 else q3) else k1)
  let q0 := (bif (!(ico == 0)) then k1 else (bif (immB fk fr fb fx fs fp ff fn fw fm) then (bif (regB tk tr tb tx ts tp tf tn tw tm) then q1 else (bif (memB tk tr tb tx ts tp tf tn tw tm) then q1 else k1)) else (bif (regB tk tr tb tx ts tp tf tn tw tm) then (bif (regB fk fr fb fx fs fp ff fn fw fm) then q3 else q2) else (bif (memB tk tr tb tx ts tp tf tn tw tm) then (bif (regB fk fr fb fx fs fp ff fn fw fm) then q3 else q2) else q2))))
  (bif (isz == 1) then q0 else (bif (isz == 4) then q0 else (bif (!(isz == 8)) then k1 else q0)))
theorem F8_3_ok  (isz ico tk tr tb tx ts : Int) (tp tf : Bool) (tn : Int) (tw : List Int) (tm fk fr fb fx fs : Int) (fp ff : Bool) (fn : Int) (fw : List Int) (fm : Int) (sh : Bool) (K : V → Mem → Prop) : cbody Tryz.prog C2 (fun _ => none) 1000 (fnOf Tryz.prog 8) [(insA 3 isz ico tk tr tb tx ts tp tf tn tw tm fk fr fb fx fs fp ff fn fw fm sh)] [] K =
    F8_3  isz ico tk tr tb tx ts tp tf tn tw tm fk fr fb fx fs fp ff fn fw fm sh (K (.I .i64 30) []) (K (.I .i64 0) []) := by kernel_rfl
def G8_3 := F8_3 
def F8_4  (isz ico tk tr tb tx ts : Int) (tp tf : Bool) (tn : Int) (tw : List Int) (tm fk fr fb fx fs : Int) (fp ff : Bool) (fn : Int) (fw : List Int) (fm : Int) (sh : Bool) (k1 k2 : Prop) : Prop :=
  let q3 := (bif sh then k1 else k2)
  let q1 := (bif (isz == 1) then (bif (decide (fn ≥ (-128))) then (bif (!(decide (fn ≤ 255))) then k1 else q3) else k1) else (bif (isz == 4) then (bif (decide (fn ≥ (-2147483648))) then (bif (!(decide (fn < 4294967296))) then k1 else q3) else k1) else (bif (decide (fn ≥ (-2147483648))) then (bif (!(decide (fn < 2147483648))) then k1 else q3) else k1)))
  let q2 := (bif (regB tk tr tb tx ts tp tf tn tw tm) then (bif (!(memB fk fr fb fx fs fp ff fn fw fm)) then k1 else q3) else k1)
  let q0 := (bif (!(ico == 0)) then k1 else (bif (immB fk fr fb fx fs fp ff fn fw fm) then (bif (regB tk tr tb tx ts tp tf tn tw tm) then q1 else (bif (memB tk tr tb tx ts tp tf tn tw tm) then q1 else k1)) else (bif (regB tk tr tb tx ts tp tf tn tw tm) then (bif (regB fk fr fb fx fs fp ff fn fw fm) then q3 else q2) else (bif (memB tk tr tb tx ts tp tf tn tw tm) then (bif (regB fk fr fb fx fs fp ff fn fw fm) then q3 else q2) else q2))))
  (bif (isz == 1) then q0 else (bif (isz == 4) then q0 else (bif (!(isz == 8)) then k1 else q0)))
theorem F8_4_ok  (isz ico tk tr tb tx ts : Int) (tp tf : Bool) (tn : Int) (tw : List Int) (tm fk fr fb fx fs : Int) (fp ff : Bool) (fn : Int) (fw : List Int) (fm : Int) (sh : Bool) (K : V → Mem → Prop) : cbody Tryz.prog C2 (fun _ => none) 1000 (fnOf Tryz.prog 8) [(insA 4 isz ico tk tr tb tx ts tp tf tn tw tm fk fr fb fx fs fp ff fn fw fm sh)] [] K =
    F8_4  isz ico tk tr tb tx ts tp tf tn tw tm fk fr fb fx fs fp ff fn fw fm sh (K (.I .i64 30) []) (K (.I .i64 0) []) := by kernel_rfl
def G8_4 := F8_4 
def F8_5  (isz ico tk tr tb tx ts : Int) (tp tf : Bool) (tn : Int) (tw : List Int) (tm fk fr fb fx fs : Int) (fp ff : Bool) (fn : Int) (fw : List Int) (fm : Int) (sh : Bool) (k1 k2 : Prop) : Prop :=
  let q3 := (bif sh then k1 else k2)
  let q1 := (bif (isz == 1) then (bif (decide (fn ≥ (-128))) then (bif (!(decide (fn ≤ 255))) then k1 else q3) else k1) else (bif (isz == 4) then (bif (decide (fn ≥ (-2147483648))) then (bif (!(decide (fn < 4294967296))) then k1 else q3) else k1) else (bif (decide (fn ≥ (-2147483648))) then (bif (!(decide (fn < 2147483648))) then k1 else q3) else k1)))
  let q2 := (bif (regB tk tr tb tx ts tp tf tn tw tm) then (bif (!(memB fk fr fb fx fs fp ff fn fw fm)) then k1 else q3) else k1)
  let q0 := (bif (!(ico == 0)) then k1 else (bif (immB fk fr fb fx fs fp ff fn fw fm) then (bif (regB tk tr tb tx ts tp tf tn tw tm) then q1 else (bif (memB tk tr tb tx ts tp tf tn tw tm) then q1 else k1)) else (bif (regB tk tr tb tx ts tp tf tn tw tm) then (bif (regB fk fr fb fx fs fp ff fn fw fm) then q3 else q2) else (bif (memB tk tr tb tx ts tp tf tn tw tm) then (bif (regB fk fr fb fx fs fp ff fn fw fm) then q3 else q2) else q2))))
  (bif (isz == 1) then q0 else (bif (isz == 4) then q0 else (bif (!(isz == 8)) then k1 else q0)))
theorem F8_5_ok  (isz ico tk tr tb tx ts : Int) (tp tf : Bool) (tn : Int) (tw : List Int) (tm fk fr fb fx fs : Int) (fp ff : Bool) (fn : Int) (fw : List Int) (fm : Int) (sh : Bool) (K : V → Mem → Prop) : cbody Tryz.prog C2 (fun _ => none) 1000 (fnOf Tryz.prog 8) [(insA 5 isz ico tk tr tb tx ts tp tf tn tw tm fk fr fb fx fs fp ff fn fw fm sh)] [] K =
    F8_5  isz ico tk tr tb tx ts tp tf tn tw tm fk fr fb fx fs fp ff fn fw fm sh (K (.I .i64 30) []) (K (.I .i64 0) []) := by kernel_rfl
def G8_5 := F8_5 
def F8_6  (isz ico tk tr tb tx ts : Int) (tp tf : Bool) (tn : Int) (tw : List Int) (tm fk fr fb fx fs : Int) (fp ff : Bool) (fn : Int) (fw : List Int) (fm : Int) (sh : Bool) (k1 k2 : Prop) : Prop :=
  let q3 := (bif sh then k1 else k2)
  let q1 := (bif (isz == 1) then (bif (decide (fn ≥ (-128))) then (bif (!(decide (fn ≤ 255))) then k1 else q3) else k1) else (bif (isz == 4) then (bif (decide (fn ≥ (-2147483648))) then (bif (!(decide (fn < 4294967296))) then k1 else q3) else k1) else (bif (decide (fn ≥ (-2147483648))) then (bif (!(decide (fn < 2147483648))) then k1 else q3) else k1)))
  let q2 := (bif (regB tk tr tb tx ts tp tf tn tw tm) then (bif (!(memB fk fr fb fx fs fp ff fn fw fm)) then k1 else q3) else k1)
  let q0 := (bif (!(ico == 0)) then k1 else (bif (immB fk fr fb fx fs fp ff fn fw fm) then (bif (regB tk tr tb tx ts tp tf tn tw tm) then q1 else (bif (memB tk tr tb tx ts tp tf tn tw tm) then q1 else k1)) else (bif (regB tk tr tb tx ts tp tf tn tw tm) then (bif (regB fk fr fb fx fs fp ff fn fw fm) then q3 else q2) else (bif (memB tk tr tb tx ts tp tf tn tw tm) then (bif (regB fk fr fb fx fs fp ff fn fw fm) then q3 else q2) else q2))))
  (bif (isz == 1) then q0 else (bif (isz == 4) then q0 else (bif (!(isz == 8)) then k1 else q0)))
theorem F8_6_ok  (isz ico tk tr tb tx ts : Int) (tp tf : Bool) (tn : Int) (tw : List Int) (tm fk fr fb fx fs : Int) (fp ff : Bool) (fn : Int) (fw : List Int) (fm : Int) (sh : Bool) (K : V → Mem → Prop) : cbody Tryz.prog C2 (fun _ => none) 1000 (fnOf Tryz.prog 8) [(insA 6 isz ico tk tr tb tx ts tp tf tn tw tm fk fr fb fx fs fp ff fn fw fm sh)] [] K =
    F8_6  isz ico tk tr tb tx ts tp tf tn tw tm fk fr fb fx fs fp ff fn fw fm sh (K (.I .i64 30) []) (K (.I .i64 0) []) := by kernel_rfl
def G8_6 := F8_6 
def F8_7  (isz ico tk tr tb tx ts : Int) (tp tf : Bool) (tn : Int) (tw : List Int) (tm fk fr fb fx fs : Int) (fp ff : Bool) (fn : Int) (fw : List Int) (fm : Int) (sh : Bool) (k1 k2 : Prop) : Prop :=
  let q3 := (bif sh then k1 else k2)
  let q1 := (bif (isz == 1) then (bif (decide (fn ≥ (-128))) then (bif (!(decide (fn ≤ 255))) then k1 else q3) else k1) else (bif (isz == 4) then (bif (decide (fn ≥ (-2147483648))) then (bif (!(decide (fn < 4294967296))) then k1 else q3) else k1) else (bif (decide (fn ≥ (-2147483648))) then (bif (!(decide (fn < 2147483648))) then k1 else q3) else k1)))
  let q2 := (bif (regB tk tr tb tx ts tp tf tn tw tm) then (bif (!(memB fk fr fb fx fs fp ff fn fw fm)) then k1 else q3) else k1)
  let q0 := (bif (!(ico == 0)) then k1 else (bif (immB fk fr fb fx fs fp ff fn fw fm) then (bif (regB tk tr tb tx ts tp tf tn tw tm) then q1 else (bif (memB tk tr tb tx ts tp tf tn tw tm) then q1 else k1)) else (bif (regB tk tr tb tx ts tp tf tn tw tm) then (bif (regB fk fr fb fx fs fp ff fn fw fm) then q3 else q2) else (bif (memB tk tr tb tx ts tp tf tn tw tm) then (bif (regB fk fr fb fx fs fp ff fn fw fm) then q3 else q2) else q2))))
  (bif (isz == 1) then q0 else (bif (isz == 4) then q0 else (bif (!(isz == 8)) then k1 else q0)))
theorem F8_7_ok  (isz ico tk tr tb tx ts : Int) (tp tf : Bool) (tn : Int) (tw : List Int) (tm fk fr fb fx fs : Int) (fp ff : Bool) (fn : Int) (fw : List Int) (fm : Int) (sh : Bool) (K : V → Mem → Prop) : cbody Tryz.prog C2 (fun _ => none) 1000 (fnOf Tryz.prog 8) [(insA 7 isz ico tk tr tb tx ts tp tf tn tw tm fk fr fb fx fs fp ff fn fw fm sh)] [] K =
    F8_7  isz ico tk tr tb tx ts tp tf tn tw tm fk fr fb fx fs fp ff fn fw fm sh (K (.I .i64 30) []) (K (.I .i64 0) []) := by kernel_rfl
def G8_7 := F8_7 
def F8_8  (isz ico tk tr tb tx ts : Int) (tp tf : Bool) (tn : Int) (tw : List Int) (tm fk fr fb fx fs : Int) (fp ff : Bool) (fn : Int) (fw : List Int) (fm : Int) (sh : Bool) (k1 k2 : Prop) : Prop :=
  let q3 := (bif sh then k1 else k2)
  let q1 := (bif (isz == 1) then (bif (decide (fn ≥ (-128))) then (bif (!(decide (fn ≤ 255))) then k1 else q3) else k1) else (bif (isz == 4) then (bif (decide (fn ≥ (-2147483648))) then (bif (!(decide (fn < 4294967296))) then k1 else q3) else k1) else (bif (decide (fn ≥ (-2147483648))) then (bif (!(decide (fn < 2147483648))) then k1 else q3) else k1)))
  let q2 := (bif (regB tk tr tb tx ts tp tf tn tw tm) then (bif (!(memB fk fr fb fx fs fp ff fn fw fm)) then k1 else q3) else k1)
  let q0 := (bif (!(ico == 0)) then k1 else (bif (immB fk fr fb fx fs fp ff fn fw fm) then (bif (regB tk tr tb tx ts tp tf tn tw tm) then q1 else (bif (memB tk tr tb tx ts tp tf tn tw tm) then q1 else k1)) else (bif (regB tk tr tb tx ts tp tf tn tw tm) then (bif (regB fk fr fb fx fs fp ff fn fw fm) then q3 else q2) else (bif (memB tk tr tb tx ts tp tf tn tw tm) then (bif (regB fk fr fb fx fs fp ff fn fw fm) then q3 else q2) else q2))))
  (bif (isz == 1) then q0 else (bif (isz == 4) then q0 else (bif (!(isz == 8)) then k1 else q0)))
theorem F8_8_ok  (isz ico tk tr tb tx ts : Int) (tp tf : Bool) (tn : Int) (tw : List Int) (tm fk fr fb fx fs : Int) (fp ff : Bool) (fn : Int) (fw : List Int) (fm : Int) (sh : Bool) (K : V → Mem → Prop) : cbody Tryz.prog C2 (fun _ => none) 1000 (fnOf Tryz.prog 8) [(insA 8 isz ico tk tr tb tx ts tp tf tn tw tm fk fr fb fx fs fp ff fn fw fm sh)] [] K =
    F8_8  isz ico tk tr tb tx ts tp tf tn tw tm fk fr fb fx fs fp ff fn fw fm sh (K (.I .i64 30) []) (K (.I .i64 0) []) := by kernel_rfl
def G8_8 := F8_8 
def F8_9  (isz ico tk tr tb tx ts : Int) (tp tf : Bool) (tn : Int) (tw : List Int) (tm fk fr fb fx fs : Int) (fp ff : Bool) (fn : Int) (fw : List Int) (fm : Int) (sh : Bool) (k1 k2 : Prop) : Prop :=
  let q3 := (bif sh then k1 else k2)
  let q1 := (bif (isz == 1) then (bif (decide (fn ≥ (-128))) then (bif (!(decide (fn ≤ 255))) then k1 else q3) else k1) else (bif (isz == 4) then (bif (decide (fn ≥ (-2147483648))) then (bif (!(decide (fn < 4294967296))) then k1 else q3) else k1) else (bif (decide (fn ≥ (-2147483648))) then (bif (!(decide (fn < 2147483648))) then k1 else q3) else k1)))
  let q2 := (bif (regB tk tr tb tx ts tp tf tn tw tm) then (bif (!(memB fk fr fb fx fs fp ff fn fw fm)) then k1 else q3) else k1)
  let q0 := (bif (!(ico == 0)) then k1 else (bif (immB fk fr fb fx fs fp ff fn fw fm) then (bif (regB tk tr tb tx ts tp tf tn tw tm) then q1 else (bif (memB tk tr tb tx ts tp tf tn tw tm) then q1 else k1)) else (bif (regB tk tr tb tx ts tp tf tn tw tm) then (bif (regB fk fr fb fx fs fp ff fn fw fm) then q3 else q2) else (bif (memB tk tr tb tx ts tp tf tn tw tm) then (bif (regB fk fr fb fx fs fp ff fn fw fm) then q3 else q2) else q2))))
  (bif (isz == 1) then q0 else (bif (isz == 4) then q0 else (bif (!(isz == 8)) then k1 else q0)))
theorem F8_9_ok  (isz ico tk tr tb tx ts : Int) (tp tf : Bool) (tn : Int) (tw : List Int) (tm fk fr fb fx fs : Int) (fp ff : Bool) (fn : Int) (fw : List Int) (fm : Int) (sh : Bool) (K : V → Mem → Prop) : cbody Tryz.prog C2 (fun _ => none) 1000 (fnOf Tryz.prog 8) [(insA 9 isz ico tk tr tb tx ts tp tf tn tw tm fk fr fb fx fs fp ff fn fw fm sh)] [] K =
    F8_9  isz ico tk tr tb tx ts tp tf tn tw tm fk fr fb fx fs fp ff fn fw fm sh (K (.I .i64 30) []) (K (.I .i64 0) []) := by kernel_rfl
def G8_9 := F8_9 
def F8_10  (isz ico tk tr tb tx ts : Int) (tp tf : Bool) (tn : Int) (tw : List Int) (tm fk fr fb fx fs : Int) (fp ff : Bool) (fn : Int) (fw : List Int) (fm : Int) (sh : Bool) (k1 k2 : Prop) : Prop :=
  let q3 := (bif sh then k1 else k2)
  let q1 := (bif (isz == 1) then (bif (decide (fn ≥ (-128))) then (bif (!(decide (fn ≤ 255))) then k1 else q3) else k1) else (bif (isz == 4) then (bif (decide (fn ≥ (-2147483648))) then (bif (!(decide (fn < 4294967296))) then k1 else q3) else k1) else (bif (decide (fn ≥ (-2147483648))) then (bif (!(decide (fn < 2147483648))) then k1 else q3) else k1)))
  let q2 := (bif (regB tk tr tb tx ts tp tf tn tw tm) then (bif (!(memB fk fr fb fx fs fp ff fn fw fm)) then k1 else q3) else k1)
  let q0 := (bif (!(ico == 0)) then k1 else (bif (immB fk fr fb fx fs fp ff fn fw fm) then (bif (regB tk tr tb tx ts tp tf tn tw tm) then q1 else (bif (memB tk tr tb tx ts tp tf tn tw tm) then q1 else k1)) else (bif (regB tk tr tb tx ts tp tf tn tw tm) then (bif (regB fk fr fb fx fs fp ff fn fw fm) then q3 else q2) else (bif (memB tk tr tb tx ts tp tf tn tw tm) then (bif (regB fk fr fb fx fs fp ff fn fw fm) then q3 else q2) else q2))))
  (bif (isz == 1) then q0 else (bif (isz == 4) then q0 else (bif (!(isz == 8)) then k1 else q0)))
theorem F8_10_ok  (isz ico tk tr tb tx ts : Int) (tp tf : Bool) (tn : Int) (tw : List Int) (tm fk fr fb fx fs : Int) (fp ff : Bool) (fn : Int) (fw : List Int) (fm : Int) (sh : Bool) (K : V → Mem → Prop) : cbody Tryz.prog C2 (fun _ => none) 1000 (fnOf Tryz.prog 8) [(insA 10 isz ico tk tr tb tx ts tp tf tn tw tm fk fr fb fx fs fp ff fn fw fm sh)] [] K =
    F8_10  isz ico tk tr tb tx ts tp tf tn tw tm fk fr fb fx fs fp ff fn fw fm sh (K (.I .i64 30) []) (K (.I .i64 0) []) := by kernel_rfl
def G8_10 := F8_10 
def F8_11  (isz ico tk tr tb tx ts : Int) (tp tf : Bool) (tn : Int) (tw : List Int) (tm fk fr fb fx fs : Int) (fp ff : Bool) (fn : Int) (fw : List Int) (fm : Int) (sh : Bool) (k1 k2 : Prop) : Prop :=
  let q1 := (bif (!(fk != 3)) then k1 else (bif sh then k1 else k2))
  let q2 := (bif (isz == 1) then (bif (decide (fn ≥ (-128))) then (bif (decide (fn ≤ 255)) then q1 else k1) else k1) else (bif (isz == 4) then (bif (decide (fn ≥ (-2147483648))) then (bif (decide (fn < 4294967296)) then q1 else k1) else k1) else (bif (decide (fn ≥ (-2147483648))) then (bif (decide (fn < 2147483648)) then q1 else k1) else k1)))
  let q3 := (bif (regB tk tr tb tx ts tp tf tn tw tm) then (bif (memB fk fr fb fx fs fp ff fn fw fm) then q1 else k1) else k1)
  let q0 := (bif (!(ico == 0)) then k1 else (bif (immB fk fr fb fx fs fp ff fn fw fm) then (bif (regB tk tr tb tx ts tp tf tn tw tm) then q2 else (bif (memB tk tr tb tx ts tp tf tn tw tm) then q2 else k1)) else (bif (regB tk tr tb tx ts tp tf tn tw tm) then (bif (regB fk fr fb fx fs fp ff fn fw fm) then q1 else q3) else (bif (memB tk tr tb tx ts tp tf tn tw tm) then (bif (regB fk fr fb fx fs fp ff fn fw fm) then q1 else q3) else q3))))
  (bif (isz == 1) then q0 else (bif (isz == 4) then q0 else (bif (!(isz == 8)) then k1 else q0)))
theorem F8_11_ok  (isz ico tk tr tb tx ts : Int) (tp tf : Bool) (tn : Int) (tw : List Int) (tm fk fr fb fx fs : Int) (fp ff : Bool) (fn : Int) (fw : List Int) (fm : Int) (sh : Bool) (K : V → Mem → Prop) : cbody Tryz.prog C2 (fun _ => none) 1000 (fnOf Tryz.prog 8) [(insA 11 isz ico tk tr tb tx ts tp tf tn tw tm fk fr fb fx fs fp ff fn fw fm sh)] [] K =
    F8_11  isz ico tk tr tb tx ts tp tf tn tw tm fk fr fb fx fs fp ff fn fw fm sh (K (.I .i64 30) []) (K (.I .i64 0) []) := by kernel_rfl
def G8_11 := F8_11 
def F8_12  (isz ico tk tr tb tx ts : Int) (tp tf : Bool) (tn : Int) (tw : List Int) (tm fk fr fb fx fs : Int) (fp ff : Bool) (fn : Int) (fw : List Int) (fm : Int) (sh : Bool) (k1 k2 : Prop) : Prop :=
  (bif (isz == 4) then (bif (!(ico == 0)) then k1 else (bif (regB tk tr tb tx ts tp tf tn tw tm) then (bif (regB fk fr fb fx fs fp ff fn fw fm) then (bif sh then k1 else k2) else (bif (!(memB fk fr fb fx fs fp ff fn fw fm)) then k1 else (bif sh then k1 else k2))) else k1)) else (bif (!(isz == 8)) then k1 else (bif (!(ico == 0)) then k1 else (bif (regB tk tr tb tx ts tp tf tn tw tm) then (bif (regB fk fr fb fx fs fp ff fn fw fm) then (bif sh then k1 else k2) else (bif (!(memB fk fr fb fx fs fp ff fn fw fm)) then k1 else (bif sh then k1 else k2))) else k1))))
theorem F8_12_ok  (isz ico tk tr tb tx ts : Int) (tp tf : Bool) (tn : Int) (tw : List Int) (tm fk fr fb fx fs : Int) (fp ff : Bool) (fn : Int) (fw : List Int) (fm : Int) (sh : Bool) (K : V → Mem → Prop) : cbody Tryz.prog C2 (fun _ => none) 1000 (fnOf Tryz.prog 8) [(insA 12 isz ico tk tr tb tx ts tp tf tn tw tm fk fr fb fx fs fp ff fn fw fm sh)] [] K =
    F8_12  isz ico tk tr tb tx ts tp tf tn tw tm fk fr fb fx fs fp ff fn fw fm sh (K (.I .i64 30) []) (K (.I .i64 0) []) := by kernel_rfl
def G8_12 := F8_12 
def F8_13  (isz ico tk tr tb tx ts : Int) (tp tf : Bool) (tn : Int) (tw : List Int) (tm fk fr fb fx fs : Int) (fp ff : Bool) (fn : Int) (fw : List Int) (fm : Int) (sh : Bool) (k1 k2 : Prop) : Prop :=
  (bif (isz == 1) then (bif (!(ico == 0)) then k1 else (bif (regB tk tr tb tx ts tp tf tn tw tm) then (bif (!(noneB fk fr fb fx fs fp ff fn fw fm)) then k1 else (bif sh then k1 else k2)) else (bif (memB tk tr tb tx ts tp tf tn tw tm) then (bif (!(noneB fk fr fb fx fs fp ff fn fw fm)) then k1 else (bif sh then k1 else k2)) else k1))) else (bif (isz == 4) then (bif (!(ico == 0)) then k1 else (bif (regB tk tr tb tx ts tp tf tn tw tm) then (bif (!(noneB fk fr fb fx fs fp ff fn fw fm)) then k1 else (bif sh then k1 else k2)) else (bif (memB tk tr tb tx ts tp tf tn tw tm) then (bif (!(noneB fk fr fb fx fs fp ff fn fw fm)) then k1 else (bif sh then k1 else k2)) else k1))) else (bif (!(isz == 8)) then k1 else (bif (!(ico == 0)) then k1 else (bif (regB tk tr tb tx ts tp tf tn tw tm) then (bif (!(noneB fk fr fb fx fs fp ff fn fw fm)) then k1 else (bif sh then k1 else k2)) else (bif (memB tk tr tb tx ts tp tf tn tw tm) then (bif (!(noneB fk fr fb fx fs fp ff fn fw fm)) then k1 else (bif sh then k1 else k2)) else k1))))))
theorem F8_13_ok  (isz ico tk tr tb tx ts : Int) (tp tf : Bool) (tn : Int) (tw : List Int) (tm fk fr fb fx fs : Int) (fp ff : Bool) (fn : Int) (fw : List Int) (fm : Int) (sh : Bool) (K : V → Mem → Prop) : cbody Tryz.prog C2 (fun _ => none) 1000 (fnOf Tryz.prog 8) [(insA 13 isz ico tk tr tb tx ts tp tf tn tw tm fk fr fb fx fs fp ff fn fw fm sh)] [] K =
    F8_13  isz ico tk tr tb tx ts tp tf tn tw tm fk fr fb fx fs fp ff fn fw fm sh (K (.I .i64 30) []) (K (.I .i64 0) []) := by kernel_rfl
def G8_13 := F8_13 
def F8_14  (isz ico tk tr tb tx ts : Int) (tp tf : Bool) (tn : Int) (tw : List Int) (tm fk fr fb fx fs : Int) (fp ff : Bool) (fn : Int) (fw : List Int) (fm : Int) (sh : Bool) (k1 k2 : Prop) : Prop :=
  (bif (isz == 1) then (bif (!(ico == 0)) then k1 else (bif (regB tk tr tb tx ts tp tf tn tw tm) then (bif (!(noneB fk fr fb fx fs fp ff fn fw fm)) then k1 else (bif sh then k1 else k2)) else (bif (memB tk tr tb tx ts tp tf tn tw tm) then (bif (!(noneB fk fr fb fx fs fp ff fn fw fm)) then k1 else (bif sh then k1 else k2)) else k1))) else (bif (isz == 4) then (bif (!(ico == 0)) then k1 else (bif (regB tk tr tb tx ts tp tf tn tw tm) then (bif (!(noneB fk fr fb fx fs fp ff fn fw fm)) then k1 else (bif sh then k1 else k2)) else (bif (memB tk tr tb tx ts tp tf tn tw tm) then (bif (!(noneB fk fr fb fx fs fp ff fn fw fm)) then k1 else (bif sh then k1 else k2)) else k1))) else (bif (!(isz == 8)) then k1 else (bif (!(ico == 0)) then k1 else (bif (regB tk tr tb tx ts tp tf tn tw tm) then (bif (!(noneB fk fr fb fx fs fp ff fn fw fm)) then k1 else (bif sh then k1 else k2)) else (bif (memB tk tr tb tx ts tp tf tn tw tm) then (bif (!(noneB fk fr fb fx fs fp ff fn fw fm)) then k1 else (bif sh then k1 else k2)) else k1))))))
theorem F8_14_ok  (isz ico tk tr tb tx ts : Int) (tp tf : Bool) (tn : Int) (tw : List Int) (tm fk fr fb fx fs : Int) (fp ff : Bool) (fn : Int) (fw : List Int) (fm : Int) (sh : Bool) (K : V → Mem → Prop) : cbody Tryz.prog C2 (fun _ => none) 1000 (fnOf Tryz.prog 8) [(insA 14 isz ico tk tr tb tx ts tp tf tn tw tm fk fr fb fx fs fp ff fn fw fm sh)] [] K =
    F8_14  isz ico tk tr tb tx ts tp tf tn tw tm fk fr fb fx fs fp ff fn fw fm sh (K (.I .i64 30) []) (K (.I .i64 0) []) := by kernel_rfl
def G8_14 := F8_14 
def F8_15  (isz ico tk tr tb tx ts : Int) (tp tf : Bool) (tn : Int) (tw : List Int) (tm fk fr fb fx fs : Int) (fp ff : Bool) (fn : Int) (fw : List Int) (fm : Int) (sh : Bool) (k1 k2 : Prop) : Prop :=
  (bif (isz == 1) then (bif (!(ico == 0)) then k1 else (bif (regB tk tr tb tx ts tp tf tn tw tm) then (bif (!(noneB fk fr fb fx fs fp ff fn fw fm)) then k1 else (bif sh then k1 else k2)) else (bif (memB tk tr tb tx ts tp tf tn tw tm) then (bif (!(noneB fk fr fb fx fs fp ff fn fw fm)) then k1 else (bif sh then k1 else k2)) else k1))) else (bif (isz == 4) then (bif (!(ico == 0)) then k1 else (bif (regB tk tr tb tx ts tp tf tn tw tm) then (bif (!(noneB fk fr fb fx fs fp ff fn fw fm)) then k1 else (bif sh then k1 else k2)) else (bif (memB tk tr tb tx ts tp tf tn tw tm) then (bif (!(noneB fk fr fb fx fs fp ff fn fw fm)) then k1 else (bif sh then k1 else k2)) else k1))) else (bif (!(isz == 8)) then k1 else (bif (!(ico == 0)) then k1 else (bif (regB tk tr tb tx ts tp tf tn tw tm) then (bif (!(noneB fk fr fb fx fs fp ff fn fw fm)) then k1 else (bif sh then k1 else k2)) else (bif (memB tk tr tb tx ts tp tf tn tw tm) then (bif (!(noneB fk fr fb fx fs fp ff fn fw fm)) then k1 else (bif sh then k1 else k2)) else k1))))))
theorem F8_15_ok  (isz ico tk tr tb tx ts : Int) (tp tf : Bool) (tn : Int) (tw : List Int) (tm fk fr fb fx fs : Int) (fp ff : Bool) (fn : Int) (fw : List Int) (fm : Int) (sh : Bool) (K : V → Mem → Prop) : cbody Tryz.prog C2 (fun _ => none) 1000 (fnOf Tryz.prog 8) [(insA 15 isz ico tk tr tb tx ts tp tf tn tw tm fk fr fb fx fs fp ff fn fw fm sh)] [] K =
    F8_15  isz ico tk tr tb tx ts tp tf tn tw tm fk fr fb fx fs fp ff fn fw fm sh (K (.I .i64 30) []) (K (.I .i64 0) []) := by kernel_rfl
def G8_15 := F8_15 
def F8_16  (isz ico tk tr tb tx ts : Int) (tp tf : Bool) (tn : Int) (tw : List Int) (tm fk fr fb fx fs : Int) (fp ff : Bool) (fn : Int) (fw : List Int) (fm : Int) (sh : Bool) (k1 k2 : Prop) : Prop :=
  (bif (isz == 1) then (bif (!(ico == 0)) then k1 else (bif (regB tk tr tb tx ts tp tf tn tw tm) then (bif (!(noneB fk fr fb fx fs fp ff fn fw fm)) then k1 else (bif sh then k1 else k2)) else (bif (memB tk tr tb tx ts tp tf tn tw tm) then (bif (!(noneB fk fr fb fx fs fp ff fn fw fm)) then k1 else (bif sh then k1 else k2)) else k1))) else (bif (isz == 4) then (bif (!(ico == 0)) then k1 else (bif (regB tk tr tb tx ts tp tf tn tw tm) then (bif (!(noneB fk fr fb fx fs fp ff fn fw fm)) then k1 else (bif sh then k1 else k2)) else (bif (memB tk tr tb tx ts tp tf tn tw tm) then (bif (!(noneB fk fr fb fx fs fp ff fn fw fm)) then k1 else (bif sh then k1 else k2)) else k1))) else (bif (!(isz == 8)) then k1 else (bif (!(ico == 0)) then k1 else (bif (regB tk tr tb tx ts tp tf tn tw tm) then (bif (!(noneB fk fr fb fx fs fp ff fn fw fm)) then k1 else (bif sh then k1 else k2)) else (bif (memB tk tr tb tx ts tp tf tn tw tm) then (bif (!(noneB fk fr fb fx fs fp ff fn fw fm)) then k1 else (bif sh then k1 else k2)) else k1))))))
theorem F8_16_ok  (isz ico tk tr tb tx ts : Int) (tp tf : Bool) (tn : Int) (tw : List Int) (tm fk fr fb fx fs : Int) (fp ff : Bool) (fn : Int) (fw : List Int) (fm : Int) (sh : Bool) (K : V → Mem → Prop) : cbody Tryz.prog C2 (fun _ => none) 1000 (fnOf Tryz.prog 8) [(insA 16 isz ico tk tr tb tx ts tp tf tn tw tm fk fr fb fx fs fp ff fn fw fm sh)] [] K =
    F8_16  isz ico tk tr tb tx ts tp tf tn tw tm fk fr fb fx fs fp ff fn fw fm sh (K (.I .i64 30) []) (K (.I .i64 0) []) := by kernel_rfl
def G8_16 := F8_16 
def F8_17  (isz ico tk tr tb tx ts : Int) (tp tf : Bool) (tn : Int) (tw : List Int) (tm fk fr fb fx fs : Int) (fp ff : Bool) (fn : Int) (fw : List Int) (fm : Int) (sh : Bool) (k1 k2 : Prop) : Prop :=
  let q0 := (bif (regB fk fr fb fx fs fp ff fn fw fm) then (bif (regB tk tr tb tx ts tp tf tn tw tm) then (bif (!(fr == 1)) then k1 else (bif sh then k1 else k2)) else (bif (memB tk tr tb tx ts tp tf tn tw tm) then (bif (!(fr == 1)) then k1 else (bif sh then k1 else k2)) else k1)) else (bif (regB tk tr tb tx ts tp tf tn tw tm) then k1 else (bif (memB tk tr tb tx ts tp tf tn tw tm) then k1 else k1)))
  let q2 := (bif (regB tk tr tb tx ts tp tf tn tw tm) then (bif sh then k1 else k2) else (bif (memB tk tr tb tx ts tp tf tn tw tm) then (bif sh then k1 else k2) else k1))
  let q1 := (bif (!(ico == 0)) then k1 else (bif (isz == 8) then (bif (immB fk fr fb fx fs fp ff fn fw fm) then (bif (decide (fn ≥ 0)) then (bif (decide (fn ≤ 63)) then q2 else q0) else q0) else q0) else (bif (immB fk fr fb fx fs fp ff fn fw fm) then (bif (decide (fn ≥ 0)) then (bif (decide (fn ≤ 31)) then q2 else q0) else q0) else q0)))
  (bif (isz == 1) then q1 else (bif (isz == 4) then q1 else (bif (!(isz == 8)) then k1 else q1)))
theorem F8_17_ok  (isz ico tk tr tb tx ts : Int) (tp tf : Bool) (tn : Int) (tw : List Int) (tm fk fr fb fx fs : Int) (fp ff : Bool) (fn : Int) (fw : List Int) (fm : Int) (sh : Bool) (K : V → Mem → Prop) : cbody Tryz.prog C2 (fun _ => none) 1000 (fnOf Tryz.prog 8) [(insA 17 isz ico tk tr tb tx ts tp tf tn tw tm fk fr fb fx fs fp ff fn fw fm sh)] [] K =
    F8_17  isz ico tk tr tb tx ts tp tf tn tw tm fk fr fb fx fs fp ff fn fw fm sh (K (.I .i64 30) []) (K (.I .i64 0) []) := by kernel_rfl
def G8_17 := F8_17 
def F8_18  (isz ico tk tr tb tx ts : Int) (tp tf : Bool) (tn : Int) (tw : List Int) (tm fk fr fb fx fs : Int) (fp ff : Bool) (fn : Int) (fw : List Int) (fm : Int) (sh : Bool) (k1 k2 : Prop) : Prop :=
  let q0 := (bif (regB fk fr fb fx fs fp ff fn fw fm) then (bif (regB tk tr tb tx ts tp tf tn tw tm) then (bif (!(fr == 1)) then k1 else (bif sh then k1 else k2)) else (bif (memB tk tr tb tx ts tp tf tn tw tm) then (bif (!(fr == 1)) then k1 else (bif sh then k1 else k2)) else k1)) else (bif (regB tk tr tb tx ts tp tf tn tw tm) then k1 else (bif (memB tk tr tb tx ts tp tf tn tw tm) then k1 else k1)))
  let q2 := (bif (regB tk tr tb tx ts tp tf tn tw tm) then (bif sh then k1 else k2) else (bif (memB tk tr tb tx ts tp tf tn tw tm) then (bif sh then k1 else k2) else k1))
  let q1 := (bif (!(ico == 0)) then k1 else (bif (isz == 8) then (bif (immB fk fr fb fx fs fp ff fn fw fm) then (bif (decide (fn ≥ 0)) then (bif (decide (fn ≤ 63)) then q2 else q0) else q0) else q0) else (bif (immB fk fr fb fx fs fp ff fn fw fm) then (bif (decide (fn ≥ 0)) then (bif (decide (fn ≤ 31)) then q2 else q0) else q0) else q0)))
  (bif (isz == 1) then q1 else (bif (isz == 4) then q1 else (bif (!(isz == 8)) then k1 else q1)))
theorem F8_18_ok  (isz ico tk tr tb tx ts : Int) (tp tf : Bool) (tn : Int) (tw : List Int) (tm fk fr fb fx fs : Int) (fp ff : Bool) (fn : Int) (fw : List Int) (fm : Int) (sh : Bool) (K : V → Mem → Prop) : cbody Tryz.prog C2 (fun _ => none) 1000 (fnOf Tryz.prog 8) [(insA 18 isz ico tk tr tb tx ts tp tf tn tw tm fk fr fb fx fs fp ff fn fw fm sh)] [] K =
    F8_18  isz ico tk tr tb tx ts tp tf tn tw tm fk fr fb fx fs fp ff fn fw fm sh (K (.I .i64 30) []) (K (.I .i64 0) []) := by kernel_rfl
def G8_18 := F8_18 
def F8_19  (isz ico tk tr tb tx ts : Int) (tp tf : Bool) (tn : Int) (tw : List Int) (tm fk fr fb fx fs : Int) (fp ff : Bool) (fn : Int) (fw : List Int) (fm : Int) (sh : Bool) (k1 k2 : Prop) : Prop :=
  let q0 := (bif (regB fk fr fb fx fs fp ff fn fw fm) then (bif (regB tk tr tb tx ts tp tf tn tw tm) then (bif (!(fr == 1)) then k1 else (bif sh then k1 else k2)) else (bif (memB tk tr tb tx ts tp tf tn tw tm) then (bif (!(fr == 1)) then k1 else (bif sh then k1 else k2)) else k1)) else (bif (regB tk tr tb tx ts tp tf tn tw tm) then k1 else (bif (memB tk tr tb tx ts tp tf tn tw tm) then k1 else k1)))
  let q2 := (bif (regB tk tr tb tx ts tp tf tn tw tm) then (bif sh then k1 else k2) else (bif (memB tk tr tb tx ts tp tf tn tw tm) then (bif sh then k1 else k2) else k1))
  let q1 := (bif (!(ico == 0)) then k1 else (bif (isz == 8) then (bif (immB fk fr fb fx fs fp ff fn fw fm) then (bif (decide (fn ≥ 0)) then (bif (decide (fn ≤ 63)) then q2 else q0) else q0) else q0) else (bif (immB fk fr fb fx fs fp ff fn fw fm) then (bif (decide (fn ≥ 0)) then (bif (decide (fn ≤ 31)) then q2 else q0) else q0) else q0)))
  (bif (isz == 1) then q1 else (bif (isz == 4) then q1 else (bif (!(isz == 8)) then k1 else q1)))
theorem F8_19_ok  (isz ico tk tr tb tx ts : Int) (tp tf : Bool) (tn : Int) (tw : List Int) (tm fk fr fb fx fs : Int) (fp ff : Bool) (fn : Int) (fw : List Int) (fm : Int) (sh : Bool) (K : V → Mem → Prop) : cbody Tryz.prog C2 (fun _ => none) 1000 (fnOf Tryz.prog 8) [(insA 19 isz ico tk tr tb tx ts tp tf tn tw tm fk fr fb fx fs fp ff fn fw fm sh)] [] K =
    F8_19  isz ico tk tr tb tx ts tp tf tn tw tm fk fr fb fx fs fp ff fn fw fm sh (K (.I .i64 30) []) (K (.I .i64 0) []) := by kernel_rfl
def G8_19 := F8_19 
def F8_20  (isz ico tk tr tb tx ts : Int) (tp tf : Bool) (tn : Int) (tw : List Int) (tm fk fr fb fx fs : Int) (fp ff : Bool) (fn : Int) (fw : List Int) (fm : Int) (sh : Bool) (k1 k2 : Prop) : Prop :=
  (bif (!(isz == 8)) then k1 else (bif (!(ico == 0)) then k1 else (bif (noneB tk tr tb tx ts tp tf tn tw tm) then (bif (regB fk fr fb fx fs fp ff fn fw fm) then (bif sh then k1 else k2) else (bif (memB fk fr fb fx fs fp ff fn fw fm) then (bif sh then k1 else k2) else (bif (immB fk fr fb fx fs fp ff fn fw fm) then (bif (decide (fn ≥ (-2147483648))) then (bif (!(decide (fn < 2147483648))) then k1 else (bif sh then k1 else k2)) else k1) else k1))) else k1)))
theorem F8_20_ok  (isz ico tk tr tb tx ts : Int) (tp tf : Bool) (tn : Int) (tw : List Int) (tm fk fr fb fx fs : Int) (fp ff : Bool) (fn : Int) (fw : List Int) (fm : Int) (sh : Bool) (K : V → Mem → Prop) : cbody Tryz.prog C2 (fun _ => none) 1000 (fnOf Tryz.prog 8) [(insA 20 isz ico tk tr tb tx ts tp tf tn tw tm fk fr fb fx fs fp ff fn fw fm sh)] [] K =
    F8_20  isz ico tk tr tb tx ts tp tf tn tw tm fk fr fb fx fs fp ff fn fw fm sh (K (.I .i64 30) []) (K (.I .i64 0) []) := by kernel_rfl
def G8_20 := F8_20 
def F8_21  (isz ico tk tr tb tx ts : Int) (tp tf : Bool) (tn : Int) (tw : List Int) (tm fk fr fb fx fs : Int) (fp ff : Bool) (fn : Int) (fw : List Int) (fm : Int) (sh : Bool) (k1 k2 : Prop) : Prop :=
  (bif (!(isz == 8)) then k1 else (bif (!(ico == 0)) then k1 else (bif (regB tk tr tb tx ts tp tf tn tw tm) then (bif (!(noneB fk fr fb fx fs fp ff fn fw fm)) then k1 else (bif sh then k1 else k2)) else (bif (memB tk tr tb tx ts tp tf tn tw tm) then (bif (!(noneB fk fr fb fx fs fp ff fn fw fm)) then k1 else (bif sh then k1 else k2)) else k1))))
theorem F8_21_ok  (isz ico tk tr tb tx ts : Int) (tp tf : Bool) (tn : Int) (tw : List Int) (tm fk fr fb fx fs : Int) (fp ff : Bool) (fn : Int) (fw : List Int) (fm : Int) (sh : Bool) (K : V → Mem → Prop) : cbody Tryz.prog C2 (fun _ => none) 1000 (fnOf Tryz.prog 8) [(insA 21 isz ico tk tr tb tx ts tp tf tn tw tm fk fr fb fx fs fp ff fn fw fm sh)] [] K =
    F8_21  isz ico tk tr tb tx ts tp tf tn tw tm fk fr fb fx fs fp ff fn fw fm sh (K (.I .i64 30) []) (K (.I .i64 0) []) := by kernel_rfl
def G8_21 := F8_21 
def F8_22  (isz ico tk tr tb tx ts : Int) (tp tf : Bool) (tn : Int) (tw : List Int) (tm fk fr fb fx fs : Int) (fp ff : Bool) (fn : Int) (fw : List Int) (fm : Int) (sh : Bool) (k1 k2 : Prop) : Prop :=
  (bif (!(isz == 8)) then k1 else (bif (!(ico == 0)) then k1 else (bif (!(noneB fk fr fb fx fs fp ff fn fw fm)) then k1 else (bif (tgtB tk tr tb tx ts tp tf tn tw tm) then (bif (!sh) then (bif sh then k1 else k2) else k1) else (bif (!sh) then (bif (regB tk tr tb tx ts tp tf tn tw tm) then (bif sh then k1 else k2) else (bif (!(memB tk tr tb tx ts tp tf tn tw tm)) then k1 else (bif sh then k1 else k2))) else k1)))))
theorem F8_22_ok  (isz ico tk tr tb tx ts : Int) (tp tf : Bool) (tn : Int) (tw : List Int) (tm fk fr fb fx fs : Int) (fp ff : Bool) (fn : Int) (fw : List Int) (fm : Int) (sh : Bool) (K : V → Mem → Prop) : cbody Tryz.prog C2 (fun _ => none) 1000 (fnOf Tryz.prog 8) [(insA 22 isz ico tk tr tb tx ts tp tf tn tw tm fk fr fb fx fs fp ff fn fw fm sh)] [] K =
    F8_22  isz ico tk tr tb tx ts tp tf tn tw tm fk fr fb fx fs fp ff fn fw fm sh (K (.I .i64 30) []) (K (.I .i64 0) []) := by kernel_rfl
def G8_22 := F8_22 
def F8_23  (isz ico tk tr tb tx ts : Int) (tp tf : Bool) (tn : Int) (tw : List Int) (tm fk fr fb fx fs : Int) (fp ff : Bool) (fn : Int) (fw : List Int) (fm : Int) (sh : Bool) (k1 k2 : Prop) : Prop :=
  (bif (!(isz == 8)) then k1 else (bif (!(ico == 0)) then k1 else (bif (!(noneB fk fr fb fx fs fp ff fn fw fm)) then k1 else (bif (tgtB tk tr tb tx ts tp tf tn tw tm) then (bif (!sh) then (bif sh then k2 else k2) else (bif (!(tw == ([] : List Int))) then (bif sh then k2 else k2) else (bif (decide (tn ≥ (-128))) then (bif (!(decide (tn ≤ 127))) then k1 else (bif sh then k2 else k2)) else k1))) else (bif (!sh) then (bif (regB tk tr tb tx ts tp tf tn tw tm) then (bif sh then k2 else k2) else (bif (!(memB tk tr tb tx ts tp tf tn tw tm)) then k1 else (bif sh then k2 else k2))) else k1)))))
theorem F8_23_ok  (isz ico tk tr tb tx ts : Int) (tp tf : Bool) (tn : Int) (tw : List Int) (tm fk fr fb fx fs : Int) (fp ff : Bool) (fn : Int) (fw : List Int) (fm : Int) (sh : Bool) (K : V → Mem → Prop) : cbody Tryz.prog C2 (fun _ => none) 1000 (fnOf Tryz.prog 8) [(insA 23 isz ico tk tr tb tx ts tp tf tn tw tm fk fr fb fx fs fp ff fn fw fm sh)] [] K =
    F8_23  isz ico tk tr tb tx ts tp tf tn tw tm fk fr fb fx fs fp ff fn fw fm sh (K (.I .i64 30) []) (K (.I .i64 0) []) := by kernel_rfl
def G8_23 := F8_23 
def F8_24  (isz ico tk tr tb tx ts : Int) (tp tf : Bool) (tn : Int) (tw : List Int) (tm fk fr fb fx fs : Int) (fp ff : Bool) (fn : Int) (fw : List Int) (fm : Int) (sh : Bool) (k1 k2 : Prop) : Prop :=
  (bif (!(isz == 8)) then k1 else (bif (decide (ico ≥ 0)) then (bif (!(decide (ico < 16))) then k1 else (bif (!(noneB fk fr fb fx fs fp ff fn fw fm)) then k1 else (bif (tgtB tk tr tb tx ts tp tf tn tw tm) then (bif (!sh) then (bif sh then k2 else k2) else (bif (!(tw == ([] : List Int))) then (bif sh then k2 else k2) else (bif (decide (tn ≥ (-128))) then (bif (!(decide (tn ≤ 127))) then k1 else (bif sh then k2 else k2)) else k1))) else (bif (!sh) then k1 else k1)))) else k1))
theorem F8_24_ok  (isz ico tk tr tb tx ts : Int) (tp tf : Bool) (tn : Int) (tw : List Int) (tm fk fr fb fx fs : Int) (fp ff : Bool) (fn : Int) (fw : List Int) (fm : Int) (sh : Bool) (K : V → Mem → Prop) : cbody Tryz.prog C2 (fun _ => none) 1000 (fnOf Tryz.prog 8) [(insA 24 isz ico tk tr tb tx ts tp tf tn tw tm fk fr fb fx fs fp ff fn fw fm sh)] [] K =
    F8_24  isz ico tk tr tb tx ts tp tf tn tw tm fk fr fb fx fs fp ff fn fw fm sh (K (.I .i64 30) []) (K (.I .i64 0) []) := by kernel_rfl
def G8_24 := F8_24 
def F8_25  (isz ico tk tr tb tx ts : Int) (tp tf : Bool) (tn : Int) (tw : List Int) (tm fk fr fb fx fs : Int) (fp ff : Bool) (fn : Int) (fw : List Int) (fm : Int) (sh : Bool) (k1 k2 : Prop) : Prop :=
  (bif (!(isz == 0)) then k1 else (bif (!(ico == 0)) then k1 else (bif (noneB tk tr tb tx ts tp tf tn tw tm) then (bif (!(noneB fk fr fb fx fs fp ff fn fw fm)) then k1 else (bif sh then k1 else k2)) else k1)))
theorem F8_25_ok  (isz ico tk tr tb tx ts : Int) (tp tf : Bool) (tn : Int) (tw : List Int) (tm fk fr fb fx fs : Int) (fp ff : Bool) (fn : Int) (fw : List Int) (fm : Int) (sh : Bool) (K : V → Mem → Prop) : cbody Tryz.prog C2 (fun _ => none) 1000 (fnOf Tryz.prog 8) [(insA 25 isz ico tk tr tb tx ts tp tf tn tw tm fk fr fb fx fs fp ff fn fw fm sh)] [] K =
    F8_25  isz ico tk tr tb tx ts tp tf tn tw tm fk fr fb fx fs fp ff fn fw fm sh (K (.I .i64 30) []) (K (.I .i64 0) []) := by kernel_rfl
def G8_25 := F8_25 
def F8_26  (isz ico tk tr tb tx ts : Int) (tp tf : Bool) (tn : Int) (tw : List Int) (tm fk fr fb fx fs : Int) (fp ff : Bool) (fn : Int) (fw : List Int) (fm : Int) (sh : Bool) (k1 k2 : Prop) : Prop :=
  (bif (!(isz == 0)) then k1 else (bif (!(ico == 0)) then k1 else (bif (noneB tk tr tb tx ts tp tf tn tw tm) then (bif (!(noneB fk fr fb fx fs fp ff fn fw fm)) then k1 else (bif sh then k1 else k2)) else k1)))
theorem F8_26_ok  (isz ico tk tr tb tx ts : Int) (tp tf : Bool) (tn : Int) (tw : List Int) (tm fk fr fb fx fs : Int) (fp ff : Bool) (fn : Int) (fw : List Int) (fm : Int) (sh : Bool) (K : V → Mem → Prop) : cbody Tryz.prog C2 (fun _ => none) 1000 (fnOf Tryz.prog 8) [(insA 26 isz ico tk tr tb tx ts tp tf tn tw tm fk fr fb fx fs fp ff fn fw fm sh)] [] K =
    F8_26  isz ico tk tr tb tx ts tp tf tn tw tm fk fr fb fx fs fp ff fn fw fm sh (K (.I .i64 30) []) (K (.I .i64 0) []) := by kernel_rfl
def G8_26 := F8_26 
def F8_27  (isz ico tk tr tb tx ts : Int) (tp tf : Bool) (tn : Int) (tw : List Int) (tm fk fr fb fx fs : Int) (fp ff : Bool) (fn : Int) (fw : List Int) (fm : Int) (sh : Bool) (k1 k2 : Prop) : Prop :=
  (bif (!(isz == 1)) then k1 else (bif (decide (ico ≥ 0)) then (bif (!(decide (ico < 16))) then k1 else (bif (regB tk tr tb tx ts tp tf tn tw tm) then (bif (!(noneB fk fr fb fx fs fp ff fn fw fm)) then k1 else (bif sh then k1 else k2)) else (bif (memB tk tr tb tx ts tp tf tn tw tm) then (bif (!(noneB fk fr fb fx fs fp ff fn fw fm)) then k1 else (bif sh then k1 else k2)) else k1))) else k1))
theorem F8_27_ok  (isz ico tk tr tb tx ts : Int) (tp tf : Bool) (tn : Int) (tw : List Int) (tm fk fr fb fx fs : Int) (fp ff : Bool) (fn : Int) (fw : List Int) (fm : Int) (sh : Bool) (K : V → Mem → Prop) : cbody Tryz.prog C2 (fun _ => none) 1000 (fnOf Tryz.prog 8) [(insA 27 isz ico tk tr tb tx ts tp tf tn tw tm fk fr fb fx fs fp ff fn fw fm sh)] [] K =
    F8_27  isz ico tk tr tb tx ts tp tf tn tw tm fk fr fb fx fs fp ff fn fw fm sh (K (.I .i64 30) []) (K (.I .i64 0) []) := by kernel_rfl
def G8_27 := F8_27 
def F8_28  (isz ico tk tr tb tx ts : Int) (tp tf : Bool) (tn : Int) (tw : List Int) (tm fk fr fb fx fs : Int) (fp ff : Bool) (fn : Int) (fw : List Int) (fm : Int) (sh : Bool) (k1 k2 : Prop) : Prop :=
  (bif (isz == 4) then (bif (decide (ico ≥ 0)) then (bif (!(decide (ico < 16))) then k1 else (bif (regB tk tr tb tx ts tp tf tn tw tm) then (bif (regB fk fr fb fx fs fp ff fn fw fm) then (bif sh then k1 else k2) else (bif (!(memB fk fr fb fx fs fp ff fn fw fm)) then k1 else (bif sh then k1 else k2))) else k1)) else k1) else (bif (!(isz == 8)) then k1 else (bif (decide (ico ≥ 0)) then (bif (!(decide (ico < 16))) then k1 else (bif (regB tk tr tb tx ts tp tf tn tw tm) then (bif (regB fk fr fb fx fs fp ff fn fw fm) then (bif sh then k1 else k2) else (bif (!(memB fk fr fb fx fs fp ff fn fw fm)) then k1 else (bif sh then k1 else k2))) else k1)) else k1)))
theorem F8_28_ok  (isz ico tk tr tb tx ts : Int) (tp tf : Bool) (tn : Int) (tw : List Int) (tm fk fr fb fx fs : Int) (fp ff : Bool) (fn : Int) (fw : List Int) (fm : Int) (sh : Bool) (K : V → Mem → Prop) : cbody Tryz.prog C2 (fun _ => none) 1000 (fnOf Tryz.prog 8) [(insA 28 isz ico tk tr tb tx ts tp tf tn tw tm fk fr fb fx fs fp ff fn fw fm sh)] [] K =
    F8_28  isz ico tk tr tb tx ts tp tf tn tw tm fk fr fb fx fs fp ff fn fw fm sh (K (.I .i64 30) []) (K (.I .i64 0) []) := by kernel_rfl
def G8_28 := F8_28 
def F8_29  (isz ico tk tr tb tx ts : Int) (tp tf : Bool) (tn : Int) (tw : List Int) (tm fk fr fb fx fs : Int) (fp ff : Bool) (fn : Int) (fw : List Int) (fm : Int) (sh : Bool) (k1 k2 : Prop) : Prop :=
  (bif (isz == 4) then (bif (!(ico == 0)) then k1 else (bif (regB tk tr tb tx ts tp tf tn tw tm) then (bif (regB fk fr fb fx fs fp ff fn fw fm) then (bif sh then k1 else k2) else (bif (!(memB fk fr fb fx fs fp ff fn fw fm)) then k1 else (bif sh then k1 else k2))) else k1)) else (bif (!(isz == 8)) then k1 else (bif (!(ico == 0)) then k1 else (bif (regB tk tr tb tx ts tp tf tn tw tm) then (bif (regB fk fr fb fx fs fp ff fn fw fm) then (bif sh then k1 else k2) else (bif (!(memB fk fr fb fx fs fp ff fn fw fm)) then k1 else (bif sh then k1 else k2))) else k1))))
theorem F8_29_ok  (isz ico tk tr tb tx ts : Int) (tp tf : Bool) (tn : Int) (tw : List Int) (tm fk fr fb fx fs : Int) (fp ff : Bool) (fn : Int) (fw : List Int) (fm : Int) (sh : Bool) (K : V → Mem → Prop) : cbody Tryz.prog C2 (fun _ => none) 1000 (fnOf Tryz.prog 8) [(insA 29 isz ico tk tr tb tx ts tp tf tn tw tm fk fr fb fx fs fp ff fn fw fm sh)] [] K =
    F8_29  isz ico tk tr tb tx ts tp tf tn tw tm fk fr fb fx fs fp ff fn fw fm sh (K (.I .i64 30) []) (K (.I .i64 0) []) := by kernel_rfl
def G8_29 := F8_29 
def F8_30  (isz ico tk tr tb tx ts : Int) (tp tf : Bool) (tn : Int) (tw : List Int) (tm fk fr fb fx fs : Int) (fp ff : Bool) (fn : Int) (fw : List Int) (fm : Int) (sh : Bool) (k1 k2 : Prop) : Prop :=
  (bif (isz == 4) then (bif (!(ico == 0)) then k1 else (bif (regB tk tr tb tx ts tp tf tn tw tm) then (bif (regB fk fr fb fx fs fp ff fn fw fm) then (bif sh then k1 else k2) else (bif (!(memB fk fr fb fx fs fp ff fn fw fm)) then k1 else (bif sh then k1 else k2))) else k1)) else (bif (!(isz == 8)) then k1 else (bif (!(ico == 0)) then k1 else (bif (regB tk tr tb tx ts tp tf tn tw tm) then (bif (regB fk fr fb fx fs fp ff fn fw fm) then (bif sh then k1 else k2) else (bif (!(memB fk fr fb fx fs fp ff fn fw fm)) then k1 else (bif sh then k1 else k2))) else k1))))
theorem F8_30_ok  (isz ico tk tr tb tx ts : Int) (tp tf : Bool) (tn : Int) (tw : List Int) (tm fk fr fb fx fs : Int) (fp ff : Bool) (fn : Int) (fw : List Int) (fm : Int) (sh : Bool) (K : V → Mem → Prop) : cbody Tryz.prog C2 (fun _ => none) 1000 (fnOf Tryz.prog 8) [(insA 30 isz ico tk tr tb tx ts tp tf tn tw tm fk fr fb fx fs fp ff fn fw fm sh)] [] K =
    F8_30  isz ico tk tr tb tx ts tp tf tn tw tm fk fr fb fx fs fp ff fn fw fm sh (K (.I .i64 30) []) (K (.I .i64 0) []) := by kernel_rfl
def G8_30 := F8_30 
def F8_31  (isz ico tk tr tb tx ts : Int) (tp tf : Bool) (tn : Int) (tw : List Int) (tm fk fr fb fx fs : Int) (fp ff : Bool) (fn : Int) (fw : List Int) (fm : Int) (sh : Bool) (k1 k2 : Prop) : Prop :=
  (bif (isz == 4) then (bif (!(ico == 0)) then k1 else (bif (regB tk tr tb tx ts tp tf tn tw tm) then (bif (!(regB fk fr fb fx fs fp ff fn fw fm)) then k1 else (bif sh then k1 else k2)) else (bif (memB tk tr tb tx ts tp tf tn tw tm) then (bif (!(regB fk fr fb fx fs fp ff fn fw fm)) then k1 else (bif sh then k1 else k2)) else k1))) else (bif (!(isz == 8)) then k1 else (bif (!(ico == 0)) then k1 else (bif (regB tk tr tb tx ts tp tf tn tw tm) then (bif (!(regB fk fr fb fx fs fp ff fn fw fm)) then k1 else (bif sh then k1 else k2)) else (bif (memB tk tr tb tx ts tp tf tn tw tm) then (bif (!(regB fk fr fb fx fs fp ff fn fw fm)) then k1 else (bif sh then k1 else k2)) else k1)))))
theorem F8_31_ok  (isz ico tk tr tb tx ts : Int) (tp tf : Bool) (tn : Int) (tw : List Int) (tm fk fr fb fx fs : Int) (fp ff : Bool) (fn : Int) (fw : List Int) (fm : Int) (sh : Bool) (K : V → Mem → Prop) : cbody Tryz.prog C2 (fun _ => none) 1000 (fnOf Tryz.prog 8) [(insA 31 isz ico tk tr tb tx ts tp tf tn tw tm fk fr fb fx fs fp ff fn fw fm sh)] [] K =
    F8_31  isz ico tk tr tb tx ts tp tf tn tw tm fk fr fb fx fs fp ff fn fw fm sh (K (.I .i64 30) []) (K (.I .i64 0) []) := by kernel_rfl
def G8_31 := F8_31 
def F8_32  (isz ico tk tr tb tx ts : Int) (tp tf : Bool) (tn : Int) (tw : List Int) (tm fk fr fb fx fs : Int) (fp ff : Bool) (fn : Int) (fw : List Int) (fm : Int) (sh : Bool) (k1 k2 : Prop) : Prop :=
  (bif (!(isz == 0)) then k1 else (bif (!(ico == 0)) then k1 else (bif (noneB tk tr tb tx ts tp tf tn tw tm) then (bif (!(noneB fk fr fb fx fs fp ff fn fw fm)) then k1 else (bif sh then k1 else k2)) else k1)))
theorem F8_32_ok  (isz ico tk tr tb tx ts : Int) (tp tf : Bool) (tn : Int) (tw : List Int) (tm fk fr fb fx fs : Int) (fp ff : Bool) (fn : Int) (fw : List Int) (fm : Int) (sh : Bool) (K : V → Mem → Prop) : cbody Tryz.prog C2 (fun _ => none) 1000 (fnOf Tryz.prog 8) [(insA 32 isz ico tk tr tb tx ts tp tf tn tw tm fk fr fb fx fs fp ff fn fw fm sh)] [] K =
    F8_32  isz ico tk tr tb tx ts tp tf tn tw tm fk fr fb fx fs fp ff fn fw fm sh (K (.I .i64 30) []) (K (.I .i64 0) []) := by kernel_rfl
def G8_32 := F8_32 
def F8_33  (isz ico tk tr tb tx ts : Int) (tp tf : Bool) (tn : Int) (tw : List Int) (tm fk fr fb fx fs : Int) (fp ff : Bool) (fn : Int) (fw : List Int) (fm : Int) (sh : Bool) (k1 k2 : Prop) : Prop :=
  (bif (!(isz == 0)) then k1 else (bif (!(ico == 0)) then k1 else (bif (noneB tk tr tb tx ts tp tf tn tw tm) then (bif (!(noneB fk fr fb fx fs fp ff fn fw fm)) then k1 else (bif sh then k1 else k2)) else k1)))
theorem F8_33_ok  (isz ico tk tr tb tx ts : Int) (tp tf : Bool) (tn : Int) (tw : List Int) (tm fk fr fb fx fs : Int) (fp ff : Bool) (fn : Int) (fw : List Int) (fm : Int) (sh : Bool) (K : V → Mem → Prop) : cbody Tryz.prog C2 (fun _ => none) 1000 (fnOf Tryz.prog 8) [(insA 33 isz ico tk tr tb tx ts tp tf tn tw tm fk fr fb fx fs fp ff fn fw fm sh)] [] K =
    F8_33  isz ico tk tr tb tx ts tp tf tn tw tm fk fr fb fx fs fp ff fn fw fm sh (K (.I .i64 30) []) (K (.I .i64 0) []) := by kernel_rfl
def G8_33 := F8_33 
def F8_34  (isz ico tk tr tb tx ts : Int) (tp tf : Bool) (tn : Int) (tw : List Int) (tm fk fr fb fx fs : Int) (fp ff : Bool) (fn : Int) (fw : List Int) (fm : Int) (sh : Bool) (k1 k2 : Prop) : Prop :=
  (bif (!(isz == 0)) then k1 else (bif (!(ico == 0)) then k1 else (bif (noneB tk tr tb tx ts tp tf tn tw tm) then (bif (!(noneB fk fr fb fx fs fp ff fn fw fm)) then k1 else (bif sh then k1 else k2)) else k1)))
theorem F8_34_ok  (isz ico tk tr tb tx ts : Int) (tp tf : Bool) (tn : Int) (tw : List Int) (tm fk fr fb fx fs : Int) (fp ff : Bool) (fn : Int) (fw : List Int) (fm : Int) (sh : Bool) (K : V → Mem → Prop) : cbody Tryz.prog C2 (fun _ => none) 1000 (fnOf Tryz.prog 8) [(insA 34 isz ico tk tr tb tx ts tp tf tn tw tm fk fr fb fx fs fp ff fn fw fm sh)] [] K =
    F8_34  isz ico tk tr tb tx ts tp tf tn tw tm fk fr fb fx fs fp ff fn fw fm sh (K (.I .i64 30) []) (K (.I .i64 0) []) := by kernel_rfl
def G8_34 := F8_34 
def F8_35  (isz ico tk tr tb tx ts : Int) (tp tf : Bool) (tn : Int) (tw : List Int) (tm fk fr fb fx fs : Int) (fp ff : Bool) (fn : Int) (fw : List Int) (fm : Int) (sh : Bool) (k1 k2 : Prop) : Prop :=
  (bif (!(isz == 0)) then k1 else (bif (!(ico == 0)) then k1 else (bif (noneB tk tr tb tx ts tp tf tn tw tm) then (bif (!(noneB fk fr fb fx fs fp ff fn fw fm)) then k1 else (bif sh then k1 else k2)) else k1)))
theorem F8_35_ok  (isz ico tk tr tb tx ts : Int) (tp tf : Bool) (tn : Int) (tw : List Int) (tm fk fr fb fx fs : Int) (fp ff : Bool) (fn : Int) (fw : List Int) (fm : Int) (sh : Bool) (K : V → Mem → Prop) : cbody Tryz.prog C2 (fun _ => none) 1000 (fnOf Tryz.prog 8) [(insA 35 isz ico tk tr tb tx ts tp tf tn tw tm fk fr fb fx fs fp ff fn fw fm sh)] [] K =
    F8_35  isz ico tk tr tb tx ts tp tf tn tw tm fk fr fb fx fs fp ff fn fw fm sh (K (.I .i64 30) []) (K (.I .i64 0) []) := by kernel_rfl
def G8_35 := F8_35 
def F8_z  (isz ico tk tr tb tx ts : Int) (tp tf : Bool) (tn : Int) (tw : List Int) (tm fk fr fb fx fs : Int) (fp ff : Bool) (fn : Int) (fw : List Int) (fm : Int) (sh : Bool) (k1 : Prop) : Prop :=
  (k1)
theorem F8_z_ok  (isz ico tk tr tb tx ts : Int) (tp tf : Bool) (tn : Int) (tw : List Int) (tm fk fr fb fx fs : Int) (fp ff : Bool) (fn : Int) (fw : List Int) (fm : Int) (sh : Bool) (K : V → Mem → Prop) : cbody Tryz.prog C2 (fun _ => none) 1000 (fnOf Tryz.prog 8) [(insA 0 isz ico tk tr tb tx ts tp tf tn tw tm fk fr fb fx fs fp ff fn fw fm sh)] [] K =
    F8_z  isz ico tk tr tb tx ts tp tf tn tw tm fk fr fb fx fs fp ff fn fw fm sh (K (.I .i64 30) []) := by kernel_rfl
def G8_z := F8_z 
def F8_m  (isz ico tk tr tb tx ts : Int) (tp tf : Bool) (tn : Int) (tw : List Int) (tm fk fr fb fx fs : Int) (fp ff : Bool) (fn : Int) (fw : List Int) (fm : Int) (sh : Bool) (k1 : Prop) : Prop :=
  (k1)
theorem F8_m_ok  (isz ico tk tr tb tx ts : Int) (tp tf : Bool) (tn : Int) (tw : List Int) (tm fk fr fb fx fs : Int) (fp ff : Bool) (fn : Int) (fw : List Int) (fm : Int) (sh : Bool) (K : V → Mem → Prop) : cbody Tryz.prog C2 (fun _ => none) 1000 (fnOf Tryz.prog 8) [(insA (-1) isz ico tk tr tb tx ts tp tf tn tw tm fk fr fb fx fs fp ff fn fw fm sh)] [] K =
    F8_m  isz ico tk tr tb tx ts tp tf tn tw tm fk fr fb fx fs fp ff fn fw fm sh (K (.I .i64 30) []) := by kernel_rfl
def G8_m := F8_m 
def F8_n  (q : Nat) (isz ico tk tr tb tx ts : Int) (tp tf : Bool) (tn : Int) (tw : List Int) (tm fk fr fb fx fs : Int) (fp ff : Bool) (fn : Int) (fw : List Int) (fm : Int) (sh : Bool) (k1 : Prop) : Prop :=
  (k1)
theorem F8_n_ok  (q : Nat) (isz ico tk tr tb tx ts : Int) (tp tf : Bool) (tn : Int) (tw : List Int) (tm fk fr fb fx fs : Int) (fp ff : Bool) (fn : Int) (fw : List Int) (fm : Int) (sh : Bool) (K : V → Mem → Prop) : cbody Tryz.prog C2 (fun _ => none) 1000 (fnOf Tryz.prog 8) [(insA (Int.negSucc (q + 1)) isz ico tk tr tb tx ts tp tf tn tw tm fk fr fb fx fs fp ff fn fw fm sh)] [] K =
    F8_n  q isz ico tk tr tb tx ts tp tf tn tw tm fk fr fb fx fs fp ff fn fw fm sh (K (.I .i64 30) []) := by kernel_rfl
def G8_n := F8_n 
def F8_p  (q : Nat) (isz ico tk tr tb tx ts : Int) (tp tf : Bool) (tn : Int) (tw : List Int) (tm fk fr fb fx fs : Int) (fp ff : Bool) (fn : Int) (fw : List Int) (fm : Int) (sh : Bool) (k1 : Prop) : Prop :=
  (k1)
theorem F8_p_ok  (q : Nat) (isz ico tk tr tb tx ts : Int) (tp tf : Bool) (tn : Int) (tw : List Int) (tm fk fr fb fx fs : Int) (fp ff : Bool) (fn : Int) (fw : List Int) (fm : Int) (sh : Bool) (K : V → Mem → Prop) : cbody Tryz.prog C2 (fun _ => none) 1000 (fnOf Tryz.prog 8) [(insA (Int.ofNat (q + 36)) isz ico tk tr tb tx ts tp tf tn tw tm fk fr fb fx fs fp ff fn fw fm sh)] [] K =
    F8_p  q isz ico tk tr tb tx ts tp tf tn tw tm fk fr fb fx fs fp ff fn fw fm sh (K (.I .i64 30) []) := by kernel_rfl
def G8_p := F8_p 
end Go.Proofs.YtkbijhfikkjhpaaGreatDoor.frm
set_option linter.unusedVariables false
set_option linter.unusedSimpArgs false
set_option maxHeartbeats 4000000
set_option maxRecDepth 100000
namespace Go.Proofs.YtkbijhfikkjhpaaGreatDoor.frm
open Go Go.Ab
def primsX : Prims := fun f =>
  match Nat.beq f 17 with
  | true => some (fun _ _ _ => False)
  | false => prims2 f
theorem primsX_ok : PrimsOk Tryz.prog primsX := by
  intro f g hg
  unfold primsX at hg
  split at hg
  · rename_i hf
    obtain rfl := Nat.eq_of_beq_eq_true hf
    cases hg
    intro args m K E w cargs hS ha h
    exact h.elim
  · skip
    exact prims2_ok f g hg
def CX : CC := call Tryz.prog primsX 1000
theorem CX_ok : CallsOk Tryz.prog CX := call_sound named primsX_ok 1000

def F7_x  (iop isz ico tk tr tb tx ts : Int) (tp tf : Bool) (tn : Int) (tw : List Int) (tm fk fr fb fx fs : Int) (fp ff : Bool) (fn : Int) (fw : List Int) (fm : Int) (sh : Bool) (k1 : Prop) : Prop :=
  (bif (decide (iop < (1 : Int))) then k1 else (bif (decide (iop > (35 : Int))) then k1 else False))
theorem F7_x_ok  (iop isz ico tk tr tb tx ts : Int) (tp tf : Bool) (tn : Int) (tw : List Int) (tm fk fr fb fx fs : Int) (fp ff : Bool) (fn : Int) (fw : List Int) (fm : Int) (sh : Bool) (K : V → Mem → Prop) : cbody Tryz.prog CX (fun _ => none) 1000 (fnOf Tryz.prog 7) [(insA iop isz ico tk tr tb tx ts tp tf tn tw tm fk fr fb fx fs fp ff fn fw fm sh)] [] K =
    F7_x  iop isz ico tk tr tb tx ts tp tf tn tw tm fk fr fb fx fs fp ff fn fw fm sh (K (.I .i64 (30 : Int)) []) := by kernel_rfl
def G7_x := F7_x 
end Go.Proofs.YtkbijhfikkjhpaaGreatDoor.frm
