import Derived.Test.YtkbijhfikkjhpaaGreatDoorTxt3
import Derived.Test.YtkbijhfikkjhpaaGreatDoorTxt4
set_option linter.unusedVariables false
set_option linter.unusedSimpArgs false
set_option maxHeartbeats 4000000
set_option maxRecDepth 100000
namespace Go.Proofs.YtkbijhfikkjhpaaGreatDoor.frm
open Go Go.Ab Go.Proofs.YtkbijhfikkjhpaaGreatDoor.fc
def txtR (iop isz ico tk tr tb tx ts : Int) (tp tf : Bool) (tn : Int) (tw : List Int) (tm fk fr fb fx fs : Int) (fp ff : Bool) (fn : Int) (fw : List Int) (fm : Int) (sh : Bool) : List Int := bif validB iop isz ico tk tr tb tx ts tp tf tn tw tm fk fr fb fx fs fp ff fn fw fm sh then txtI iop isz ico tk tr tb tx ts tp tf tn tw tm fk fr fb fx fs fp ff fn fw fm sh else []
def txtP : Prim := fun args m K =>
  match args, m with
  | [.agg [.I .i64 iop, .I .i64 isz, .I .i64 ico, .I .i64 tk, .I .i64 tr, .I .i64 tb, .I .i64 tx, .I .i64 ts, .B tp, .B tf, .I .i64 tn, .S tw, .I .i64 tm, .I .i64 fk, .I .i64 fr, .I .i64 fb, .I .i64 fx, .I .i64 fs, .B fp, .B ff, .I .i64 fn, .S fw, .I .i64 fm, .B sh]], [] => K (.tup [.S (txtR iop isz ico tk tr tb tx ts tp tf tn tw tm fk fr fb fx fs fp ff fn fw fm sh), .I .i64 (chkE iop isz ico tk tr tb tx ts tp tf tn tw tm fk fr fb fx fs fp ff fn fw fm sh)]) []
  | _, _ => False
theorem T4_ok : PrimOk Tryz.prog 4 txtP := by
  intro args m K E w cargs hS ha h
  unfold txtP at h
  split at h
  · rename_i iop isz ico tk tr tb tx ts tp tf tn tw tm fk fr fb fx fs fp ff fn fw fm sh
    have ht := rngAgg 10 ha rfl
    have hf := rngAgg 20 ha rfl
    refine cbody_use named CA_ok at4 (l := 0) rfl (LoopsOk.none _ _) (F4_ok iop isz ico tk tr tb tx ts tp tf tn tw tm fk fr fb fx fs fp ff fn fw fm sh K) hS ha ?_
    refine h4 iop isz ico tk tr tb tx ts tp tf tn tw tm fk fr fb fx fs fp ff fn fw fm sh (fun a e => K (.tup [.S a, .I .i64 e]) []) (fun a => K (.tup [.S a, .I .i64 0]) []) ht.1 ht.2 hf.1 hf.2 (fun hv => ?_) (fun hv => ?_)
    · unfold txtR chkE at h
      rw [hv] at h
      exact h
    · unfold txtR chkE at h
      rw [hv] at h
      exact h
  · cases h
theorem T5_ok : PrimOk Tryz.prog 5 txtP := by
  intro args m K E w cargs hS ha h
  unfold txtP at h
  split at h
  · rename_i iop isz ico tk tr tb tx ts tp tf tn tw tm fk fr fb fx fs fp ff fn fw fm sh
    have ht := rngAgg 10 ha rfl
    have hf := rngAgg 20 ha rfl
    refine cbody_use named CA_ok at5 (l := 0) rfl (LoopsOk.none _ _) (F5_ok iop isz ico tk tr tb tx ts tp tf tn tw tm fk fr fb fx fs fp ff fn fw fm sh K) hS ha ?_
    refine h5 iop isz ico tk tr tb tx ts tp tf tn tw tm fk fr fb fx fs fp ff fn fw fm sh (fun a => K (.tup [.S a, .I .i64 30]) []) (fun a => K (.tup [.S a, .I .i64 0]) []) ht.1 ht.2 hf.1 hf.2 (fun hv => ?_) (fun hv => ?_)
    · unfold txtR chkE at h
      rw [hv] at h
      exact h
    · unfold txtR chkE at h
      rw [hv] at h
      exact h
  · cases h
def primsB : Prims := fun f =>
  match Nat.beq f 4 with
  | true => some txtP
  | false =>
  match Nat.beq f 5 with
  | true => some txtP
  | false => primsA f
theorem primsB_ok : PrimsOk Tryz.prog primsB := by
  intro f g hg
  unfold primsB at hg
  split at hg
  · rename_i hf
    obtain rfl := Nat.eq_of_beq_eq_true hf
    cases hg
    exact T4_ok
  · skip
    split at hg
    · rename_i hf
      obtain rfl := Nat.eq_of_beq_eq_true hf
      cases hg
      exact T5_ok
    · skip
      exact primsA_ok f g hg
def CB : CC := call Tryz.prog primsB 1000
theorem CB_ok : CallsOk Tryz.prog CB := call_sound named primsB_ok 1000
theorem at9 : Tryz.prog.funcs[9]? = some (fnOf Tryz.prog 9) := by kernel_rfl
theorem knows_run (K : V → Mem → Prop) : cbody Tryz.prog CB (fun _ => none) 1000 (fnOf Tryz.prog 9) [] [] K = K (.B true) [] := by kernel_rfl
def P9 : Prim := fun args m K =>
  match args, m with
  | [], [] => K (.B true) []
  | _, _ => False
theorem P9_ok : PrimOk Tryz.prog 9 P9 := by
  intro args m K E w cargs hS ha h
  unfold P9 at h
  split at h
  · exact cbody_use named CB_ok at9 (l := 0) rfl (LoopsOk.none _ _) (knows_run K) hS ha h
  · cases h
def primsK : Prims := fun f =>
  match Nat.beq f 9 with
  | true => some P9
  | false => primsB f
theorem primsK_ok : PrimsOk Tryz.prog primsK := by
  intro f g hg
  unfold primsK at hg
  split at hg
  · rename_i hf
    obtain rfl := Nat.eq_of_beq_eq_true hf
    cases hg
    exact P9_ok
  · skip
    exact primsB_ok f g hg
def CK : CC := call Tryz.prog primsK 1000
theorem CK_ok : CallsOk Tryz.prog CK := call_sound named primsK_ok 1000
theorem at3 : Tryz.prog.funcs[3]? = some (fnOf Tryz.prog 3) := by kernel_rfl
abbrev Y3 : Type := Int → Int → Int → Int → Int → Int → Int → Int → Bool → Bool → Int → List Int → Int → Int → Int → Int → Int → Int → Bool → Bool → Int → List Int → Int → Bool → (Prop) → (Prop) → Prop
set_option maxHeartbeats 4000000 in
set_option maxRecDepth 100000 in
def F3  (iop : Int) (isz : Int) (ico : Int) (tk : Int) (tr : Int) (tb : Int) (tx : Int) (ts : Int) (tp : Bool) (tf : Bool) (tn : Int) (tw : List Int) (tm : Int) (fk : Int) (fr : Int) (fb : Int) (fx : Int) (fs : Int) (fp : Bool) (ff : Bool) (fn : Int) (fw : List Int) (fm : Int) (sh : Bool) (k1 : Prop) (k2 : Prop) : Prop :=
  (bif (((iop == iop) && ((isz == isz) && ((ico == ico) && ((tk == tk) && ((tr == tr) && ((tb == tb) && ((tx == tx) && ((ts == ts) && ((tp == tp) && ((tf == tf) && ((tn == tn) && ((tw == tw) && ((tm == tm) && ((fk == fk) && ((fr == fr) && ((fb == fb) && ((fx == fx) && ((fs == fs) && ((fp == fp) && ((ff == ff) && ((fn == fn) && ((fw == fw) && ((fm == fm) && ((sh == sh) && true)))))))))))))))))))))))) && true) then (bif (((iop == iop) && ((isz == isz) && ((ico == ico) && ((tk == tk) && ((tr == tr) && ((tb == tb) && ((tx == tx) && ((ts == ts) && ((tp == tp) && ((tf == tf) && ((tn == tn) && ((tw == tw) && ((tm == tm) && ((fk == fk) && ((fr == fr) && ((fb == fb) && ((fx == fx) && ((fs == fs) && ((fp == fp) && ((ff == ff) && ((fn == fn) && ((fw == fw) && ((fm == fm) && ((sh == sh) && true)))))))))))))))))))))))) && true) then (bif ((chkE iop isz ico tk tr tb tx ts tp tf tn tw tm fk fr fb fx fs fp ff fn fw fm sh) == (chkE iop isz ico tk tr tb tx ts tp tf tn tw tm fk fr fb fx fs fp ff fn fw fm sh)) then (bif ((txtR iop isz ico tk tr tb tx ts tp tf tn tw tm fk fr fb fx fs fp ff fn fw fm sh) == (txtR iop isz ico tk tr tb tx ts tp tf tn tw tm fk fr fb fx fs fp ff fn fw fm sh)) then (bif (((chkE iop isz ico tk tr tb tx ts tp tf tn tw tm fk fr fb fx fs fp ff fn fw fm sh) == (chkE iop isz ico tk tr tb tx ts tp tf tn tw tm fk fr fb fx fs fp ff fn fw fm sh)) && true) then (bif ((chkE iop isz ico tk tr tb tx ts tp tf tn tw tm fk fr fb fx fs fp ff fn fw fm sh) == (chkE iop isz ico tk tr tb tx ts tp tf tn tw tm fk fr fb fx fs fp ff fn fw fm sh)) then (k1) else (k2)) else False) else (k2)) else (k2)) else False) else False)
theorem F3_ok  (iop : Int) (isz : Int) (ico : Int) (tk : Int) (tr : Int) (tb : Int) (tx : Int) (ts : Int) (tp : Bool) (tf : Bool) (tn : Int) (tw : List Int) (tm : Int) (fk : Int) (fr : Int) (fb : Int) (fx : Int) (fs : Int) (fp : Bool) (ff : Bool) (fn : Int) (fw : List Int) (fm : Int) (sh : Bool) (K : V → Mem → Prop) : cbody Tryz.prog CK (fun _ => none) 1000 (fnOf Tryz.prog 3) [(.agg [(.I .i64 iop), (.I .i64 isz), (.I .i64 ico), (.I .i64 tk), (.I .i64 tr), (.I .i64 tb), (.I .i64 tx), (.I .i64 ts), (.B tp), (.B tf), (.I .i64 tn), (.S tw), (.I .i64 tm), (.I .i64 fk), (.I .i64 fr), (.I .i64 fb), (.I .i64 fx), (.I .i64 fs), (.B fp), (.B ff), (.I .i64 fn), (.S fw), (.I .i64 fm), (.B sh)])] [] K =
    F3  iop isz ico tk tr tb tx ts tp tf tn tw tm fk fr fb fx fs fp ff fn fw fm sh (K (.B true) []) (K (.B false) []) := by kernel_rfl
theorem h3 (iop isz ico tk tr tb tx ts : Int) (tp tf : Bool) (tn : Int) (tw : List Int) (tm fk fr fb fx fs : Int) (fp ff : Bool) (fn : Int) (fw : List Int) (fm : Int) (sh : Bool) (k1 k2 : Prop) (h1 : k1) : F3 iop isz ico tk tr tb tx ts tp tf tn tw tm fk fr fb fx fs fp ff fn fw fm sh k1 k2 := by
  unfold F3
  simp only [beq_self_eq_true, Bool.and_true, cond_true]
  exact h1
end Go.Proofs.YtkbijhfikkjhpaaGreatDoor.frm
