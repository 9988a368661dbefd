import Derived.Test.YtaajhdkngiemlaaDoorFrm2
import Derived.Test.YtaajhdkngiemlaaDoorFrm3
import Derived.Test.YtaajhdkngiemlaaDoorFrm4
set_option linter.unusedVariables false
set_option linter.unusedSimpArgs false
set_option maxHeartbeats 4000000
set_option maxRecDepth 100000
namespace Go.Proofs.YtaajhdkngiemlaaDoor.frm
open Go Go.Ab
def prims2 : Prims := fun f =>
  match Nat.beq f 49 with
  | true => some P49
  | false =>   match Nat.beq f 68 with
  | true => some P68
  | false =>   match Nat.beq f 56 with
  | true => some P56
  | false =>   match Nat.beq f 69 with
  | true => some P69
  | false =>   match Nat.beq f 39 with
  | true => some P39
  | false =>   match Nat.beq f 72 with
  | true => some P72
  | false =>   match Nat.beq f 50 with
  | true => some P50
  | false =>   match Nat.beq f 70 with
  | true => some P70
  | false =>   match Nat.beq f 82 with
  | true => some P82
  | false =>   match Nat.beq f 85 with
  | true => some P85
  | false => prims1 f
theorem prims2_ok : PrimsOk Tryd.prog prims2 := by
  intro f g hg
  unfold prims2 at hg
  split at hg
  · rename_i hf
    obtain rfl := Nat.eq_of_beq_eq_true hf
    cases hg
    exact P49_ok
  · skip
    split at hg
    · rename_i hf
      obtain rfl := Nat.eq_of_beq_eq_true hf
      cases hg
      exact P68_ok
    · skip
      split at hg
      · rename_i hf
        obtain rfl := Nat.eq_of_beq_eq_true hf
        cases hg
        exact P56_ok
      · skip
        split at hg
        · rename_i hf
          obtain rfl := Nat.eq_of_beq_eq_true hf
          cases hg
          exact P69_ok
        · skip
          split at hg
          · rename_i hf
            obtain rfl := Nat.eq_of_beq_eq_true hf
            cases hg
            exact P39_ok
          · skip
            split at hg
            · rename_i hf
              obtain rfl := Nat.eq_of_beq_eq_true hf
              cases hg
              exact P72_ok
            · skip
              split at hg
              · rename_i hf
                obtain rfl := Nat.eq_of_beq_eq_true hf
                cases hg
                exact P50_ok
              · skip
                split at hg
                · rename_i hf
                  obtain rfl := Nat.eq_of_beq_eq_true hf
                  cases hg
                  exact P70_ok
                · skip
                  split at hg
                  · rename_i hf
                    obtain rfl := Nat.eq_of_beq_eq_true hf
                    cases hg
                    exact P82_ok
                  · skip
                    split at hg
                    · rename_i hf
                      obtain rfl := Nat.eq_of_beq_eq_true hf
                      cases hg
                      exact P85_ok
                    · skip
                      exact prims1_ok f g hg
def C2 : CC := call Tryd.prog prims2 1000
theorem C2_ok : CallsOk Tryd.prog C2 := call_sound named prims2_ok 1000

end Go.Proofs.YtaajhdkngiemlaaDoor.frm
