import Derived.Test.YtkbijhfikkjhpaaGreatDoorFrm2
import Derived.Test.YtkbijhfikkjhpaaGreatDoorFrm3
import Derived.Test.YtkbijhfikkjhpaaGreatDoorFrm4
set_option linter.unusedVariables false
set_option linter.unusedSimpArgs false
set_option maxHeartbeats 4000000
set_option maxRecDepth 100000
namespace Go.Proofs.YtkbijhfikkjhpaaGreatDoor.frm
open Go Go.Ab
def prims2 : Prims := fun f =>
  match Nat.beq f 46 with
  | true => some P46
  | false =>   match Nat.beq f 62 with
  | true => some P62
  | false =>   match Nat.beq f 53 with
  | true => some P53
  | false =>   match Nat.beq f 63 with
  | true => some P63
  | false =>   match Nat.beq f 11 with
  | true => some P11
  | false =>   match Nat.beq f 15 with
  | true => some P15
  | false =>   match Nat.beq f 47 with
  | true => some P47
  | false =>   match Nat.beq f 64 with
  | true => some P64
  | false =>   match Nat.beq f 77 with
  | true => some P77
  | false =>   match Nat.beq f 79 with
  | true => some P79
  | false => prims1 f
theorem prims2_ok : PrimsOk Tryz.prog prims2 := by
  intro f g hg
  unfold prims2 at hg
  split at hg
  · rename_i hf
    obtain rfl := Nat.eq_of_beq_eq_true hf
    cases hg
    exact P46_ok
  · skip
    split at hg
    · rename_i hf
      obtain rfl := Nat.eq_of_beq_eq_true hf
      cases hg
      exact P62_ok
    · skip
      split at hg
      · rename_i hf
        obtain rfl := Nat.eq_of_beq_eq_true hf
        cases hg
        exact P53_ok
      · skip
        split at hg
        · rename_i hf
          obtain rfl := Nat.eq_of_beq_eq_true hf
          cases hg
          exact P63_ok
        · skip
          split at hg
          · rename_i hf
            obtain rfl := Nat.eq_of_beq_eq_true hf
            cases hg
            exact P11_ok
          · skip
            split at hg
            · rename_i hf
              obtain rfl := Nat.eq_of_beq_eq_true hf
              cases hg
              exact P15_ok
            · skip
              split at hg
              · rename_i hf
                obtain rfl := Nat.eq_of_beq_eq_true hf
                cases hg
                exact P47_ok
              · skip
                split at hg
                · rename_i hf
                  obtain rfl := Nat.eq_of_beq_eq_true hf
                  cases hg
                  exact P64_ok
                · skip
                  split at hg
                  · rename_i hf
                    obtain rfl := Nat.eq_of_beq_eq_true hf
                    cases hg
                    exact P77_ok
                  · skip
                    split at hg
                    · rename_i hf
                      obtain rfl := Nat.eq_of_beq_eq_true hf
                      cases hg
                      exact P79_ok
                    · skip
                      exact prims1_ok f g hg
def C2 : CC := call Tryz.prog prims2 1000
theorem C2_ok : CallsOk Tryz.prog C2 := call_sound named prims2_ok 1000

end Go.Proofs.YtkbijhfikkjhpaaGreatDoor.frm
