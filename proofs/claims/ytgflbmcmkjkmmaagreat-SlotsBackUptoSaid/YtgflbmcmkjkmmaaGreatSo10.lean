/- The closed facts of the row, one lemma each. -/
import Derived.Test.YtgflbmcmkjkmmaaGreatRows
import Derived.WalkKit
import Derived.ProofKit
import Derived.OpenShut
import Derived.ChangeMaps5
import Derived.JoinedCond
namespace Go.Proofs.YtgflbmcmkjkmmaaGreat.slotsBack
set_option maxRecDepth 100000
set_option maxHeartbeats 40000000
theorem facts : joinedFacts Tryz.pinned.checked.prog 4 Tryz.f4 (Rows.OpenSpec.upto Rows.slotsBackSpec).bare Rows.slotsBackUptoRow = true := by
  unfold joinedFacts
  simp only [Bool.and_eq_true]
  repeat' apply And.intro
  all_goals (as_aux_lemma => kernel_rfl)
end Go.Proofs.YtgflbmcmkjkmmaaGreat.slotsBack
