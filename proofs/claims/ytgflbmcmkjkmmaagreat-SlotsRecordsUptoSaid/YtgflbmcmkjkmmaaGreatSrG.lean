/- The closed facts of the row, one lemma each. -/
import Derived.Test.YtgflbmcmkjkmmaaGreatRows
import Derived.WalkKit
import Derived.ProofKit
import Derived.OpenShut
import Derived.ChangeMaps5
import Derived.JoinedCond
namespace Go.Proofs.YtgflbmcmkjkmmaaGreat.slotsRecords
set_option maxRecDepth 100000
set_option maxHeartbeats 40000000
theorem facts : joinedFacts Tryz.pinned.checked.prog 3 Tryz.f3 (Rows.OpenSpec.upto Rows.slotsRecordsSpec).bare Rows.slotsRecordsUptoRow = true := by
  unfold joinedFacts
  simp only [Bool.and_eq_true]
  repeat' apply And.intro
  all_goals (as_aux_lemma => kernel_rfl)
end Go.Proofs.YtgflbmcmkjkmmaaGreat.slotsRecords
