/- Closed facts of LocationReads's row, limb by limb. -/
import Derived.Test.YteigjobliflkdaaGreatDoorW17
namespace Go.Proofs.YteigjobliflkdaaGreatDoor.locationReads
open Go.ChangeShapes Go.WideShapes Go.ChangeAt Go.RowKit
set_option maxHeartbeats 8000000 in
theorem c2 : joinedFacts Tryz.pinned.checked.prog 11 Tryz.f11 (OpenSpec.ofChange Rows.locationReadsSpec).bare Rows.locationReadsRow = true := by
  unfold joinedFacts
  simp only [Bool.and_eq_true]
  repeat' apply And.intro
  all_goals (as_aux_lemma => kernel_rfl)
end Go.Proofs.YteigjobliflkdaaGreatDoor.locationReads
