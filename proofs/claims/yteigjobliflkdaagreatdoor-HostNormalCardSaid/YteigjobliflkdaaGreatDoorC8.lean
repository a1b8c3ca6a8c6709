/- Closed facts of HostNormal's row, limb by limb. -/
import Derived.Test.YteigjobliflkdaaGreatDoorW15
namespace Go.Proofs.YteigjobliflkdaaGreatDoor.hostNormal
open Go.ChangeShapes Go.WideShapes Go.ChangeAt Go.RowKit
set_option maxHeartbeats 8000000 in
theorem c2 : joinedFacts Tryz.pinned.checked.prog 8 Tryz.f8 (OpenSpec.ofChange Rows.hostNormalSpec).bare Rows.hostNormalRow = true := by
  unfold joinedFacts
  simp only [Bool.and_eq_true]
  repeat' apply And.intro
  all_goals (as_aux_lemma => kernel_rfl)
end Go.Proofs.YteigjobliflkdaaGreatDoor.hostNormal
