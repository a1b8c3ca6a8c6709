/- Closed facts of HostOrder's row, limb by limb. -/
import Derived.Test.YteigjobliflkdaaGreatDoorW15
namespace Go.Proofs.YteigjobliflkdaaGreatDoor.hostOrder
open Go.ChangeShapes Go.WideShapes Go.ChangeAt Go.RowKit
set_option maxHeartbeats 8000000 in
theorem c2 : joinedFacts Tryz.pinned.checked.prog 10 Tryz.f10 (OpenSpec.ofChange Rows.hostOrderSpec).bare Rows.hostOrderRow = true := by
  unfold joinedFacts
  simp only [Bool.and_eq_true]
  repeat' apply And.intro
  all_goals (as_aux_lemma => kernel_rfl)
end Go.Proofs.YteigjobliflkdaaGreatDoor.hostOrder
