/- Closed facts of HostKnown's row, limb by limb. -/
import Derived.Test.YteigjobliflkdaaGreatDoorW15
namespace Go.Proofs.YteigjobliflkdaaGreatDoor.hostKnown
open Go.ChangeShapes Go.WideShapes Go.ChangeAt Go.RowKit
set_option maxHeartbeats 8000000 in
theorem c2 : joinedFacts Tryz.pinned.checked.prog 5 Tryz.f5 (OpenSpec.ofChange Rows.hostKnownSpec).bare Rows.hostKnownRow = true := by
  unfold joinedFacts
  simp only [Bool.and_eq_true]
  repeat' apply And.intro
  all_goals (as_aux_lemma => kernel_rfl)
end Go.Proofs.YteigjobliflkdaaGreatDoor.hostKnown
