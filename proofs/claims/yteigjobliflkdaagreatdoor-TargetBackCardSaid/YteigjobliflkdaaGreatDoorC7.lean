/- Closed facts of TargetBack's row, limb by limb. -/
import Derived.Test.YteigjobliflkdaaGreatDoorW17
namespace Go.Proofs.YteigjobliflkdaaGreatDoor.targetBack
open Go.ChangeShapes Go.WideShapes Go.ChangeAt Go.RowKit
set_option maxHeartbeats 8000000 in
theorem c2 : joinedFacts Tryz.pinned.checked.prog 7 Tryz.f7 (OpenSpec.ofChange Rows.targetBackSpec).bare Rows.targetBackRow = true := by
  unfold joinedFacts
  simp only [Bool.and_eq_true]
  repeat' apply And.intro
  all_goals (as_aux_lemma => kernel_rfl)
end Go.Proofs.YteigjobliflkdaaGreatDoor.targetBack
