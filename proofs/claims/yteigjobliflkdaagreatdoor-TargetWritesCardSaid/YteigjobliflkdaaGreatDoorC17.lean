/- Closed facts of TargetWrites's row, limb by limb. -/
import Derived.Test.YteigjobliflkdaaGreatDoorW17
namespace Go.Proofs.YteigjobliflkdaaGreatDoor.targetWrites
open Go.ChangeShapes Go.WideShapes Go.ChangeAt Go.RowKit
set_option maxHeartbeats 8000000 in
theorem c2 : joinedFacts Tryz.pinned.checked.prog 17 Tryz.f17 (OpenSpec.ofChange Rows.targetWritesSpec).bare Rows.targetWritesRow = true := by
  unfold joinedFacts
  simp only [Bool.and_eq_true]
  repeat' apply And.intro
  all_goals (as_aux_lemma => kernel_rfl)
end Go.Proofs.YteigjobliflkdaaGreatDoor.targetWrites
