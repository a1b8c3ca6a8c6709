import Derived.Test.YteigjobliflkdaaGreatDoorW15
namespace Go.Proofs.YteigjobliflkdaaGreatDoor.hostTwos
open Go.ChangeShapes Go.WideShapes Go.ChangeAt Go.RowKit
set_option maxHeartbeats 8000000 in
theorem c2 : joinedFacts Tryz.pinned.checked.prog 3 Tryz.f3 (OpenSpec.ofChange Rows.hostTwosSpec).bare Rows.hostTwosRow = true := by
  unfold joinedFacts
  simp only [Bool.and_eq_true]
  repeat' apply And.intro
  all_goals (as_aux_lemma => kernel_rfl)
end Go.Proofs.YteigjobliflkdaaGreatDoor.hostTwos
