/- LocationReads: for every input (each argument of the shape that Go's types give) the statement's function returns true and hands its arguments back as they were; the listed variables hold what the program's text lays: the tied card. -/
import Derived.Test.YteigjobliflkdaaGreatDoorX11
namespace Go.Proofs.YteigjobliflkdaaGreatDoor.locationReads
open Go.ChangeShapes Go.WideShapes Go.ChangeAt Go.RowKit
theorem goes : false = Rows.locationReadsRow.goesBy Tryz.pinned.checked.prog := by kernel_rfl
theorem card : Rows.LocationReadsCardSaid :=
  Claim7.holds_tied_plain_at .later [] _ _ _ _ said (fun _ h => by cases h) (by kernel_rfl) (fun _ h => by cases h) locationReads_row_tie rfl ⟨rfl, rfl⟩ (by kernel_rfl) rfl plain goes
end Go.Proofs.YteigjobliflkdaaGreatDoor.locationReads
