import Derived.Test.YteigjobliflkdaaGreatDoorCards
import Derived.Test.YteigjobliflkdaaGreatDoorTie
import Derived.Test.YteigjobliflkdaaGreatDoorZ7
import Derived.WalkKit
import Derived.ProofKit
import Derived.OpenShut
import Derived.Deep.DeepHandedRow
import Derived.Deep.DeepWitnessRowRef
import Derived.Lib.LaidTab
import Derived.Lib.LaidU8
import Derived.Stop.LaidErr
import Derived.Shelf.Vars
namespace Go.Proofs.YteigjobliflkdaaGreatDoor
open Go.ChangeShapes Go.WideShapes Go.ChangeAt Go.RowKit
open Go.ChangeMaps (open_string shut_string)

theorem own : ownKnob Tryz.prog.godebug = none := by kernel_rfl
theorem gPowType : (Tryz.prog.globals[3]?).map (·.type) = some 221 := by kernel_rfl

/-- The cells of a laid list of numbers, one level of structs within. -/
def numsOf : DataW Unit → List Value
  | .agg l => l.flatMap fun
    | .lit (.int k n) => [.int k n]
    | .agg m => m.map fun
      | .lit (.int k n) => .int k n
      | _ => undef
    | _ => []
  | _ => []

/-- THE WITNESS: the settled world with the two errors' structs behind it, the seven listed variables holding what their initialisers lay. -/
noncomputable def laidWorld (os : Os) : World :=
  let N := (World.settled Tryz.prog os).heap.size
  let w0 := World.holding Tryz.prog os ⟨#[
    .cells #[.string ⟨#[105, 110, 118, 97, 108, 105, 100, 32, 115, 121, 110, 116, 97, 120]⟩] 219, .cells #[.string ⟨#[118, 97, 108, 117, 101, 32, 111, 117, 116, 32, 111, 102, 32, 114, 97, 110, 103, 101]⟩] 219], #[], []⟩
  let put (h : Array Obj) (g : Nat) (cs : Array Value) : Array Obj := h.modify g fun
    | .cells _ t frozen => .cells cs t frozen
    | o => o
  let h1 := put w0.heap 1 #[.iface 217 (.pointer (some ⟨N, 0, none⟩))]
  let h2 := put h1 2 #[.iface 217 (.pointer (some ⟨N + 1, 0, none⟩))]
  let h3 := put h2 3 (numsOf Rows.laid_internal_strconv_uint64pow10).toArray
  let h4 := put h3 4 (numsOf Rows.laid_unicode_utf8_first).toArray
  let h5 := put h4 5 (numsOf Rows.laid_unicode_utf8_acceptRanges).toArray
  let h6 := put h5 6 (numsOf Rows.laid_math_bits_deBruijn32tab).toArray
  let h7 := put h6 7 (numsOf Rows.laid_math_bits_deBruijn64tab).toArray
  { w0 with heap := h7 }

theorem laid_met (os : Os) (args : Array Value) : laidMet Tryz.prog Rows.hostTwosRow.laid ((laidWorld os).forCall (fun _ _ => 0) ⟨#[], args, []⟩).memory :=
  laidMet_of_run' 8 (by kernel_rfl) (by kernel_rfl)

theorem good_of {W : World} (hL : laidMetH Tryz.prog Rows.hostTwosRow.laid W) (hS : W.ShapedOpen Tryz.prog) : Good W := by
  have hL' : laidMet Tryz.prog Rows.hostTwosRow.laid W := hL
  have hp : Lib.TabIs Tryz.prog W "internal/strconv.uint64pow10" .u64 Lib.pow10Tab := Lib.tabIs_of_head gPow gPowType Tryz.underlying221 Tryz.underlying58 (by kernel_rfl) (by kernel_rfl) hL'.tail.tail
  refine ⟨?_, cell_of_shapedOpen_int (g := 0) (t := 3) (zero := #[.int .i64 0]) (k := .i64) hS (of_decide_eq_true (by kernel_rfl)) (by kernel_rfl) rfl (by kernel_rfl) (by kernel_rfl) Tryz.underlying3, hp⟩
  obtain ⟨cs, hh, _⟩ := hS.1 7 (Array.replicate 64 (.int .u8 0)) 233 (of_decide_eq_true (by kernel_rfl)) (by kernel_rfl)
  exact (Array.getElem?_eq_some_iff.1 hh).1
end Go.Proofs.YteigjobliflkdaaGreatDoor
