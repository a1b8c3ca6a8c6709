/- Small: worlds in a row. -/
import Derived.Test.YteigjobliflkdaaGreatDoorA0
namespace Go.Proofs.YteigjobliflkdaaGreatDoor
open Go.RowKit
theorem below2 {a b c : World} (h : Below a.heap.size a b) (k : Below b.heap.size b c) : Below a.heap.size a c := h.trans (k.mono h.size)
theorem below7 {a b c d e f g h : World} (h1 : Below a.heap.size a b) (h2 : Below b.heap.size b c) (h3 : Below c.heap.size c d) (h4 : Below d.heap.size d e) (h5 : Below e.heap.size e f) (h6 : Below f.heap.size f g) (h7 : Below g.heap.size g h) : Below a.heap.size a h :=
  below2 (below2 (below2 (below2 (below2 (below2 h1 h2) h3) h4) h5) h6) h7
end Go.Proofs.YteigjobliflkdaaGreatDoor
