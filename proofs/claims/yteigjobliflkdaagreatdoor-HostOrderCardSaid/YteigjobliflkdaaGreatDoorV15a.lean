import Derived.Test.YteigjobliflkdaaGreatDoorK15d
import Derived.Test.YteigjobliflkdaaGreatDoorH15h
import Derived.Test.YteigjobliflkdaaGreatDoorR15e
namespace Go.Proofs.YteigjobliflkdaaGreatDoor
open Go.RowKit

theorem split_okB {s n : ByteArray} {p : Int} (h : hostSplit s.data.toList = .ok (n.data.toList, p)) (w : World) (hG : Good w) (hs : s.size ≤ 60000) :
    Calls Tryz.prog 26 #[.string s] w fun e w' => e = .returned (.tuple #[.string n, .int .i64 p, .int .i64 0]) ∧ Below w.heap.size w w' := by
  have := split_ok h w hG hs; rwa [bs_mk] at this

set_option maxRecDepth 100000 in
set_option maxHeartbeats 800000 in
theorem splits_t {s n : ByteArray} {p : Int} (h : hostSplit s.data.toList = .ok (n.data.toList, p)) (w : World) (hG : Good w) (hs : s.size ≤ 60000) :
    Calls Tryz.prog 37 #[.string s, .string n, .int .i64 p] w (RetV (.bool true) w) := by
  have HH := Lib.hid h
  clear h
  go_enter Tryz.func37, Tryz.ntmps37
  go_wp2_with fail
  refine (split_okB HH.out _ hG hs).mono ?_
  rintro e w1 ⟨rfl, HB⟩
  go_wp2_with fail
  go_ret
  exact RetV.mk (by simp) HB

set_option maxRecDepth 100000 in
set_option maxHeartbeats 800000 in
theorem fails_t {s : ByteArray} {x : Int} (h : hostSplit s.data.toList = .error x) (w : World) (hG : Good w) (hs : s.size ≤ 60000) :
    Calls Tryz.prog 38 #[.string s, .int .i64 x] w (RetV (.bool true) w) := by
  have HH := Lib.hid h
  clear h
  go_enter Tryz.func38, Tryz.ntmps38
  go_wp2_with fail
  refine (split_err HH.out _ hG hs).mono ?_
  rintro e w1 ⟨rfl, HB⟩
  go_wp2_with fail
  go_ret
  exact RetV.mk (by simp) HB

theorem normal_okB {s n : ByteArray} (h : hostNormal s.data.toList = .ok n.data.toList) (w : World) (hG : Good w) (hs : s.size ≤ 60000) :
    Calls Tryz.prog 28 #[.string s] w fun e w' => e = .returned (.tuple #[.string n, .int .i64 0]) ∧ Below w.heap.size w w' := by
  have := normal_any s w hG hs; rw [h] at this
  have h2 : vStr (.ok n.data.toList) = .tuple #[.string n, .int .i64 0] := by show Value.tuple #[.string ⟨n.data.toList.toArray⟩, .int .i64 0] = _; rw [bs_mk]
  rw [h2] at this; exact this

set_option maxRecDepth 100000 in
set_option maxHeartbeats 800000 in
theorem normal_t {s n : ByteArray} (h : hostNormal s.data.toList = .ok n.data.toList) (w : World) (hG : Good w) (hs : s.size ≤ 60000) :
    Calls Tryz.prog 39 #[.string s, .string n] w (RetV (.bool true) w) := by
  have HH := Lib.hid h
  clear h
  go_enter Tryz.func39, Tryz.ntmps39
  go_wp2_with fail
  refine (normal_okB HH.out _ hG hs).mono ?_
  rintro e w1 ⟨rfl, HB⟩
  go_wp2_with fail
  go_ret
  exact RetV.mk (by simp) HB

/-- Is a under b, and is that known? -/
def underB (a b : List UInt8) : Bool := (hostUnder a b).2 == 0 && (hostUnder a b).1

theorem under_okB {s t : ByteArray} {r : Bool × Int} (h : hostUnder s.data.toList t.data.toList = r) (w : World) (hG : Good w) (hs : s.size ≤ 60000) (ht : t.size ≤ 60000) :
    Calls Tryz.prog 22 #[.string s, .string t] w fun e w' => e = .returned (.tuple #[.bool r.1, .int .i64 r.2]) ∧ Below w.heap.size w w' := by
  subst h; exact under_any s t w hG hs ht

set_option maxRecDepth 100000 in
set_option maxHeartbeats 800000 in
theorem under_t (s t : ByteArray) (w : World) (hG : Good w) (hs : s.size ≤ 60000) (ht : t.size ≤ 60000) :
    Calls Tryz.prog 40 #[.string s, .string t] w (RetV (.bool (underB s.data.toList t.data.toList)) w) := by
  have HE := Lib.hid (show underB s.data.toList t.data.toList = ((hostUnder s.data.toList t.data.toList).2 == 0 && (hostUnder s.data.toList t.data.toList).1) from rfl)
  generalize hh : hostUnder s.data.toList t.data.toList = r at HE
  have HH := Lib.hid hh
  clear hh
  obtain ⟨x, y⟩ := r
  by_cases hy : y = 0
  · have hy' : (y == 0) = true := by simpa using hy
    have HF := Lib.hid (show underB s.data.toList t.data.toList = x by rw [HE.out]; simp [hy])
    clear hy
    go_enter Tryz.func40, Tryz.ntmps40
    go_wp2_with fail
    refine (under_okB HH.out _ hG hs ht).mono ?_
    rintro e w1 ⟨rfl, HB⟩
    go_wp2_with fail
    go_ret
    exact RetV.mk (by rw [HF.out]; rfl) HB
  · have hy' : (y == 0) = false := by simpa using hy
    have HF := Lib.hid (show underB s.data.toList t.data.toList = false by rw [HE.out]; simp [hy])
    clear hy
    go_enter Tryz.func40, Tryz.ntmps40
    go_wp2_with fail
    refine (under_okB HH.out _ hG hs ht).mono ?_
    rintro e w1 ⟨rfl, HB⟩
    go_wp2_with fail
    go_ret
    exact RetV.mk (by rw [HF.out]; rfl) HB

theorem compare_okB {s t : ByteArray} {r : Int × Int} (h : hostCompare s.data.toList t.data.toList = r) (w : World) (hG : Good w) (hs : s.size ≤ 60000) (ht : t.size ≤ 60000) :
    Calls Tryz.prog 24 #[.string s, .string t] w fun e w' => e = .returned (.tuple #[.int .i64 r.1, .int .i64 r.2]) ∧ Below w.heap.size w w' := by
  subst h; exact compare_any s t w hG hs ht

set_option maxRecDepth 100000 in
set_option maxHeartbeats 800000 in
theorem compares_t {s t : ByteArray} {x : Int} (h : hostCompare s.data.toList t.data.toList = (x, 0)) (w : World) (hG : Good w) (hs : s.size ≤ 60000) (ht : t.size ≤ 60000) :
    Calls Tryz.prog 41 #[.string s, .string t, .int .i64 x] w (RetV (.bool true) w) := by
  have HH := Lib.hid h
  clear h
  go_enter Tryz.func41, Tryz.ntmps41
  go_wp2_with fail
  refine (compare_okB HH.out _ hG hs ht).mono ?_
  rintro e w1 ⟨rfl, HB⟩
  go_wp2_with fail
  go_ret
  exact RetV.mk (by simp) HB

set_option maxRecDepth 100000 in
set_option maxHeartbeats 1600000 in
theorem awake_t (w : World) (hG : Good w) : Calls Tryz.prog 19 #[] w (RetV (.bool true) w) := by
  have C1 := fun w hG => splits_t (s := ⟨#[87, 87, 87, 46, 97, 46, 79, 114, 103, 58, 48, 48, 56, 48]⟩) (n := ⟨#[119, 119, 119, 46, 97, 46, 111, 114, 103]⟩) (p := 80) (by kernel_rfl) w hG (by decide)
  have C2 := fun w hG => fails_t (s := ⟨#[97, 58, 48]⟩) (x := 2) (by kernel_rfl) w hG (by decide)
  have C3 := fun w hG => normal_t (s := ⟨#[65, 46, 66, 58, 56, 48, 56, 48]⟩) (n := ⟨#[97, 46, 98, 58, 56, 48, 56, 48]⟩) (by kernel_rfl) w hG (by decide)
  have C4 := fun w hG => under_t ⟨#[120, 46, 97, 46, 111, 114, 103]⟩ ⟨#[65, 46, 111, 114, 103, 58, 57, 57]⟩ w hG (by decide) (by decide)
  rw [show underB (⟨#[120, 46, 97, 46, 111, 114, 103]⟩ : ByteArray).data.toList (⟨#[65, 46, 111, 114, 103, 58, 57, 57]⟩ : ByteArray).data.toList = true by kernel_rfl] at C4
  have C5 := fun w hG => compares_t (s := ⟨#[97, 46, 111, 114, 103]⟩) (t := ⟨#[98, 46, 111, 114, 103]⟩) (x := -1) (by kernel_rfl) w hG (by decide) (by decide)
  go_enter Tryz.func19, Tryz.ntmps19
  go_wp2_with fail
  refine (C1 _ hG).mono ?_
  rintro e w1 ⟨rfl, HB1⟩
  have hG1 := hG.next HB1
  go_wp2_with fail
  refine (C2 _ hG1).mono ?_
  rintro e w2 ⟨rfl, HB2⟩
  have hG2 := hG1.next HB2
  go_wp2_with fail
  refine (C3 _ hG2).mono ?_
  rintro e w3 ⟨rfl, HB3⟩
  have hG3 := hG2.next HB3
  go_wp2_with fail
  refine (C4 _ hG3).mono ?_
  rintro e w4 ⟨rfl, HB4⟩
  have hG4 := hG3.next HB4
  go_wp2_with fail
  refine (C5 _ hG4).mono ?_
  rintro e w5 ⟨rfl, HB5⟩
  have z1 := HB1.size
  have z2 := HB2.size
  have z3 := HB3.size
  have z4 := HB4.size
  have HB : Below w.heap.size w w5 := (((HB1.trans (HB2.mono z1)).trans (HB3.mono (by omega))).trans (HB4.mono (by omega))).trans (HB5.mono (by omega))
  go_wp2_with fail
  go_ret
  exact RetV.mk rfl HB
end Go.Proofs.YteigjobliflkdaaGreatDoor
