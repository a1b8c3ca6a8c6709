import Derived.Test.YteigjobliflkdaaGreatDoorV15a
import Derived.Test.YteigjobliflkdaaGreatDoorB2
namespace Go.Proofs.YteigjobliflkdaaGreatDoor
open Go.RowKit

theorem same_okB {s t : ByteArray} {r : Bool × Int} (h : hostSame s.data.toList t.data.toList = r) (w : World) (hG : Good w) (hs : s.size ≤ 60000) (ht : t.size ≤ 60000) :
    Calls Tryz.prog 20 #[.string s, .string t] w fun e w' => e = .returned (.tuple #[.bool r.1, .int .i64 r.2]) ∧ Below w.heap.size w w' := by
  subst h; exact same_any s t w hG hs ht
theorem same_refB {s t : ByteArray} {r : Bool × Int} (h : hostSame s.data.toList t.data.toList = r) (w : World) (hs : s.size ≤ 60000) (ht : t.size ≤ 60000) :
    Calls Tryz.prog 21 #[.string s, .string t] w fun e w' => e = .returned (.tuple #[.bool r.1, .int .i64 r.2]) ∧ Below w.heap.size w w' := by
  subst h; exact same_ref s t w hs ht
theorem under_refB {s t : ByteArray} {r : Bool × Int} (h : hostUnder s.data.toList t.data.toList = r) (w : World) (hs : s.size ≤ 60000) (ht : t.size ≤ 60000) :
    Calls Tryz.prog 23 #[.string s, .string t] w fun e w' => e = .returned (.tuple #[.bool r.1, .int .i64 r.2]) ∧ Below w.heap.size w w' := by
  subst h; exact under_ref s t w hs ht
theorem compare_refB {s t : ByteArray} {r : Int × Int} (h : hostCompare s.data.toList t.data.toList = r) (w : World) (hs : s.size ≤ 60000) (ht : t.size ≤ 60000) :
    Calls Tryz.prog 25 #[.string s, .string t] w fun e w' => e = .returned (.tuple #[.int .i64 r.1, .int .i64 r.2]) ∧ Below w.heap.size w w' := by
  subst h; exact compare_ref s t w hs ht

set_option maxRecDepth 100000 in
set_option maxHeartbeats 1600000 in
theorem twos_t (s t : ByteArray) (w : World) (hG : Good w) : Calls Tryz.prog 3 #[.string s, .string t] w (RetV (.bool true) w) := by
  by_cases h1 : 140 < s.size
  · have d1 : decide ((140 : Int) < (s.size : Int)) = true := by simp; omega
    go_enter Tryz.func3, Tryz.ntmps3
    go_wp2_with fail
    refine (awake_t _ hG).mono ?_
    rintro e w1 ⟨rfl, HB⟩
    go_wp2_with fail
    go_ret
    exact RetV.mk rfl HB
  have d1 : decide ((140 : Int) < (s.size : Int)) = false := by simp; omega
  by_cases h2 : 140 < t.size
  · have d2 : decide ((140 : Int) < (t.size : Int)) = true := by simp; omega
    go_enter Tryz.func3, Tryz.ntmps3
    go_wp2_with fail
    refine (awake_t _ hG).mono ?_
    rintro e w1 ⟨rfl, HB⟩
    go_wp2_with fail
    go_ret
    exact RetV.mk rfl HB
  have d2 : decide ((140 : Int) < (t.size : Int)) = false := by simp; omega
  have hs : s.size ≤ 60000 := by omega
  have ht : t.size ≤ 60000 := by omega
  obtain ⟨r1, R1⟩ : ∃ r, hostSame s.data.toList t.data.toList = r := ⟨_, rfl⟩
  obtain ⟨r2, R2⟩ : ∃ r, hostUnder s.data.toList t.data.toList = r := ⟨_, rfl⟩
  obtain ⟨r3, R3⟩ : ∃ r, hostCompare s.data.toList t.data.toList = r := ⟨_, rfl⟩
  obtain ⟨a1, b1⟩ := r1
  obtain ⟨a2, b2⟩ := r2
  obtain ⟨a3, b3⟩ := r3
  have R1 := Lib.hid R1
  have R2 := Lib.hid R2
  have R3 := Lib.hid R3
  clear h1 h2
  go_enter Tryz.func3, Tryz.ntmps3
  go_wp2_with fail
  refine (same_okB R1.out _ hG hs ht).mono ?_
  rintro e w1 ⟨rfl, HB1⟩
  have hG1 := hG.next HB1
  go_wp2_with fail
  refine (same_refB R1.out _ hs ht).mono ?_
  rintro e w2 ⟨rfl, HB2⟩
  have hG2 := hG1.next HB2
  go_wp2_with fail
  refine (under_okB R2.out _ hG2 hs ht).mono ?_
  rintro e w3 ⟨rfl, HB3⟩
  have hG3 := hG2.next HB3
  go_wp2_with fail
  refine (under_refB R2.out _ hs ht).mono ?_
  rintro e w4 ⟨rfl, HB4⟩
  have hG4 := hG3.next HB4
  go_wp2_with fail
  refine (compare_okB R3.out _ hG4 hs ht).mono ?_
  rintro e w5 ⟨rfl, HB5⟩
  have hG5 := hG4.next HB5
  go_wp2_with fail
  refine (compare_refB R3.out _ hs ht).mono ?_
  rintro e w6 ⟨rfl, HB6⟩
  have hG6 := hG5.next HB6
  go_wp2_with fail
  refine (awake_t _ hG6).mono ?_
  rintro e w7 ⟨rfl, HB7⟩
  have HB : Below w.heap.size w w7 := below7 HB1 HB2 HB3 HB4 HB5 HB6 HB7
  go_wp2_with fail
  go_ret
  exact RetV.mk rfl HB
end Go.Proofs.YteigjobliflkdaaGreatDoor
