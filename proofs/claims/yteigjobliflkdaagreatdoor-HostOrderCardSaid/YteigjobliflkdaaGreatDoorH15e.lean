/- Walks: host.Normal, host.Is. -/
import Derived.Test.YteigjobliflkdaaGreatDoorH15d
namespace Go.Proofs.YteigjobliflkdaaGreatDoor
open Go.RowKit

theorem split_ok {s : ByteArray} {n : List UInt8} {p : Int} (h : hostSplit s.data.toList = .ok (n, p)) (w : World) (hG : Good w) (hs : s.size ≤ 60000) :
    Calls Tryz.prog 26 #[.string s] w fun e w' => e = .returned (.tuple #[.string ⟨n.toArray⟩, .int .i64 p, .int .i64 0]) ∧ Below w.heap.size w w' := by
  have := split_any s w hG hs; rw [h] at this; exact this
theorem split_err {s : ByteArray} {x : Int} (h : hostSplit s.data.toList = .error x) (w : World) (hG : Good w) (hs : s.size ≤ 60000) :
    Calls Tryz.prog 26 #[.string s] w fun e w' => e = .returned (.tuple #[.string ⟨#[]⟩, .int .i64 0, .int .i64 x]) ∧ Below w.heap.size w w' := by
  have := split_any s w hG hs; rw [h] at this; exact this
theorem write_any' {n : List UInt8} {p : Int} (w : World) (hG : Good w) (hs : n.length ≤ 50000) (h1 : 1 ≤ p) (h2 : p ≤ 65535) :
    Calls Tryz.prog 98 #[.string ⟨n.toArray⟩, .int .i64 p] w fun e w' => e = .returned (.string ⟨(hostWrite n p).toArray⟩) ∧ Below w.heap.size w w' := by
  have := write_any ⟨n.toArray⟩ p w hG (by rw [size_mk]; exact hs) h1 h2
  exact this

set_option maxRecDepth 100000 in
set_option maxHeartbeats 800000 in
theorem normal_any (s : ByteArray) (w : World) (hG : Good w) (hs : s.size ≤ 60000) :
    Calls Tryz.prog 28 #[.string s] w (RetV (vStr (hostNormal s.data.toList)) w) := by
  cases hh : hostSplit s.data.toList with
  | error x =>
    have hx := (err_ne hh).1
    have HE := Lib.hid (show hostNormal s.data.toList = .error x by unfold hostNormal; rw [hh])
    have HH := Lib.hid hh
    clear hh
    go_enter Tryz.func28, Tryz.ntmps28
    go_wp2_with (go_at_call 26; refine (split_err HH.out _ hG hs).mono ?_; rintro e w1 ⟨rfl, HB⟩)
    go_ret2
    exact RetV.of (f := vStr) _ HE.out rfl HB
  | ok r =>
    obtain ⟨n, p⟩ := r
    have hk := hostSplit_ok hh
    have HN := Lib.hid (WrittenNormal hh)
    have HH := Lib.hid hh
    obtain ⟨hp1, hp2, hn1, hn2, hn3⟩ := hk
    clear hh hn3
    rw [HN.out]
    by_cases h64 : 64 < (hostWrite n p).length
    · have HE := Lib.hid (show hostWritten n p = .error 4 by unfold hostWritten; rw [if_pos h64])
      have hd : decide (64 < ((hostWrite n p).length : Int)) = true := by simp; omega
      go_enter Tryz.func28, Tryz.ntmps28
      go_wp2_with fail
      refine (split_ok HH.out _ hG hs).mono ?_
      rintro e w1 ⟨rfl, HB⟩
      go_wp2_with fail
      refine (write_any' _ (hG.next HB) (by omega) hp1 hp2).mono ?_
      rintro e w2 ⟨rfl, HB2⟩
      go_wp2_with fail
      go_ret2
      exact RetV.of (f := vStr) _ HE.out rfl (HB.trans (HB2.mono HB.size))
    · have HE := Lib.hid (show hostWritten n p = .ok (hostWrite n p) by unfold hostWritten; rw [if_neg h64])
      have hd : decide (64 < ((hostWrite n p).length : Int)) = false := by simp; omega
      go_enter Tryz.func28, Tryz.ntmps28
      go_wp2_with fail
      refine (split_ok HH.out _ hG hs).mono ?_
      rintro e w1 ⟨rfl, HB⟩
      go_wp2_with fail
      refine (write_any' _ (hG.next HB) (by omega) hp1 hp2).mono ?_
      rintro e w2 ⟨rfl, HB2⟩
      go_wp2_with fail
      go_ret2
      exact RetV.of (f := vStr) _ HE.out rfl (HB.trans (HB2.mono HB.size))

theorem is_any (s : ByteArray) (w : World) (hG : Good w) (hs : s.size ≤ 60000) :
    Calls Tryz.prog 30 #[.string s] w (RetV (.bool (hostIs s.data.toList)) w) := by
  cases hh : hostNormal s.data.toList with
  | error x =>
    have hx := (errn_ne hh).2
    have HE := Lib.hid (show hostIs s.data.toList = false by unfold hostIs; rw [hh])
    have HH := Lib.hid hh
    clear hh
    go_enter Tryz.func30, Tryz.ntmps30
    go_wp2_with (go_at_call 28; refine (strErr (normal_any s _ hG hs) HH.out).mono ?_; rintro e w1 ⟨rfl, HB⟩)
    go_ret
    exact RetV.of (f := Value.bool) _ HE.out rfl HB
  | ok n =>
    have HE := Lib.hid (show hostIs s.data.toList = (n == s.data.toList) by unfold hostIs; rw [hh])
    have HH := Lib.hid hh
    clear hh
    go_enter Tryz.func30, Tryz.ntmps30
    go_wp2_with (go_at_call 28; refine (strOk (normal_any s _ hG hs) HH.out).mono ?_; rintro e w1 ⟨rfl, HB⟩)
    go_ret
    exact RetV.of (f := Value.bool) _ HE.out (congrArg (fun l => Value.bool (n == l)) (Lib.toList_data s)) HB
end Go.Proofs.YteigjobliflkdaaGreatDoor
