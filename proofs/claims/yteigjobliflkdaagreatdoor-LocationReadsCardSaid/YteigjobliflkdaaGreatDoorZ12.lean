/- Texts of this claim, joined in build order: L5, L6, P18, V15e, V15f, M17, L7. -/
import Derived.Test.YteigjobliflkdaaGreatDoorZ11
import Derived.Test.YteigjobliflkdaaGreatDoorZ10
import Derived.Test.YteigjobliflkdaaGreatDoorZ1
import Derived.IntWalk
import Derived.Deep.LoopGhost
/- Walks: location.Safe at ASCII; helpers of the laws of layer 17. -/
namespace Go.Proofs.YteigjobliflkdaaGreatDoor
open Go.RowKit

theorem indexAny_any (chars : List UInt8) : ∀ l : List UInt8, decide (0 ≤ Lib.indexAny l chars) = l.any (chars.contains ·)
  | [] => rfl
  | b :: l => by
    have ih := indexAny_any chars l
    have hg := Lib.indexAny_ge chars l
    rw [Lib.indexAny, List.any_cons, ← ih]
    cases hb : chars.contains b
    · simp only [Bool.false_eq_true, if_false, Bool.false_or]
      by_cases h : Lib.indexAny l chars = -1
      · rw [h]; rfl
      · rw [if_neg (by simpa using h), decide_eq_decide]; omega
    · simp
theorem safe_any_eq (l : List UInt8) : decide (0 ≤ Lib.indexAny l [0, 13, 10]) = !safeB l := by
  rw [indexAny_any]
  unfold safeB
  induction l with
  | nil => rfl
  | cons b l ih =>
    rw [List.any_cons, List.all_cons, ih, Bool.not_and]
    congr 1
    have : ∀ n : Nat, n < 256 → ([0, 13, 10] : List UInt8).contains (UInt8.ofNat n) = !!(UInt8.ofNat n == 0 || UInt8.ofNat n == 10 || UInt8.ofNat n == 13) := by decide +kernel
    have h := this b.toNat b.toNat_lt
    rwa [UInt8.ofNat_toNat] at h
/-- What Safe asks of the library. -/
def IndexC (s : ByteArray) (x : Int) : Prop := ∀ w : World, Calls Tryz.prog 158 #[.string s, .string ⟨#[0, 13, 10]⟩] w fun e w' => e = .returned (.int .i64 x) ∧ Below w.heap.size w w'
theorem indexC_ascii {s : ByteArray} (hs : s.size ≤ 60000) (ha : ∀ b ∈ s.data.toList, b.toNat < 128) : IndexC s (Lib.indexAny s.data.toList [0, 13, 10]) := fun w =>
  Any.strings_IndexAny_laid Tryz.lays153 (by kernel_rfl) s ⟨#[0, 13, 10]⟩ w (by omega) (by decide) (fun j b hj => ha b (List.mem_of_getElem? hj)) (ascii_of _ (by decide))
theorem contains_of {s : ByteArray} {x : Int} {b : Bool} (hI : IndexC s x) (hx : decide (0 ≤ x) = b) (w : World) : Calls Tryz.prog 113 #[.string s, .string ⟨#[0, 13, 10]⟩] w (RetV (.bool b) w) := by
  have HI := Lib.hid hI
  have HX := Lib.hid hx
  clear hx hI
  go_enter Tryz.func113, Tryz.ntmps113
  go_wp2_with fail
  refine (HI.out _).mono ?_
  rintro e w1 ⟨rfl, HB1⟩
  go_wp2_with fail
  go_ret
  exact RetV.mk (by rw [← HX.out]; rfl) HB1
theorem safe_of {s : ByteArray} {b : Bool} (hI : IndexC s (Lib.indexAny s.data.toList [0, 13, 10])) (hb : safeB s.data.toList = b) (w : World) : Calls Tryz.prog 57 #[.string s] w (RetV (.bool b) w) := by
  have he := safe_any_eq s.data.toList
  rw [hb] at he
  have HC := Lib.hid (contains_of hI he)
  clear he hb hI
  cases b
  all_goals
    go_enter Tryz.func57, Tryz.ntmps57
    go_wp2_with fail
    refine (HC.out _).mono ?_
    rintro e w1 ⟨rfl, HB1⟩
    go_wp2_with fail
    go_ret
    exact RetV.mk rfl HB1
theorem safe_ascii {s : ByteArray} {b : Bool} (hb : safeB s.data.toList = b) (hs : s.size ≤ 60000) (ha : ∀ b ∈ s.data.toList, b.toNat < 128) (w : World) : Calls Tryz.prog 57 #[.string s] w (RetV (.bool b) w) := safe_of (indexC_ascii hs ha) hb w

set_option maxRecDepth 100000 in
set_option maxHeartbeats 800000 in
theorem builds17_t {h p q t : ByteArray} (hb : locBuild h.data.toList p.data.toList q.data.toList = .ok t.data.toList) (hh : h.size ≤ 60000) (hp : p.size ≤ 60000) (hq : q.size ≤ 60000) (w : World) (hG : Good w) :
    Calls Tryz.prog 65 #[.string h, .string p, .string q, .string t] w (RetV (.bool true) w) := by
  have HH := Lib.hid (build_S hb hh hp hq)
  clear hb
  go_enter Tryz.func65, Tryz.ntmps65
  go_wp2_with fail
  refine (HH.out _ hG).mono ?_
  rintro e w1 ⟨rfl, HB⟩
  go_wp2_with fail
  go_ret
  exact RetV.mk (by simp) HB
set_option maxRecDepth 100000 in
set_option maxHeartbeats 800000 in
theorem fails17_t {h p q : ByteArray} {x : Int} (hb : locBuild h.data.toList p.data.toList q.data.toList = .error x) (hh : h.size ≤ 60000) (hp : p.size ≤ 60000) (hq : q.size ≤ 60000) (w : World) (hG : Good w) :
    Calls Tryz.prog 66 #[.string h, .string p, .string q, .int .i64 x] w (RetV (.bool true) w) := by
  have HH := Lib.hid (build_E hb hh hp hq)
  clear hb
  go_enter Tryz.func66, Tryz.ntmps66
  go_wp2_with fail
  refine (HH.out _ hG).mono ?_
  rintro e w1 ⟨rfl, HB⟩
  go_wp2_with fail
  go_ret
  exact RetV.mk (by simp) HB
set_option maxRecDepth 100000 in
set_option maxHeartbeats 800000 in
theorem splits17_t {s h p q : ByteArray} (hb : locSplit s.data.toList = some (h.data.toList, p.data.toList, q.data.toList)) (hs : s.size ≤ 50000) (w : World) (hG : Good w) :
    Calls Tryz.prog 69 #[.string s, .string h, .string p, .string q] w (RetV (.bool true) w) := by
  have HH := Lib.hid (splitL_S hb)
  clear hb
  go_enter Tryz.func69, Tryz.ntmps69
  go_wp2_with fail
  refine (HH.out _ hG hs).mono ?_
  rintro e w1 ⟨rfl, HB⟩
  go_wp2_with fail
  go_ret
  exact RetV.mk (by simp) HB
set_option maxRecDepth 100000 in
set_option maxHeartbeats 800000 in
theorem none17_t {s : ByteArray} (hb : locSplit s.data.toList = none) (hs : s.size ≤ 50000) (w : World) (hG : Good w) :
    Calls Tryz.prog 67 #[.string s] w (RetV (.bool true) w) := by
  have HH := Lib.hid (splitL_N hb)
  clear hb
  go_enter Tryz.func67, Tryz.ntmps67
  go_wp2_with fail
  refine (HH.out _ hG hs).mono ?_
  rintro e w1 ⟨rfl, HB⟩
  go_wp2_with fail
  go_ret
  exact RetV.mk (by simp) HB
theorem own_B {s n : ByteArray} {b : Bool} {x : Int} (h : locOwn s.data.toList n.data.toList = (b, x)) (hs : s.size ≤ 50000) (hn : n.size ≤ 50000) (w : World) (hG : Good w) : Calls Tryz.prog 55 #[.string s, .string n] w fun e w' => e = .returned (.tuple #[.bool b, .int .i64 x]) ∧ Below w.heap.size w w' := by
  have := own_any s n w hG hs hn; rw [h] at this; exact this
theorem ownR_B {s n : ByteArray} {b : Bool} {x : Int} (h : locOwn s.data.toList n.data.toList = (b, x)) (hs : s.size ≤ 50000) (hn : n.size ≤ 50000) (w : World) : Calls Tryz.prog 56 #[.string s, .string n] w fun e w' => e = .returned (.tuple #[.bool b, .int .i64 x]) ∧ Below w.heap.size w w' := by
  have := own_ref s n w hs hn; rw [h] at this; exact this
theorem locQuery_B {s : ByteArray} {b : Bool} {x : Int} (h : locQuery s.data.toList = (b, x)) (hs : s.size ≤ 60000) (w : World) : Calls Tryz.prog 63 #[.string s] w fun e w' => e = .returned (.tuple #[.bool b, .int .i64 x]) ∧ Below w.heap.size w w' := by
  have := locQuery_any s w hs; rw [h] at this; exact this

set_option maxRecDepth 100000 in
set_option maxHeartbeats 8000000 in
theorem awake17_t (w : World) (hG : Good w) : Calls Tryz.prog 52 #[] w (RetV (.bool true) w) := by
  have HBc := Below.refl w.heap.size w
  go_enter Tryz.func52, Tryz.ntmps52
  go_wp2_with fail
  refine (own_B (s := ⟨#[104, 116, 116, 112, 58, 47, 47, 97, 46, 98, 47]⟩) (n := ⟨#[97, 46, 98]⟩) (b := true) (x := 0) (by kernel_rfl) (by decide) (by decide) _ hG).mono ?_
  rintro e w1 ⟨rfl, HB⟩
  replace HBc := below2 HBc HB
  replace hG := hG.next HB
  clear HB
  go_wp2_with fail
  refine (builds17_t (h := ⟨#[97, 46, 98]⟩) (p := ⟨#[47, 120, 32, 121]⟩) (q := ⟨#[]⟩) (t := ⟨#[104, 116, 116, 112, 58, 47, 47, 97, 46, 98, 47, 120, 37, 50, 48, 121]⟩) (by kernel_rfl) (by decide) (by decide) (by decide) _ hG).mono ?_
  rintro e w1 ⟨rfl, HB⟩
  replace HBc := below2 HBc HB
  replace hG := hG.next HB
  clear HB
  go_wp2_with fail
  refine (splits17_t (s := ⟨#[104, 116, 116, 112, 58, 47, 47, 97, 46, 98, 47, 120, 37, 50, 48, 121, 63, 122]⟩) (h := ⟨#[97, 46, 98]⟩) (p := ⟨#[47, 120, 32, 121]⟩) (q := ⟨#[122]⟩) (by kernel_rfl) (by decide) _ hG).mono ?_
  rintro e w1 ⟨rfl, HB⟩
  replace HBc := below2 HBc HB
  replace hG := hG.next HB
  clear HB
  go_wp2_with fail
  refine (safe_ascii (s := ⟨#[]⟩) (b := true) (by kernel_rfl) (by decide) (by decide) _).mono ?_
  rintro e w1 ⟨rfl, HB⟩
  replace HBc := below2 HBc HB
  replace hG := hG.next HB
  clear HB
  go_wp2_with fail
  refine (safe_ascii (s := ⟨#[97, 13]⟩) (b := false) (by kernel_rfl) (by decide) (by decide) _).mono ?_
  rintro e w1 ⟨rfl, HB⟩
  replace HBc := below2 HBc HB
  replace hG := hG.next HB
  clear HB
  go_wp2_with fail
  go_ret
  exact RetV.mk rfl HBc

set_option maxRecDepth 100000 in
set_option maxHeartbeats 8000000 in
theorem known17_t (w : World) (hG : Good w) : Calls Tryz.prog 13 #[] w (RetV (.bool true) w) := by
  have HBc := Below.refl w.heap.size w
  go_enter Tryz.func13, Tryz.ntmps13
  go_wp2_with fail
  refine (own_B (s := ⟨#[104, 116, 116, 112, 58, 47, 47, 97, 46, 98, 47]⟩) (n := ⟨#[99, 46, 98]⟩) (b := false) (x := 0) (by kernel_rfl) (by decide) (by decide) _ hG).mono ?_
  rintro e w1 ⟨rfl, HB⟩
  replace HBc := below2 HBc HB
  replace hG := hG.next HB
  clear HB
  go_wp2_with fail
  refine (locQuery_B (s := ⟨#[97, 63, 98]⟩) (b := true) (x := 0) (by kernel_rfl) (by decide) _).mono ?_
  rintro e w1 ⟨rfl, HB⟩
  replace HBc := below2 HBc HB
  replace hG := hG.next HB
  clear HB
  go_wp2_with fail
  refine (locQuery_B (s := ⟨#[97, 35]⟩) (b := false) (x := 0) (by kernel_rfl) (by decide) _).mono ?_
  rintro e w1 ⟨rfl, HB⟩
  replace HBc := below2 HBc HB
  replace hG := hG.next HB
  clear HB
  go_wp2_with fail
  refine (builds17_t (h := ⟨#[97, 46, 98, 58, 56, 48, 56, 48]⟩) (p := ⟨#[47]⟩) (q := ⟨#[113, 61, 49, 37, 50, 48]⟩) (t := ⟨#[104, 116, 116, 112, 58, 47, 47, 97, 46, 98, 58, 56, 48, 56, 48, 47, 63, 113, 61, 49, 37, 50, 48]⟩) (by kernel_rfl) (by decide) (by decide) (by decide) _ hG).mono ?_
  rintro e w1 ⟨rfl, HB⟩
  replace HBc := below2 HBc HB
  replace hG := hG.next HB
  clear HB
  go_wp2_with fail
  refine (fails17_t (h := ⟨#[65, 46, 98]⟩) (p := ⟨#[47]⟩) (q := ⟨#[]⟩) (x := 11) (by kernel_rfl) (by decide) (by decide) (by decide) _ hG).mono ?_
  rintro e w1 ⟨rfl, HB⟩
  replace HBc := below2 HBc HB
  replace hG := hG.next HB
  clear HB
  go_wp2_with fail
  refine (fails17_t (h := ⟨#[97, 46, 98]⟩) (p := ⟨#[120]⟩) (q := ⟨#[]⟩) (x := 18) (by kernel_rfl) (by decide) (by decide) (by decide) _ hG).mono ?_
  rintro e w1 ⟨rfl, HB⟩
  replace HBc := below2 HBc HB
  replace hG := hG.next HB
  clear HB
  go_wp2_with fail
  refine (fails17_t (h := ⟨#[97, 46, 98]⟩) (p := ⟨#[47]⟩) (q := ⟨#[113, 32, 113]⟩) (x := 3) (by kernel_rfl) (by decide) (by decide) (by decide) _ hG).mono ?_
  rintro e w1 ⟨rfl, HB⟩
  replace HBc := below2 HBc HB
  replace hG := hG.next HB
  clear HB
  go_wp2_with fail
  refine (fails17_t (h := ⟨#[97, 46, 98]⟩) (p := ⟨#[47]⟩) (q := ⟨#[97, 35]⟩) (x := 3) (by kernel_rfl) (by decide) (by decide) (by decide) _ hG).mono ?_
  rintro e w1 ⟨rfl, HB⟩
  replace HBc := below2 HBc HB
  replace hG := hG.next HB
  clear HB
  go_wp2_with fail
  refine (builds17_t (h := ⟨#[97, 46, 98]⟩) (p := ⟨#[47, 37]⟩) (q := ⟨#[37]⟩) (t := ⟨#[104, 116, 116, 112, 58, 47, 47, 97, 46, 98, 47, 37, 50, 53, 63, 37]⟩) (by kernel_rfl) (by decide) (by decide) (by decide) _ hG).mono ?_
  rintro e w1 ⟨rfl, HB⟩
  replace HBc := below2 HBc HB
  replace hG := hG.next HB
  clear HB
  go_wp2_with fail
  refine (awake17_t _ hG).mono ?_
  rintro e w1 ⟨rfl, HB⟩
  replace HBc := below2 HBc HB
  replace hG := hG.next HB
  clear HB
  go_wp2_with fail
  refine (none17_t (s := ⟨#[104, 116, 116, 112, 58, 47, 47, 97, 46, 98, 47, 120, 37, 50, 48, 121, 63]⟩) (by kernel_rfl) (by decide) _ hG).mono ?_
  rintro e w1 ⟨rfl, HB⟩
  replace HBc := below2 HBc HB
  replace hG := hG.next HB
  clear HB
  go_wp2_with fail
  refine (none17_t (s := ⟨#[104, 116, 116, 112, 58, 47, 47, 97, 46, 98]⟩) (by kernel_rfl) (by decide) _ hG).mono ?_
  rintro e w1 ⟨rfl, HB⟩
  replace HBc := below2 HBc HB
  replace hG := hG.next HB
  clear HB
  go_wp2_with fail
  refine (none17_t (s := ⟨#[104, 116, 116, 112, 115, 58, 47, 47, 97, 46, 98, 47]⟩) (by kernel_rfl) (by decide) _ hG).mono ?_
  rintro e w1 ⟨rfl, HB⟩
  replace HBc := below2 HBc HB
  replace hG := hG.next HB
  clear HB
  go_wp2_with fail
  refine (none17_t (s := ⟨#[104, 116, 116, 112, 58, 47, 47, 97, 46, 98, 47, 37, 52, 49]⟩) (by kernel_rfl) (by decide) _ hG).mono ?_
  rintro e w1 ⟨rfl, HB⟩
  replace HBc := below2 HBc HB
  replace hG := hG.next HB
  clear HB
  go_wp2_with fail
  go_ret
  exact RetV.mk rfl HBc
end Go.Proofs.YteigjobliflkdaaGreatDoor
/- Walk: LocationBuilds. -/
namespace Go.Proofs.YteigjobliflkdaaGreatDoor
open Go.RowKit

theorem vStr_formB (r : Except Int (List UInt8)) : ∃ (a : ByteArray) (x : Int), vStr r = .tuple #[.string a, .int .i64 x] := by
  cases r with
  | error e => exact ⟨⟨#[]⟩, e, rfl⟩
  | ok l => exact ⟨⟨l.toArray⟩, 0, rfl⟩
theorem build_T {h p q a : ByteArray} {x : Int} (hb : vStr (locBuild h.data.toList p.data.toList q.data.toList) = .tuple #[.string a, .int .i64 x]) (hh : h.size ≤ 60000) (hp : p.size ≤ 60000) (hq : q.size ≤ 60000) (w : World) (hG : Good w) :
    Calls Tryz.prog 61 #[.string h, .string p, .string q] w fun e w' => e = .returned (.tuple #[.string a, .int .i64 x]) ∧ Below w.heap.size w w' := by
  have := build_any h p q w hG hh hp hq; rw [hb] at this; exact this
theorem buildR_T {h p q a : ByteArray} {x : Int} (hb : vStr (locBuild h.data.toList p.data.toList q.data.toList) = .tuple #[.string a, .int .i64 x]) (hh : h.size ≤ 60000) (hp : p.size ≤ 60000) (hq : q.size ≤ 60000) (w : World) :
    Calls Tryz.prog 62 #[.string h, .string p, .string q] w fun e w' => e = .returned (.tuple #[.string a, .int .i64 x]) ∧ Below w.heap.size w w' := by
  have := build_ref h p q w hh hp hq; rw [hb] at this; exact this

set_option maxRecDepth 100000 in
set_option maxHeartbeats 8000000 in
theorem locBuilds_t (h p q : ByteArray) (w : World) (hG : Good w) : Calls Tryz.prog 12 #[.string h, .string p, .string q] w (RetV (.bool true) w) := by
  by_cases h1 : 400 < h.size
  · have d1 : decide ((400 : Int) < (h.size : Int)) = true := by simp; omega
    go_enter Tryz.func12, Tryz.ntmps12
    go_wp2_with fail
    refine (awake17_t _ hG).mono ?_
    rintro e w1 ⟨rfl, HB⟩
    go_wp2_with fail
    go_ret
    exact RetV.mk rfl HB
  have d1 : decide ((400 : Int) < (h.size : Int)) = false := by simp; omega
  by_cases h2 : 400 < p.size
  · have d2 : decide ((400 : Int) < (p.size : Int)) = true := by simp; omega
    go_enter Tryz.func12, Tryz.ntmps12
    go_wp2_with fail
    refine (awake17_t _ hG).mono ?_
    rintro e w1 ⟨rfl, HB⟩
    go_wp2_with fail
    go_ret
    exact RetV.mk rfl HB
  have d2 : decide ((400 : Int) < (p.size : Int)) = false := by simp; omega
  by_cases h3 : 400 < q.size
  · have d3 : decide ((400 : Int) < (q.size : Int)) = true := by simp; omega
    go_enter Tryz.func12, Tryz.ntmps12
    go_wp2_with fail
    refine (awake17_t _ hG).mono ?_
    rintro e w1 ⟨rfl, HB⟩
    go_wp2_with fail
    go_ret
    exact RetV.mk rfl HB
  have d3 : decide ((400 : Int) < (q.size : Int)) = false := by simp; omega
  obtain ⟨a, x, hb⟩ := vStr_formB (locBuild h.data.toList p.data.toList q.data.toList)
  obtain ⟨⟨b, y⟩, hq⟩ : ∃ r, locQuery q.data.toList = r := ⟨_, rfl⟩
  have H1 := Lib.hid (build_T hb (by omega) (by omega) (by omega))
  have H2 := Lib.hid (buildR_T hb (by omega) (by omega) (by omega))
  have H3 := Lib.hid (locQuery_B hq (by omega))
  have H4 := Lib.hid (query_refB hq (by omega))
  clear hb hq h1 h2 h3
  go_enter Tryz.func12, Tryz.ntmps12
  go_wp2_with fail
  refine (H1.out _ hG).mono ?_
  rintro e w1 ⟨rfl, HB1⟩
  have hG1 := hG.next HB1
  go_wp2_with fail
  refine (H2.out _).mono ?_
  rintro e w2 ⟨rfl, HB2⟩
  have hG2 := hG1.next HB2
  go_wp2_with fail
  refine (H3.out _).mono ?_
  rintro e w3 ⟨rfl, HB3⟩
  have hG3 := hG2.next HB3
  go_wp2_with fail
  refine (H4.out _).mono ?_
  rintro e w4 ⟨rfl, rfl⟩
  go_wp2_with fail
  refine (awake17_t _ hG3).mono ?_
  rintro e w5 ⟨rfl, HB5⟩
  go_wp2_with fail
  go_ret
  exact RetV.mk rfl (below2 (below2 (below2 HB1 HB2) HB3) HB5)
end Go.Proofs.YteigjobliflkdaaGreatDoor
/- Plain: paths and queries made of numbers; a raw path written otherwise. No program stands here. -/
namespace Go.Proofs.YteigjobliflkdaaGreatDoor
open Go

def segT17 : List (List UInt8) := [[97], [98, 32, 99], [37], [120, 63], [0], [255], [35], [13, 10], [97, 46, 98], [46, 46, 46], [126]]
def qryT17 : List (List UInt8) := [[97, 61, 49], [38], [63], [37, 48, 100], [39]]
def hostT17 : List (List UInt8) := [[97], [97, 46, 98], [120, 45, 49, 46, 101, 120, 97, 109, 112, 108, 101], [49, 48, 46, 48, 46, 48, 46, 49, 58, 56, 48, 56, 48], [97, 58, 49]]
def segT18 : List (List UInt8) := [[97], [98, 32, 99], [37], [120, 63], [46, 46, 97], [255], [35], [97, 46, 98]]
def qryT18 : List (List UInt8) := [[97, 61, 49], [38], [63], [37, 50, 48], [37]]
theorem getD_of {α : Type} {p : α → Bool} {T : List α} {d : α} (h : T.all p = true) (i : Nat) (hi : i < T.length) : p (T[i]?.getD d) = true := by
  rw [List.getElem?_eq_getElem hi]
  exact List.all_eq_true.1 h _ (List.getElem_mem hi)
theorem seg17 (i : Nat) (hi : i < 11) : goodSeg (segT17[i]?.getD []) = true ∧ (segT17[i]?.getD []).length ≤ 3 := by
  have := getD_of (p := fun s => goodSeg s && decide (s.length ≤ 3)) (T := segT17) (d := []) (by decide) i hi
  simpa using this
theorem seg18 (i : Nat) (hi : i < 8) : goodSeg (segT18[i]?.getD []) = true ∧ (segT18[i]?.getD []).length ≤ 3 ∧ safeB (segT18[i]?.getD []) = true := by
  have := getD_of (p := fun s => goodSeg s && (decide (s.length ≤ 3) && safeB s)) (T := segT18) (d := []) (by decide) i hi
  simpa using this
theorem qry17 (i : Nat) (hi : i < 5) : qryB (qryT17[i]?.getD []) = true ∧ (qryT17[i]?.getD []).length ≤ 3 := by
  have := getD_of (p := fun s => qryB s && decide (s.length ≤ 3)) (T := qryT17) (d := []) (by decide) i hi
  simpa using this
theorem qry18 (i : Nat) (hi : i < 5) : qryB (qryT18[i]?.getD []) = true ∧ (qryT18[i]?.getD []).length ≤ 3 := by
  have := getD_of (p := fun s => qryB s && decide (s.length ≤ 3)) (T := qryT18) (d := []) (by decide) i hi
  simpa using this
theorem host17 (i : Nat) (hi : i < 5) : hostIs (hostT17[i]?.getD []) = true := getD_of (p := hostIs) (T := hostT17) (d := []) (by decide +kernel) i hi

/-- A path that is being made: n pieces at most, each fine; p holds of all of them. -/
def PathUp (n : Nat) (p : List UInt8) : Prop := ∃ L : List (List UInt8), (∀ s ∈ L, goodSeg s = true ∧ s.length ≤ 3) ∧ L.length ≤ n ∧ p = slashes L
def PathUpS (n : Nat) (p : List UInt8) : Prop := ∃ L : List (List UInt8), (∀ s ∈ L, goodSeg s = true ∧ s.length ≤ 3 ∧ safeB s = true) ∧ L.length ≤ n ∧ p = slashes L
theorem slashes_snoc (L : List (List UInt8)) (s : List UInt8) : slashes (L ++ [s]) = slashes L ++ 47 :: s := by simp [slashes]
theorem PathUp.nil : PathUp 0 [] := ⟨[], by simp, by simp, rfl⟩
theorem PathUpS.nil : PathUpS 0 [] := ⟨[], by simp, by simp, rfl⟩
theorem PathUp.snoc {n : Nat} {p s : List UInt8} (h : PathUp n p) (hs : goodSeg s = true ∧ s.length ≤ 3) : PathUp (n + 1) (p ++ 47 :: s) := by
  obtain ⟨L, h1, h2, rfl⟩ := h
  refine ⟨L ++ [s], fun x hx => ?_, by simp; omega, (slashes_snoc L s).symm⟩
  rcases List.mem_append.1 hx with hx | hx
  · exact h1 x hx
  · have : x = s := by simpa using hx
    subst this; exact hs
theorem PathUpS.snoc {n : Nat} {p s : List UInt8} (h : PathUpS n p) (hs : goodSeg s = true ∧ s.length ≤ 3 ∧ safeB s = true) : PathUpS (n + 1) (p ++ 47 :: s) := by
  obtain ⟨L, h1, h2, rfl⟩ := h
  refine ⟨L ++ [s], fun x hx => ?_, by simp; omega, (slashes_snoc L s).symm⟩
  rcases List.mem_append.1 hx with hx | hx
  · exact h1 x hx
  · have : x = s := by simpa using hx
    subst this; exact hs
theorem slashes_len3 : ∀ L : List (List UInt8), (∀ s ∈ L, s.length ≤ 3) → (slashes L).length ≤ 4 * L.length
  | [], _ => by simp [slashes]
  | a :: L, h => by
    have ih := slashes_len3 L (fun s hs => h s (by simp [hs]))
    have := h a (by simp)
    rw [slashes_cons]; simp only [List.length_cons, List.length_append]; omega
theorem PathUp.len {n : Nat} {p : List UInt8} (h : PathUp n p) : p.length ≤ 4 * n := by
  obtain ⟨L, h1, h2, rfl⟩ := h
  have := slashes_len3 L (fun s hs => (h1 s hs).2); omega
theorem PathUpS.up {n : Nat} {p : List UInt8} (h : PathUpS n p) : PathUp n p := by
  obtain ⟨L, h1, h2, rfl⟩ := h
  exact ⟨L, fun s hs => ⟨(h1 s hs).1, (h1 s hs).2.1⟩, h2, rfl⟩
/-- A path that is made. -/
def PathMade (p : List UInt8) : Prop := dNormal p = true ∧ dClean p = .ok p ∧ p.length ≤ 64
theorem PathUp.shut {n : Nat} {p : List UInt8} (h : PathUp n p) (hn : n ≤ 15) : PathMade (p ++ [47]) := by
  have hl := h.len
  obtain ⟨L, h1, h2, rfl⟩ := h
  have e : slashes L ++ [47] = pathOf L true := rfl
  have hg := fun s hs => (h1 s hs).1
  have hlen : (pathOf L true).length ≤ 64 := by rw [← e, List.length_append]; simp; omega
  rw [e]
  exact ⟨dNormal_path hg (.inr rfl) (by omega), dClean_path hg (.inr rfl), hlen⟩
theorem PathUp.whole {n : Nat} {p : List UInt8} (h : PathUp n p) (hn : n ≤ 15) (h0 : p ≠ []) : PathMade p := by
  have hl := h.len
  obtain ⟨L, h1, h2, rfl⟩ := h
  have e : slashes L = pathOf L false := by simp [pathOf]
  have hg := fun s hs => (h1 s hs).1
  have hL : L ≠ [] ∨ false = true := .inl fun e => h0 (by rw [e]; rfl)
  have hlen : (pathOf L false).length ≤ 64 := by rw [← e]; omega
  rw [e]
  exact ⟨dNormal_path hg hL (by omega), dClean_path hg hL, hlen⟩
theorem slashes_safe : ∀ L : List (List UInt8), (∀ s ∈ L, safeB s = true) → safeB (slashes L) = true
  | [], _ => rfl
  | a :: L, h => by
    have ih := slashes_safe L (fun s hs => h s (by simp [hs]))
    have ha := h a (by simp)
    rw [slashes_cons]
    unfold safeB at *
    rw [List.all_cons, List.all_append, ih, ha]; rfl
theorem PathUpS.safe {n : Nat} {p : List UInt8} (h : PathUpS n p) : safeB p = true := by
  obtain ⟨L, h1, h2, rfl⟩ := h
  exact slashes_safe L fun s hs => (h1 s hs).2.2
theorem safeB_snoc {p : List UInt8} (h : safeB p = true) : safeB (p ++ [47]) = true := by
  unfold safeB at *; rw [List.all_append, h]; rfl
/-- A query that is being made of n parts. -/
def QryUp (n : Nat) (q : List UInt8) : Prop := qryB q = true ∧ q.length ≤ 3 * n
theorem QryUp.nil : QryUp 0 [] := ⟨rfl, by simp⟩
theorem QryUp.snoc {n : Nat} {q s : List UInt8} (h : QryUp n q) (hs : qryB s = true ∧ s.length ≤ 3) : QryUp (n + 1) (q ++ s) := by
  refine ⟨by rw [qryB_app, h.1, hs.1]; rfl, ?_⟩
  have := h.2; have := hs.2
  rw [List.length_append]; omega
theorem QryUp.keep {n : Nat} {q : List UInt8} (h : QryUp n q) : QryUp (n + 1) q := ⟨h.1, by have := h.2; omega⟩
theorem PathUp.keep {n : Nat} {p : List UInt8} (h : PathUp n p) : PathUp (n + 1) p := by
  obtain ⟨L, h1, h2, h3⟩ := h; exact ⟨L, h1, by omega, h3⟩
/-- A host, a path and a query, made of numbers. -/
def In17 (h p q : List UInt8) : Prop := hostIs h = true ∧ h.length ≤ 64 ∧ PathMade p ∧ qryB q = true ∧ q.length ≤ 64
theorem In17.build {h p q : List UInt8} (hi : In17 h p q) : locBuild h p q = .ok (httpL ++ h ++ locText p q) :=
  locBuild_mk hi.1 (placeErr_mk hi.2.2.1.1 (by have := hi.2.2.2.2; omega) hi.2.2.2.1)
theorem In17.split {h p q : List UInt8} (hi : In17 h p q) : locSplit (httpL ++ h ++ locText p q) = some (h, p, q) := locSplit_build hi.build
theorem In17.own {h p q : List UInt8} (hi : In17 h p q) : locOwn (httpL ++ h ++ locText p q) h = (true, 0) := by
  unfold locOwn; rw [hi.split]; simp [hi.1]
theorem In17.apart {h p q h' p' q' : List UInt8} (hi : In17 h p q) (hi' : In17 h' p' q') : (httpL ++ h ++ locText p q = httpL ++ h' ++ locText p' q') ↔ (h = h' ∧ p = p' ∧ q = q') := by
  constructor
  · intro e
    have h1 := hi.build
    rw [e] at h1
    exact locBuild_inj h1 hi'.build
  · rintro ⟨rfl, rfl, rfl⟩; rfl
/-- A path and a query, made of numbers. -/
def In18 (p q : List UInt8) : Prop := PathMade p ∧ safeB p = true ∧ qryB q = true ∧ q.length ≤ 64
theorem In18.text {p q : List UInt8} (h : In18 p q) : tgtText p q = .ok (locText p q) := tgtText_mk h.1.1 (by have := h.2.2.2; omega) h.2.2.1
theorem In18.canon {p q : List UInt8} (h : In18 p q) : tgtCanon (locText p q) = .ok (locText p q) := tgtCanon_text h.1.1 h.1.2.1 h.2.1 (by have := h.2.2.2; omega) h.2.2.1
theorem In18.read {p q : List UInt8} (h : In18 p q) : tgtRead (locText p q) 128 = .ok (p, q) := tgtRead_text h.1.1 h.1.2.1 h.2.1 (by have := h.2.2.2; omega) h.2.2.1 (by have := h.1.2.2; omega) (by decide)

/-! A raw path, written otherwise, piece by piece -/
/-- The first i bytes of raw say o; other says it, too. -/
def OtherAt (raw : List UInt8) (i : Nat) (other : List UInt8) : Prop := i ≤ raw.length ∧ other.length ≤ 3 * i ∧ (∀ x ∈ other, rawB x) ∧ (0 < i → other.head? = some 47) ∧ ∃ o, DecodeAt raw i o ∧ Says other o
theorem OtherAt.start (raw : List UInt8) : OtherAt raw 0 [] := ⟨Nat.zero_le _, by simp, by simp, fun h => absurd h (by omega), [], DecodeAt.start raw, Says.nil⟩
theorem rawB_get {raw : List UInt8} (hr : ∀ x ∈ raw, rawB x) (i : Nat) (hi : i < raw.length) : rawB raw[i] := hr _ (List.getElem_mem hi)
/-- At a '%' an escape stands. -/
theorem pct_esc {raw d : List UInt8} (hd : pctDec raw = some d) {i : Nat} {other : List UInt8} (h : OtherAt raw i other) (hi : i < raw.length) (hc : raw[i]?.getD 0 = 37) : i + 2 < raw.length ∧ escB (raw.drop i) = true := by
  obtain ⟨_, _, _, _, o, hD, _⟩ := h
  cases he : escB (raw.drop i) with
  | true =>
    have := escB_len he
    simp at this
    exact ⟨by omega, rfl⟩
  | false =>
    have := hD.bad hi he hc
    rw [this] at hd; cases hd
theorem OtherAt.esc {raw d : List UInt8} (hd : pctDec raw = some d) (hr : ∀ x ∈ raw, rawB x) (hh : raw.head? = some 47) {i : Nat} {other : List UInt8} (h : OtherAt raw i other) (hi : i < raw.length) (hc : raw[i]?.getD 0 = 37) : OtherAt raw (i + 3) (other ++ (raw.take (i + 3)).drop i) := by
  obtain ⟨h1, h2⟩ := pct_esc hd h hi hc
  obtain ⟨a, b, c, e, o, hD, hS⟩ := h
  have hthree : (raw.take (i + 3)).drop i = [raw[i], raw[i+1], raw[i+2]] := by
    rw [List.drop_take, show i + 3 - i = 3 by omega, List.drop_eq_getElem_cons hi, List.drop_eq_getElem_cons (show i + 1 < raw.length by omega), List.drop_eq_getElem_cons (show i + 2 < raw.length by omega)]
    rfl
  have hesc : escB [raw[i], raw[i+1], raw[i+2]] = true ∧ escV (raw.drop i) = escV [raw[i], raw[i+1], raw[i+2]] := by
    rw [List.drop_eq_getElem_cons hi, List.drop_eq_getElem_cons (show i + 1 < raw.length by omega), List.drop_eq_getElem_cons (show i + 2 < raw.length by omega)] at h2 ⊢
    exact ⟨h2, rfl⟩
  have hi0 : 0 < i := by
    rcases Nat.eq_zero_or_pos i with h0 | h0
    · subst h0
      rw [List.getElem?_eq_getElem hi] at hc
      have hc : raw[0] = 37 := hc
      rw [List.head?_eq_getElem?, List.getElem?_eq_getElem hi] at hh
      injection hh with hh
      rw [hc] at hh; exact absurd hh (by decide)
    · exact h0
  rw [hthree]
  refine ⟨by omega, by simp; omega, ?_, fun _ => ?_, _, hD.esc hi h2, ?_⟩
  · intro x hx
    rcases List.mem_append.1 hx with hx | hx
    · exact c x hx
    · simp only [List.mem_cons, List.not_mem_nil, or_false] at hx
      rcases hx with rfl | rfl | rfl
      · exact rawB_get hr _ _
      · exact rawB_get hr _ _
      · exact rawB_get hr _ _
  · have := e hi0
    cases other with
    | nil => cases this
    | cons y t => exact this
  · rw [hesc.2]
    exact hS.app (Says.three hesc.1)
theorem OtherAt.step {raw : List UInt8} {i : Nat} {other t : List UInt8} (h : OtherAt raw i other) (hi : i < raw.length) (hc : raw[i]?.getD 0 ≠ 37) (ht : Says t [raw[i]?.getD 0]) (hl : t.length ≤ 3) (hb : ∀ x ∈ t, rawB x) (hh : (other ++ t).head? = some 47) : OtherAt raw (i + 1) (other ++ t) := by
  obtain ⟨a, b, c, e, o, hD, hS⟩ := h
  have he : escB (raw.drop i) = false := by
    cases h2 : escB (raw.drop i) with
    | false => rfl
    | true =>
      rw [escB_drop] at h2
      simp only [Bool.and_eq_true, beq_iff_eq] at h2
      exact absurd h2.1.1.2 hc
  refine ⟨hi, by simp; omega, ?_, fun _ => hh, _, hD.lit hi he hc, hS.app ht⟩
  intro x hx
  rcases List.mem_append.1 hx with hx | hx
  · exact c x hx
  · exact hb x hx
theorem OtherAt.head {raw : List UInt8} {i : Nat} {other t : List UInt8} (h : OtherAt raw i other) (h0 : 0 < i) : (other ++ t).head? = some 47 := by
  have := h.2.2.2.1 h0
  cases other with
  | nil => cases this
  | cons y u => exact this
/-- A byte as it is. -/
theorem OtherAt.lit {raw : List UInt8} (hr : ∀ x ∈ raw, rawB x) (hh : raw.head? = some 47) {i : Nat} {other : List UInt8} (h : OtherAt raw i other) (hi : i < raw.length) (hc : raw[i]?.getD 0 ≠ 37) : OtherAt raw (i + 1) (other ++ [raw[i]?.getD 0]) := by
  have hx : raw[i]?.getD 0 = raw[i] := by rw [List.getElem?_eq_getElem hi]; rfl
  refine h.step hi hc (Says.lit hc) (by simp) (fun x hx' => ?_) ?_
  · have : x = raw[i] := by rw [← hx]; simpa using hx'
    rw [this]; exact rawB_get hr _ _
  · rcases Nat.eq_zero_or_pos i with h0 | h0
    · subst h0
      have : other = [] := List.length_eq_zero_iff.1 (by have := h.2.1; omega)
      subst this
      rw [List.head?_eq_getElem?] at hh
      rw [hh]; rfl
    · exact h.head h0
/-- A byte as an escape. -/
theorem OtherAt.code {raw : List UInt8} {i : Nat} {other : List UInt8} (h : OtherAt raw i other) (hi : i < raw.length) (h0 : 0 < i) (hc : raw[i]?.getD 0 ≠ 37) : OtherAt raw (i + 1) (other ++ escOf (raw[i]?.getD 0)) :=
  h.step hi hc (Says.esc _) (by simp [escOf]) (escOf_raw _) (h.head h0)
theorem pctEnc_none (b : UInt8) : pctEnc (fun _ => false) [b] = escOf b := by simp [pctEnc, pctB, escOf]
/-- The whole, written otherwise, is read as it was. -/
theorem OtherAt.fin {l p q raw : List UInt8} {L : Int} (h : tgtRead l L = .ok (p, q)) (hl : l.length ≤ 200) (hraw : raw = (cut1 63 l).1) {other : List UInt8} (ho : OtherAt raw raw.length other) : tgtRead (other ++ l.drop raw.length) L = .ok (p, q) := by
  obtain ⟨a, b, c, e, o, hD, hS⟩ := ho
  obtain ⟨_, _, d, hsp, _, hd, _⟩ := tgtRead_some h
  have h1 := tgtSplit_ok hsp
  have hlen : raw.length ≤ 200 := by rw [hraw]; have := (cut1_len 63 l).1; omega
  have h0 : 0 < raw.length := by
    have := cut1_head h1.2.1
    rw [← hraw] at this
    cases raw with
    | nil => cases this
    | cons x t => simp
  exact tgtRead_other h hl hraw hS (hD.fin (Nat.le_refl _)) c (e h0) (by omega)
theorem raw_bytes {l p q : List UInt8} {L : Int} (h : tgtRead l L = .ok (p, q)) : (∀ x ∈ (cut1 63 l).1, rawB x) ∧ (cut1 63 l).1.head? = some 47 ∧ ∃ d, pctDec (cut1 63 l).1 = some d := by
  obtain ⟨_, _, d, hsp, _, hd, _⟩ := tgtRead_some h
  have h1 := tgtSplit_ok hsp
  refine ⟨fun x hx => ⟨?_, cut1_fst_free 63 l x hx⟩, cut1_head h1.2.1, d, hd⟩
  have hq := h1.2.2.1
  unfold qryB at hq
  rw [List.all_eq_true] at hq
  refine hq x ?_
  rw [← cut1_take 63 l] at hx
  exact List.mem_of_mem_take hx
end Go.Proofs.YteigjobliflkdaaGreatDoor
/- Walks: Mod, hosts made of numbers, HostKnown. -/
namespace Go.Proofs.YteigjobliflkdaaGreatDoor
open Go.RowKit

theorem under_tB {s t : ByteArray} {b : Bool} (h : underB s.data.toList t.data.toList = b) (w : World) (hG : Good w) (hs : s.size ≤ 60000) (ht : t.size ≤ 60000) :
    Calls Tryz.prog 40 #[.string s, .string t] w (RetV (.bool b) w) := by
  have := under_t s t w hG hs ht; rwa [h] at this
theorem texts_row {w : World} {g : Nat} {L : List (List UInt8)} {fr : Nat × Nat} (h : w.heap[g]? = some (.cells (L.map S).toArray 9 fr)) : TextsAt w g L := by
  refine ⟨(Array.getElem?_eq_some_iff.1 h).1, fun j hj => ?_⟩
  rw [cell_of_row _ _ _ _ 9 fr h]
  simp [List.getElem?_eq_getElem hj, S]

theorem mod_any (n m : Int) (w : World) (h1 : 1 ≤ m) (h2 : m ≤ 2147483648) : Calls Tryz.prog 47 #[.int .i64 n, .int .i64 m] w fun e w' => e = .returned (.int .i64 (n % m)) ∧ w = w' := by
  have a1 := Int.tmod_lt_of_pos n (show 0 < m by omega)
  have a2 := Int.lt_tmod_of_pos n (show 0 < m by omega)
  have a3 : n % m = if n.tmod m < 0 then n.tmod m + m else n.tmod m := by
    have e := Int.tmod_eq_emod (a := n) (b := m)
    have em : (m.natAbs : Int) = m := Int.natAbs_of_nonneg (by omega)
    have e1 := Int.emod_nonneg n (show m ≠ 0 by omega)
    have e2 := Int.emod_lt_of_pos n (show 0 < m by omega)
    split at e
    · rw [if_neg (by omega)]; omega
    · rw [if_pos (by omega)]; omega
  have hm0 : (m == 0) = false := by rw [beq_eq_false_iff_ne]; omega
  have hd : decide (m < 1) = false := by simp; omega
  generalize hr : n.tmod m = r at a1 a2 a3
  by_cases hn : r < 0
  · have HE := Lib.hid (show n % m = r + m by rw [a3, if_pos hn])
    have d : decide (r < 0) = true := by simpa using hn
    clear a3
    go_enter Tryz.func47, Tryz.ntmps47
    go_wp2_with fail
    go_ret
    exact ⟨ret_int (by rw [HE.out]), rfl⟩
  · have HE := Lib.hid (show n % m = r by rw [a3, if_neg hn])
    have d : decide (r < 0) = false := by simpa using hn
    clear a3
    go_enter Tryz.func47, Tryz.ntmps47
    go_wp2_with fail
    go_ret
    exact ⟨ret_int (by rw [HE.out]), rfl⟩

set_option maxRecDepth 100000 in
set_option maxHeartbeats 8000000 in
theorem known_t (w : World) (hG : Good w) : Calls Tryz.prog 5 #[] w (RetV (.bool true) w) := by
  have HBc := Below.refl w.heap.size w
  go_enter Tryz.func5, Tryz.ntmps5
  go_wp2_with fail
  refine (splits_t (s := ⟨#[97]⟩) (n := ⟨#[97]⟩) (p := 80) (by kernel_rfl) _ hG (by decide)).mono ?_
  rintro e w1 ⟨rfl, HB⟩
  replace HBc := below2 HBc HB
  replace hG := hG.next HB
  clear HB
  go_wp2_with fail
  refine (fails_t (s := ⟨#[97, 58]⟩) (x := 3) (by kernel_rfl) _ hG (by decide)).mono ?_
  rintro e w1 ⟨rfl, HB⟩
  replace HBc := below2 HBc HB
  replace hG := hG.next HB
  clear HB
  go_wp2_with fail
  refine (fails_t (s := ⟨#[97, 46, 46, 98]⟩) (x := 3) (by kernel_rfl) _ hG (by decide)).mono ?_
  rintro e w1 ⟨rfl, HB⟩
  replace HBc := below2 HBc HB
  replace hG := hG.next HB
  clear HB
  go_wp2_with fail
  refine (fails_t (s := ⟨#[45, 97]⟩) (x := 3) (by kernel_rfl) _ hG (by decide)).mono ?_
  rintro e w1 ⟨rfl, HB⟩
  replace HBc := below2 HBc HB
  replace hG := hG.next HB
  clear HB
  go_wp2_with fail
  refine (fails_t (s := ⟨#[97, 58, 54, 53, 53, 51, 54]⟩) (x := 2) (by kernel_rfl) _ hG (by decide)).mono ?_
  rintro e w1 ⟨rfl, HB⟩
  replace HBc := below2 HBc HB
  replace hG := hG.next HB
  clear HB
  go_wp2_with fail
  refine (fails_t (s := ⟨#[97, 58, 49, 50, 51, 52, 53, 54]⟩) (x := 3) (by kernel_rfl) _ hG (by decide)).mono ?_
  rintro e w1 ⟨rfl, HB⟩
  replace HBc := below2 HBc HB
  replace hG := hG.next HB
  clear HB
  go_wp2_with fail
  refine (fails_t (s := ⟨#[97, 95, 98]⟩) (x := 3) (by kernel_rfl) _ hG (by decide)).mono ?_
  rintro e w1 ⟨rfl, HB⟩
  replace HBc := below2 HBc HB
  replace hG := hG.next HB
  clear HB
  go_wp2_with fail
  refine (normal_t (s := ⟨#[65, 46, 66, 58, 48, 56, 48]⟩) (n := ⟨#[97, 46, 98]⟩) (by kernel_rfl) _ hG (by decide)).mono ?_
  rintro e w1 ⟨rfl, HB⟩
  replace HBc := below2 HBc HB
  replace hG := hG.next HB
  clear HB
  go_wp2_with fail
  refine (normal_t (s := ⟨#[49, 46, 50, 46, 51, 46, 52, 58, 48, 56]⟩) (n := ⟨#[49, 46, 50, 46, 51, 46, 52, 58, 56]⟩) (by kernel_rfl) _ hG (by decide)).mono ?_
  rintro e w1 ⟨rfl, HB⟩
  replace HBc := below2 HBc HB
  replace hG := hG.next HB
  clear HB
  go_wp2_with fail
  refine (is_anyT (s := ⟨#[97, 46, 98, 58, 56, 48]⟩) (b := false) (by kernel_rfl) _ hG (by decide)).mono ?_
  rintro e w1 ⟨rfl, HB⟩
  replace HBc := below2 HBc HB
  replace hG := hG.next HB
  clear HB
  go_wp2_with fail
  refine (is_anyT (s := ⟨#[97, 46, 98, 58, 56, 49]⟩) (b := true) (by kernel_rfl) _ hG (by decide)).mono ?_
  rintro e w1 ⟨rfl, HB⟩
  replace HBc := below2 HBc HB
  replace hG := hG.next HB
  clear HB
  go_wp2_with fail
  refine (is_anyT (s := ⟨#[65]⟩) (b := false) (by kernel_rfl) _ hG (by decide)).mono ?_
  rintro e w1 ⟨rfl, HB⟩
  replace HBc := below2 HBc HB
  replace hG := hG.next HB
  clear HB
  go_wp2_with fail
  refine (under_tB (s := ⟨#[120, 97, 46, 111, 114, 103]⟩) (t := ⟨#[97, 46, 111, 114, 103]⟩) (b := false) (by kernel_rfl) _ hG (by decide) (by decide)).mono ?_
  rintro e w1 ⟨rfl, HB⟩
  replace HBc := below2 HBc HB
  replace hG := hG.next HB
  clear HB
  go_wp2_with fail
  refine (under_tB (s := ⟨#[97]⟩) (t := ⟨#[97]⟩) (b := true) (by kernel_rfl) _ hG (by decide) (by decide)).mono ?_
  rintro e w1 ⟨rfl, HB⟩
  replace HBc := below2 HBc HB
  replace hG := hG.next HB
  clear HB
  go_wp2_with fail
  refine (compares_t (s := ⟨#[97, 46, 111, 114, 103]⟩) (t := ⟨#[120, 46, 97, 46, 111, 114, 103]⟩) (x := -1) (by kernel_rfl) _ hG (by decide) (by decide)).mono ?_
  rintro e w1 ⟨rfl, HB⟩
  replace HBc := below2 HBc HB
  replace hG := hG.next HB
  clear HB
  go_wp2_with fail
  refine (compares_t (s := ⟨#[97, 46, 111, 114, 103, 58, 56, 49]⟩) (t := ⟨#[97, 46, 111, 114, 103]⟩) (x := 1) (by kernel_rfl) _ hG (by decide) (by decide)).mono ?_
  rintro e w1 ⟨rfl, HB⟩
  replace HBc := below2 HBc HB
  replace hG := hG.next HB
  clear HB
  go_wp2_with fail
  refine (compares_t (s := ⟨#[122, 46, 99, 111, 109]⟩) (t := ⟨#[97, 46, 111, 114, 103]⟩) (x := -1) (by kernel_rfl) _ hG (by decide) (by decide)).mono ?_
  rintro e w1 ⟨rfl, HB⟩
  replace HBc := below2 HBc HB
  replace hG := hG.next HB
  clear HB
  go_wp2_with fail
  refine (join_anyT (s := ⟨#[65, 46, 98]⟩) (p := 81) (a := ⟨#[97, 46, 98, 58, 56, 49]⟩) (x := 0) (by kernel_rfl) _ hG (by decide)).mono ?_
  rintro e w1 ⟨rfl, HB⟩
  replace HBc := below2 HBc HB
  replace hG := hG.next HB
  clear HB
  go_wp2_with fail
  refine (join_anyT (s := ⟨#[97]⟩) (p := 0) (a := ⟨#[]⟩) (x := 2) (by kernel_rfl) _ hG (by decide)).mono ?_
  rintro e w1 ⟨rfl, HB⟩
  replace HBc := below2 HBc HB
  replace hG := hG.next HB
  clear HB
  go_wp2_with fail
  refine (join_anyT (s := ⟨#[97, 58, 53]⟩) (p := 80) (a := ⟨#[]⟩) (x := 3) (by kernel_rfl) _ hG (by decide)).mono ?_
  rintro e w1 ⟨rfl, HB⟩
  replace HBc := below2 HBc HB
  replace hG := hG.next HB
  clear HB
  go_wp2_with fail
  refine (labels_anyK (s := ⟨#[88, 46, 97, 46, 79, 114, 103, 58, 53]⟩) (L := [[120], [97], [111, 114, 103]]) (by kernel_rfl) _ hG (by decide)).mono ?_
  rintro e w1 ⟨g, cap, rfl, T1, HB⟩
  replace HBc := below2 HBc HB
  replace hG := hG.next HB
  clear HB
  go_wp2_with fail
  refine (awake_t _ hG).mono ?_
  rintro e w2 ⟨rfl, HB⟩
  replace T1 := T1.next HB
  replace HBc := below2 HBc HB
  clear HB
  go_wp2_with fail
  refine (sameTexts_self (L := [[120], [97], [111, 114, 103]]) _ (by decide) (T1.next ((Below.refl _ _).alloc (Nat.le_refl _) _)) (texts_row (fr := (0, 0)) (heap_alloc_new _ _))).mono ?_
  rintro e w3 ⟨rfl, HB⟩
  replace HBc := below2 (HBc.alloc HBc.size _) HB
  clear HB
  go_wp2_with fail
  go_ret
  exact RetV.mk rfl HBc
end Go.Proofs.YteigjobliflkdaaGreatDoor
/- Walk: hosts made of numbers. -/
namespace Go.Proofs.YteigjobliflkdaaGreatDoor
open Go.RowKit

/-- A host made of a number. -/
def RetMade (w : World) (e : Ending) (w' : World) : Prop := ∃ i j, i < 10 ∧ j < 7 ∧ e = .returned (S (madeN i ++ madeP j)) ∧ Below w.heap.size w w'
theorem mod_anyR {n m : Int} {r : Nat} (h : n % m = (r : Int)) (h1 : 1 ≤ m) (h2 : m ≤ 2147483648) (w : World) : Calls Tryz.prog 47 #[.int .i64 n, .int .i64 m] w fun e w' => e = .returned (.int .i64 r) ∧ w = w' := by
  have := mod_any n m w h1 h2; rwa [h] at this
theorem names_row (w : World) (i : Nat) (hi : i < 10) : (w.alloc (.cells (madeNames.map S).toArray 9)).cell? ⟨w.heap.size, i, none⟩ = some (.string ⟨(madeN i).toArray⟩) := by
  rw [cell_of_row _ _ _ _ 9 (0, 0) (heap_alloc_new _ _)]
  have : i < madeNames.length := hi
  simp [madeN, List.getElem?_eq_getElem this, S]
theorem ports_row (w : World) (j : Nat) (hj : j < 7) : (w.alloc (.cells (madePorts.map S).toArray 9)).cell? ⟨w.heap.size, j, none⟩ = some (.string ⟨(madeP j).toArray⟩) := by
  rw [cell_of_row _ _ _ _ 9 (0, 0) (heap_alloc_new _ _)]
  have : j < madePorts.length := hj
  simp [madeP, List.getElem?_eq_getElem this, S]

set_option maxRecDepth 100000 in
set_option maxHeartbeats 1600000 in
theorem made_any (n : Int) (w : World) : Calls Tryz.prog 42 #[.int .i64 n] w (RetMade w) := by
  obtain ⟨r, hr⟩ := Int.eq_ofNat_of_zero_le (Int.emod_nonneg n (show (1073741824 : Int) ≠ 0 by decide))
  have hr2 : r < 1073741824 := by have := Int.emod_lt_of_pos n (show (0 : Int) < 1073741824 by decide); omega
  have HR := Lib.hid hr
  clear hr
  obtain ⟨i, hi'⟩ : ∃ i, r % 10 = i := ⟨_, rfl⟩
  obtain ⟨q, hq'⟩ : ∃ q, r / 10 = q := ⟨_, rfl⟩
  obtain ⟨j, hj'⟩ : ∃ j, q % 7 = j := ⟨_, rfl⟩
  have hi : i < 10 := by omega
  have hj : j < 7 := by omega
  have e1 : (r : Int).tmod 10 = (i : Int) := by rw [Int.tmod_eq_emod_of_nonneg (by omega)]; omega
  have e2 : (r : Int).tdiv 10 = (q : Int) := by rw [Int.tdiv_eq_ediv_of_nonneg (by omega)]; omega
  have e3 : (q : Int).tmod 7 = (j : Int) := by rw [Int.tmod_eq_emod_of_nonneg (by omega)]; omega
  have e4 : (r : Int) / 10 = (q : Int) := by omega
  have e5 : (r : Int) % 10 = (i : Int) := by omega
  have e6 : (q : Int) % 7 = (j : Int) := by omega
  have w1 : IntKind.i64.wrap (q : Int) = (q : Int) := IntWalk.i64_in _ (by omega)
  have b1 : (i : Int) < 10 := by omega
  have b2 : (0 : Int) ≤ i := by omega
  have b3 : (j : Int) < 7 := by omega
  have b4 : (0 : Int) ≤ j := by omega
  have C1 := ((names_row w i hi : _))
  have C2 := (ports_row (w.alloc (.cells (madeNames.map S).toArray 9)) j hj)
  have C3 : ((w.alloc (.cells (madeNames.map S).toArray 9)).alloc (.cells (madePorts.map S).toArray 9)).cell? ⟨w.heap.size, i, none⟩ = some (.string ⟨(madeN i).toArray⟩) := by
    rw [World.cell?_alloc_past _ _ _ (by simp)]; exact C1
  rw [show (w.alloc (.cells (madeNames.map S).toArray 9)).heap.size = w.heap.size + 1 by simp] at C2
  have HBB := Lib.hid (((Below.refl w.heap.size w).alloc (Nat.le_refl _) (.cells (madeNames.map S).toArray 9)).alloc (by simp) (.cells (madePorts.map S).toArray 9))
  clear C1 hi' hq' hj'
  have hsz := made_len i j hi hj
  have hrun := run_string_add_sum (P := Tryz.prog) (w := w) ⟨(madeN i).toArray⟩ ⟨(madeP j).toArray⟩ (by rw [size_mk, size_mk]; simp at hsz; omega)
  have hsum : (⟨(madeN i).toArray⟩ : ByteArray).size + (⟨(madeP j).toArray⟩ : ByteArray).size ≤ 9223372036854775807 := by rw [size_mk, size_mk]; simp at hsz; omega
  have HE := Lib.hid (show Value.string (⟨(madeN i).toArray⟩ ++ ⟨(madeP j).toArray⟩) = S (madeN i ++ madeP j) by rw [ByteArray.mk_append_mk]; rfl)
  clear hrun
  generalize (⟨(madeN i).toArray⟩ : ByteArray) = sa at C3 hsum HE
  generalize (⟨(madeP j).toArray⟩ : ByteArray) = sb at C2 hsum HE
  go_enter Tryz.func42, Tryz.ntmps42
  go_wp2_with fail
  refine (mod_anyR HR.out (by decide) (by decide) _).mono ?_
  rintro e w' ⟨rfl, rfl⟩
  go_wp2_with fail
  change Code.wp _ _ _ _ ((w.alloc (.cells (madeNames.map S).toArray 9)).alloc (.cells (madePorts.map S).toArray 9))
  generalize ((w.alloc (.cells (madeNames.map S).toArray 9)).alloc (.cells (madePorts.map S).toArray 9)) = W at C2 C3 HBB
  go_quiet (fail)
  go_wp2_with fail
  go_ret
  exact ⟨i, j, hi, hj, congrArg Ending.returned HE.out, below_drewN HBB.out _⟩
end Go.Proofs.YteigjobliflkdaaGreatDoor
/- Walks: numbers that came in; the hosts, paths and queries that are made of them. -/
namespace Go.Proofs.YteigjobliflkdaaGreatDoor
open Go.RowKit

/-- A slice of numbers that came in. -/
def NumsAt (w : World) (v : Value) (zs : List Int) : Prop := ∃ ao cap, v = .slice ao zs.length cap ∧ zs.length ≤ 9223372036854775807 ∧ ∀ i, i < zs.length → ∃ b off, ao = some ⟨b, off, none⟩ ∧ w.cell? ⟨b, off + i, none⟩ = some (.int .i64 (zs[i]?.getD 0))
theorem NumsAt.below {w w' : World} {v : Value} {zs : List Int} (h : NumsAt w v zs) (hB : Below w.heap.size w w') : NumsAt w' v zs := by
  obtain ⟨ao, cap, h1, h2, h3⟩ := h
  refine ⟨ao, cap, h1, h2, fun i hi => ?_⟩
  obtain ⟨b, off, e, hc⟩ := h3 i hi
  exact ⟨b, off, e, (hB.cell (p := ⟨b, off + i, none⟩) (World.block_lt_of_cell? w _ hc)).trans hc⟩
set_option maxRecDepth 100000 in
theorem at_any {v : Value} {zs : List Int} (i : Nat) (w : World) (h : NumsAt w v zs) : Calls Tryz.prog 50 #[v, .int .i64 i] w fun e w' => ∃ n : Int, e = .returned (.int .i64 n) ∧ w = w' := by
  obtain ⟨ao, cap, rfl, hl, hc⟩ := h
  have d0 : decide ((i : Int) < 0) = false := by simp
  by_cases hi : i < zs.length
  · obtain ⟨b, off, rfl, hcell⟩ := hc i hi
    have d1 : decide ((zs.length : Int) ≤ (i : Int)) = false := by simp; omega
    clear hc
    go_enter Tryz.func50, Tryz.ntmps50
    go_wp2_with fail
    go_ret
    exact ⟨_, rfl, rfl⟩
  · have d1 : decide ((zs.length : Int) ≤ (i : Int)) = true := by simp; omega
    clear hc
    go_enter Tryz.func50, Tryz.ntmps50
    go_wp2_with fail
    go_ret
    exact ⟨_, rfl, rfl⟩
theorem mod20_any (n : Int) (w : World) : Calls Tryz.prog 47 #[.int .i64 n, .int .i64 1048576] w fun e w' => ∃ r : Nat, r < 1048576 ∧ e = .returned (.int .i64 r) ∧ w = w' := by
  obtain ⟨r, hr⟩ := Int.eq_ofNat_of_zero_le (Int.emod_nonneg n (show (1048576 : Int) ≠ 0 by decide))
  have hr2 : r < 1048576 := by have := Int.emod_lt_of_pos n (show (0 : Int) < 1048576 by decide); omega
  exact (mod_anyR hr (by decide) (by decide) w).mono fun e w' h => ⟨r, hr2, h.1, h.2⟩
/-- A row of texts that was just laid. -/
theorem texts_at {L : List (List UInt8)} {w : World} {C : Array Value} (hC : C = (L.map S).toArray) (i : Nat) (hi : i < L.length) : (w.alloc (.cells C 9)).cell? ⟨w.heap.size, i, none⟩ = some (.string ⟨(L[i]?.getD []).toArray⟩) := by
  subst hC
  rw [cell_of_row _ _ _ _ 9 (0, 0) (heap_alloc_new _ _)]
  simp [List.getElem?_eq_getElem hi, S]
/-- What the loop of made has at its k-th round's head. -/
def UpAt (k : Nat) (p q : ByteArray) (w0 wr : World) : Prop := PathUp (k - 1) p.data.toList ∧ QryUp (k - 1) q.data.toList ∧ Below w0.heap.size w0 wr
theorem bs_cat3 (p x : ByteArray) : (p ++ ⟨#[47]⟩ ++ x).data.toList = p.data.toList ++ 47 :: x.data.toList := by simp [ByteArray.data_append]
theorem bs_cat2 (p x : ByteArray) : (p ++ x).data.toList = p.data.toList ++ x.data.toList := by simp [ByteArray.data_append]
def RetMade17 (w : World) (e : Ending) (w' : World) : Prop := ∃ h p q : ByteArray, In17 h.data.toList p.data.toList q.data.toList ∧ e = .returned (.tuple #[.string h, .string p, .string q]) ∧ Below w.heap.size w w'

set_option maxRecDepth 100000 in
set_option maxHeartbeats 4000000 in
theorem made17_any {v : Value} {zs : List Int} (w : World) (h : NumsAt w v zs) : Calls Tryz.prog 68 #[v] w (RetMade17 w) := by
  have HN := Lib.hid h
  obtain ⟨ao, cap, rfl, hl, _⟩ := h
  go_enter Tryz.func68, Tryz.ntmps68
  go_wp2_with fail
  refine (at_any 0 _ HN.out).mono ?_
  rintro e w1 ⟨n0, rfl, rfl⟩
  go_wp2_with fail
  refine (mod20_any _ _).mono ?_
  rintro e w1 ⟨r, hr, rfl, rfl⟩
  obtain ⟨i, hi'⟩ : ∃ i, r % 5 = i := ⟨_, rfl⟩
  have hi : i < 5 := by omega
  have e1 : (r : Int).tmod 5 = (i : Int) := by rw [Int.tmod_eq_emod_of_nonneg (by omega)]; omega
  have e2 : (r : Int) % 5 = (i : Int) := by omega
  have b1 : (i : Int) < 5 := by omega
  have b2 : (0 : Int) ≤ i := by omega
  have HH := host17 i hi
  have hT := texts_at (L := hostT17) (w := w) (C := #[.string ⟨#[97]⟩, .string ⟨#[97, 46, 98]⟩, .string ⟨#[120, 45, 49, 46, 101, 120, 97, 109, 112, 108, 101]⟩, .string ⟨#[49, 48, 46, 48, 46, 48, 46, 49, 58, 56, 48, 56, 48]⟩, .string ⟨#[97, 58, 49]⟩]) rfl i hi
  obtain ⟨hx, hhx⟩ : ∃ hx : ByteArray, (⟨(hostT17[i]?.getD []).toArray⟩ : ByteArray) = hx := ⟨_, rfl⟩
  rw [hhx] at hT
  have hxl : hx.data.toList = hostT17[i]?.getD [] := by rw [← hhx]
  rw [← hxl] at HH
  have HH := Lib.hid HH
  clear hhx hxl hi'
  go_wp2_with fail
  have HBw := one_below w (.cells #[.string ⟨#[97]⟩, .string ⟨#[97, 46, 98]⟩, .string ⟨#[120, 45, 49, 46, 101, 120, 97, 109, 112, 108, 101]⟩, .string ⟨#[49, 48, 46, 48, 46, 48, 46, 49, 58, 56, 48, 56, 48]⟩, .string ⟨#[97, 58, 49]⟩] 9)
  clear hT e1 e2
  go_loopg [7, 8, 9] 15 (fun gh vp vq vi wr => ∃ (k : Nat) (p q : ByteArray), 1 ≤ k ∧ k ≤ 15 ∧ gh = 16 - k ∧ vi = .int .i64 k ∧ vp = .string p ∧ vq = .string q ∧ Hid (UpAt k p q w wr))
  case atStart => exact ⟨1, ⟨#[]⟩, ⟨#[]⟩, by omega, by omega, rfl, rfl, rfl, rfl, PathUp.nil, QryUp.nil, HBw⟩
  case round =>
    obtain ⟨k, p, q, hk1, hk, hgk, rfl, rfl, rfl, HU⟩ := hrel
    have hps : p.size ≤ 60 := by have := HU.out.1.len; rw [size_len] at this; omega
    have hqs : q.size ≤ 60 := by have := HU.out.2.1.2; rw [size_len] at this; omega
    by_cases hlt : k < zs.length ∧ k < 15
    · obtain ⟨h1, h2⟩ := hlt
      have d1 : decide ((k : Int) < (zs.length : Int)) = true := by simp; omega
      have d2 : decide ((k : Int) < 15) = true := by simp; omega
      obtain ⟨_, _, hv, _, hc⟩ := HN.out.below HU.out.2.2
      cases hv
      obtain ⟨b, off, rfl, hcell⟩ := hc k h1
      clear hc
      have b3 : (0 : Int) ≤ k := by omega
      have b4 : (k : Int) < zs.length := by omega
      generalize zs[k]?.getD 0 = z at hcell
      go_wp2_with fail
      refine (mod20_any _ _).mono ?_
      rintro e w1 ⟨m, hm, rfl, rfl⟩
      obtain ⟨a, ha'⟩ : ∃ a, m % 11 = a := ⟨_, rfl⟩
      obtain ⟨c, hc'⟩ : ∃ c, m / 11 = c := ⟨_, rfl⟩
      obtain ⟨d, hd'⟩ : ∃ d, c % 3 = d := ⟨_, rfl⟩
      obtain ⟨u, hu'⟩ : ∃ u, m / 33 = u := ⟨_, rfl⟩
      obtain ⟨f, hf'⟩ : ∃ f, u % 5 = f := ⟨_, rfl⟩
      have ha : a < 11 := by omega
      have hf : f < 5 := by omega
      have e1 : (m : Int).tmod 11 = (a : Int) := by rw [Int.tmod_eq_emod_of_nonneg (by omega)]; omega
      have e2 : (m : Int) % 11 = (a : Int) := by omega
      have e3 : (m : Int).tdiv 11 = (c : Int) := by rw [Int.tdiv_eq_ediv_of_nonneg (by omega)]; omega
      have e4 : (m : Int) / 11 = (c : Int) := by omega
      have e5 : (c : Int).tmod 3 = (d : Int) := by rw [Int.tmod_eq_emod_of_nonneg (by omega)]; omega
      have e6 : (c : Int) % 3 = (d : Int) := by omega
      have e7 : (m : Int).tdiv 33 = (u : Int) := by rw [Int.tdiv_eq_ediv_of_nonneg (by omega)]; omega
      have e8 : (m : Int) / 33 = (u : Int) := by omega
      have e9 : (u : Int).tmod 5 = (f : Int) := by rw [Int.tmod_eq_emod_of_nonneg (by omega)]; omega
      have e10 : (u : Int) % 5 = (f : Int) := by omega
      have g1 : (a : Int) < 11 := by omega
      have g2 : (0 : Int) ≤ a := by omega
      have g3 : (f : Int) < 5 := by omega
      have g4 : (0 : Int) ≤ f := by omega
      have wr1 : IntKind.i64.wrap (c : Int) = (c : Int) := IntWalk.i64_in _ (by omega)
      have wr2 : IntKind.i64.wrap (u : Int) = (u : Int) := IntWalk.i64_in _ (by omega)
      have HS := seg17 a ha
      have HQ := qry17 f hf
      have hT := texts_at (L := segT17) (w := wr) (C := #[.string ⟨#[97]⟩, .string ⟨#[98, 32, 99]⟩, .string ⟨#[37]⟩, .string ⟨#[120, 63]⟩, .string ⟨#[0]⟩, .string ⟨#[255]⟩, .string ⟨#[35]⟩, .string ⟨#[13, 10]⟩, .string ⟨#[97, 46, 98]⟩, .string ⟨#[46, 46, 46]⟩, .string ⟨#[126]⟩]) rfl a ha
      obtain ⟨x, hx0⟩ : ∃ x : ByteArray, (⟨(segT17[a]?.getD []).toArray⟩ : ByteArray) = x := ⟨_, rfl⟩
      rw [hx0] at hT
      have hxl : x.data.toList = segT17[a]?.getD [] := by rw [← hx0]
      rw [← hxl] at HS
      have hxs : x.size ≤ 3 := by rw [← size_len]; exact HS.2
      have hT2 := texts_at (L := qryT17) (w := wr.alloc (.cells #[.string ⟨#[97]⟩, .string ⟨#[98, 32, 99]⟩, .string ⟨#[37]⟩, .string ⟨#[120, 63]⟩, .string ⟨#[0]⟩, .string ⟨#[255]⟩, .string ⟨#[35]⟩, .string ⟨#[13, 10]⟩, .string ⟨#[97, 46, 98]⟩, .string ⟨#[46, 46, 46]⟩, .string ⟨#[126]⟩] 9)) (C := #[.string ⟨#[97, 61, 49]⟩, .string ⟨#[38]⟩, .string ⟨#[63]⟩, .string ⟨#[37, 48, 100]⟩, .string ⟨#[39]⟩]) rfl f hf
      obtain ⟨y, hy0⟩ : ∃ y : ByteArray, (⟨(qryT17[f]?.getD []).toArray⟩ : ByteArray) = y := ⟨_, rfl⟩
      rw [hy0] at hT2
      have hyl : y.data.toList = qryT17[f]?.getD [] := by rw [← hy0]
      rw [← hyl] at HQ
      have hys : y.size ≤ 3 := by rw [← size_len]; exact HQ.2
      rw [show (wr.alloc (.cells #[.string ⟨#[97]⟩, .string ⟨#[98, 32, 99]⟩, .string ⟨#[37]⟩, .string ⟨#[120, 63]⟩, .string ⟨#[0]⟩, .string ⟨#[255]⟩, .string ⟨#[35]⟩, .string ⟨#[13, 10]⟩, .string ⟨#[97, 46, 98]⟩, .string ⟨#[46, 46, 46]⟩, .string ⟨#[126]⟩] 9)).heap.size = wr.heap.size + 1 by simp] at hT2
      have hB1 := HU.out.2.2.alloc HU.out.2.2.size (.cells #[.string ⟨#[97]⟩, .string ⟨#[98, 32, 99]⟩, .string ⟨#[37]⟩, .string ⟨#[120, 63]⟩, .string ⟨#[0]⟩, .string ⟨#[255]⟩, .string ⟨#[35]⟩, .string ⟨#[13, 10]⟩, .string ⟨#[97, 46, 98]⟩, .string ⟨#[46, 46, 46]⟩, .string ⟨#[126]⟩] 9)
      have hPU := HU.out.1.snoc HS
      rw [show k - 1 + 1 = k + 1 - 1 by omega, ← bs_cat3] at hPU
      have H0 := Lib.hid (show UpAt (k + 1) (p ++ ⟨#[47]⟩ ++ x) q w (wr.alloc (.cells #[.string ⟨#[97]⟩, .string ⟨#[98, 32, 99]⟩, .string ⟨#[37]⟩, .string ⟨#[120, 63]⟩, .string ⟨#[0]⟩, .string ⟨#[255]⟩, .string ⟨#[35]⟩, .string ⟨#[13, 10]⟩, .string ⟨#[97, 46, 98]⟩, .string ⟨#[46, 46, 46]⟩, .string ⟨#[126]⟩] 9)) from ⟨hPU, by rw [show k + 1 - 1 = k - 1 + 1 by omega]; exact HU.out.2.1.keep, hB1⟩)
      have hQU := HU.out.2.1.snoc HQ
      rw [show k - 1 + 1 = k + 1 - 1 by omega, ← bs_cat2] at hQU
      have H1 := Lib.hid (show UpAt (k + 1) (p ++ ⟨#[47]⟩ ++ x) (q ++ y) w ((wr.alloc (.cells #[.string ⟨#[97]⟩, .string ⟨#[98, 32, 99]⟩, .string ⟨#[37]⟩, .string ⟨#[120, 63]⟩, .string ⟨#[0]⟩, .string ⟨#[255]⟩, .string ⟨#[35]⟩, .string ⟨#[13, 10]⟩, .string ⟨#[97, 46, 98]⟩, .string ⟨#[46, 46, 46]⟩, .string ⟨#[126]⟩] 9)).alloc (.cells #[.string ⟨#[97, 61, 49]⟩, .string ⟨#[38]⟩, .string ⟨#[63]⟩, .string ⟨#[37, 48, 100]⟩, .string ⟨#[39]⟩] 9)) from ⟨hPU, hQU, hB1.alloc (by have := hB1.size; exact this) _⟩)
      clear ha' hc' hd' hu' hf' hx0 hxl hy0 hyl HS HQ hPU hQU hB1
      by_cases hd : d = 0
      · subst hd
        go_wp2_with fail
        go_roundg (15 - k)
        case measure => omega
        case rel => exact ⟨k + 1, _, _, by omega, by omega, by omega, by go_num, rfl, rfl, H1⟩
      · have d3 : ((d : Int) == 0) = false := by simp; omega
        clear hT2
        go_wp2_with fail
        go_roundg (15 - k)
        case measure => omega
        case rel => exact ⟨k + 1, _, _, by omega, by omega, by omega, by go_num, rfl, rfl, H0⟩
    · have HP := Lib.hid HU.out.1
      have HQ := Lib.hid (show qryB q.data.toList = true ∧ q.data.toList.length ≤ 64 from ⟨HU.out.2.1.1, by have := HU.out.2.1.2; omega⟩)
      have HBB := Lib.hid HU.out.2.2
      have HL := Lib.hid (show hx.data.toList.length ≤ 64 from hostIs_len HH.out)
      have hr2 : r % 2 = 0 ∨ r % 2 = 1 := by omega
      have hkn : k - 1 ≤ 15 := by omega
      have hex : ¬ k < zs.length ∨ (k < zs.length ∧ ¬ k < 15) := by omega
      by_cases hp0 : p.size = 0
      · have x0 := bs_nil hp0
        have HF := Lib.hid (show In17 hx.data.toList (p ++ ⟨#[47]⟩ : ByteArray).data.toList q.data.toList from ⟨HH.out, HL.out, by rw [bs_cat2]; exact HP.out.shut hkn, HQ.out.1, HQ.out.2⟩)
        clear hp0 hlt hr2
        rcases hex with hx1 | ⟨hx1, hx2⟩
        · have d1 : decide ((k : Int) < (zs.length : Int)) = false := by simp; omega
          go_wp2_with fail
          go_ret3
          exact ⟨_, _, _, HF.out, rfl, HBB.out⟩
        · have d1 : decide ((k : Int) < (zs.length : Int)) = true := by simp; omega
          have d2 : decide ((k : Int) < 15) = false := by simp; omega
          go_wp2_with fail
          go_ret3
          exact ⟨_, _, _, HF.out, rfl, HBB.out⟩
      · have x0 := bs_ne (s := p) (by omega)
        have hpne : p.data.toList ≠ [] := fun e => hp0 (by rw [← size_len, e]; rfl)
        rcases hr2 with hr2 | hr2
        · have e1 : (r : Int).tmod 2 = 0 := by rw [Int.tmod_eq_emod_of_nonneg (by omega)]; omega
          have e2 : (r : Int) % 2 = 0 := by omega
          have HF := Lib.hid (show In17 hx.data.toList p.data.toList q.data.toList from ⟨HH.out, HL.out, HP.out.whole hkn hpne, HQ.out.1, HQ.out.2⟩)
          clear hp0 hlt hr2 hpne
          rcases hex with hx1 | ⟨hx1, hx2⟩
          · have d1 : decide ((k : Int) < (zs.length : Int)) = false := by simp; omega
            go_wp2_with fail
            go_ret3
            exact ⟨_, _, _, HF.out, rfl, HBB.out⟩
          · have d1 : decide ((k : Int) < (zs.length : Int)) = true := by simp; omega
            have d2 : decide ((k : Int) < 15) = false := by simp; omega
            go_wp2_with fail
            go_ret3
            exact ⟨_, _, _, HF.out, rfl, HBB.out⟩
        · have e1 : (r : Int).tmod 2 = 1 := by rw [Int.tmod_eq_emod_of_nonneg (by omega)]; omega
          have e2 : (r : Int) % 2 = 1 := by omega
          have HF := Lib.hid (show In17 hx.data.toList (p ++ ⟨#[47]⟩ : ByteArray).data.toList q.data.toList from ⟨HH.out, HL.out, by rw [bs_cat2]; exact HP.out.shut hkn, HQ.out.1, HQ.out.2⟩)
          clear hp0 hlt hr2 hpne
          rcases hex with hx1 | ⟨hx1, hx2⟩
          · have d1 : decide ((k : Int) < (zs.length : Int)) = false := by simp; omega
            go_wp2_with fail
            go_ret3
            exact ⟨_, _, _, HF.out, rfl, HBB.out⟩
          · have d1 : decide ((k : Int) < (zs.length : Int)) = true := by simp; omega
            have d2 : decide ((k : Int) < 15) = false := by simp; omega
            go_wp2_with fail
            go_ret3
            exact ⟨_, _, _, HF.out, rfl, HBB.out⟩
end Go.Proofs.YteigjobliflkdaaGreatDoor
/- Walks: LocationBack, LocationApart. -/
namespace Go.Proofs.YteigjobliflkdaaGreatDoor
open Go.RowKit

theorem In17.bytes {h p q : ByteArray} (hi : In17 h.data.toList p.data.toList q.data.toList) : ∃ t : ByteArray, locBuild h.data.toList p.data.toList q.data.toList = .ok t.data.toList ∧ t.data.toList = httpL ++ h.data.toList ++ locText p.data.toList q.data.toList ∧ t.size ≤ 584 := by
  refine ⟨⟨(httpL ++ h.data.toList ++ locText p.data.toList q.data.toList).toArray⟩, hi.build, rfl, ?_⟩
  have := locBuild_len hi.build
  rw [← size_len]; exact this
theorem In17.sizes {h p q : ByteArray} (hi : In17 h.data.toList p.data.toList q.data.toList) : h.size ≤ 64 ∧ p.size ≤ 64 ∧ q.size ≤ 64 := by
  rw [← size_len, ← size_len, ← size_len]; exact ⟨hi.2.1, hi.2.2.1.2.2, hi.2.2.2.2⟩

set_option maxRecDepth 100000 in
set_option maxHeartbeats 8000000 in
theorem locBack_t {v : Value} {zs : List Int} (w : World) (hG : Good w) (hN : NumsAt w v zs) : Calls Tryz.prog 14 #[v] w (RetV (.bool true) w) := by
  have HN := Lib.hid hN
  clear hN
  go_enter Tryz.func14, Tryz.ntmps14
  go_wp2_with fail
  refine (known17_t _ hG).mono ?_
  rintro e w1 ⟨rfl, HB1⟩
  have hG1 := hG.next HB1
  go_wp2_with fail
  refine (made17_any _ (HN.out.below HB1)).mono ?_
  rintro e w2 ⟨h, p, q, HI, rfl, HB2⟩
  have hG2 := hG1.next HB2
  obtain ⟨hh, hp, hq⟩ := HI.sizes
  obtain ⟨t, ht, hte, hts⟩ := HI.bytes
  have hch := locBuild_char ht
  have C1 := Lib.hid (build_S ht (by omega) (by omega) (by omega))
  have C2 := Lib.hid (splits17_t (locSplit_build ht) (by omega))
  have hb : ∀ b ∈ t.data.toList, 33 ≤ b.toNat ∧ b.toNat ≤ 126 := by
    intro b hb
    have := List.all_eq_true.1 hch b hb
    have := charN_yes this
    omega
  have C3 := Lib.hid (safe_ascii (charN_safe hch) (by omega) (fun b h => by have := hb b h; omega))
  have C4 := Lib.hid (own_B (s := t) (n := h) (b := true) (x := 0) (by rw [hte]; exact HI.own) (by omega) (by omega))
  have HBy := Lib.hid (fun (k : Nat) (hk : k < t.size) => hb t[k] (List.mem_of_getElem? (i := k) (by rw [List.getElem?_eq_getElem (by rw [size_len]; exact hk)]; rfl)))
  have d1 : decide ((584 : Int) < (t.size : Int)) = false := by simp; omega
  clear HI ht hte hch hb
  go_wp2_with fail
  refine (C1.out _ hG2).mono ?_
  rintro e w3 ⟨rfl, HB3⟩
  have hG3 := hG2.next HB3
  go_wp2_with fail
  refine (C2.out _ hG3).mono ?_
  rintro e w4 ⟨rfl, HB4⟩
  have hG4 := hG3.next HB4
  go_wp2_with fail
  refine (C3.out _).mono ?_
  rintro e w5 ⟨rfl, HB5⟩
  have hG5 := hG4.next HB5
  have HB := below2 (below2 (below2 (below2 HB1 HB2) HB3) HB4) HB5
  clear HB1 HB2 HB3 HB4 HB5
  go_wp2_with fail
  go_loop [9] (fun i => ∃ k : Nat, k ≤ t.size ∧ i = .int .i64 k) (fun i => t.size - (intOf i).toNat)
  case atStart => exact ⟨0, Nat.zero_le _, rfl⟩
  case round =>
    obtain ⟨k, hk, rfl⟩ := hrel
    by_cases hlt : k < t.size
    · have d2 : decide ((k : Int) < (t.size : Int)) = true := by simp; omega
      have hb := HBy.out k hlt
      have i1 : (0 : Int) ≤ k := by omega
      have i2 : (k : Int) < t.size := by omega
      have i3 : (33 : Int) ≤ t[k].toNat := by omega
      have i4 : (t[k].toNat : Int) ≤ 126 := by omega
      clear hb
      go_wp2_with fail
      go_round
      case rel => exact ⟨k + 1, by omega, by go_num⟩
      case measure => simp [intOf]; omega
    · have d2 : decide ((k : Int) < (t.size : Int)) = false := by simp; omega
      go_wp2_with fail
      refine (C4.out _ hG5).mono ?_
      rintro e w6 ⟨rfl, HB6⟩
      go_wp2_with fail
      go_ret
      exact RetV.mk rfl (below2 HB HB6)

set_option maxRecDepth 100000 in
set_option maxHeartbeats 8000000 in
theorem locApart_t {v u : Value} {zs ys : List Int} (s : ByteArray) (w : World) (hG : Good w) (hN : NumsAt w v zs) (hM : NumsAt w u ys) : Calls Tryz.prog 15 #[v, u, .string s] w (RetV (.bool true) w) := by
  have HN := Lib.hid hN
  have HM := Lib.hid hM
  clear hN hM
  go_enter Tryz.func15, Tryz.ntmps15
  go_wp2_with fail
  refine (known17_t _ hG).mono ?_
  rintro e w1 ⟨rfl, HB1⟩
  have hG1 := hG.next HB1
  go_wp2_with fail
  refine (made17_any _ (HN.out.below HB1)).mono ?_
  rintro e w2 ⟨a, b, c, HI, rfl, HB2⟩
  have hG2 := hG1.next HB2
  go_wp2_with fail
  refine (made17_any _ ((HM.out.below HB1).below HB2)).mono ?_
  rintro e w3 ⟨x, y, z, HJ, rfl, HB3⟩
  have hG3 := hG2.next HB3
  obtain ⟨ha, hb, hc⟩ := HI.sizes
  obtain ⟨hx, hy, hz⟩ := HJ.sizes
  obtain ⟨t, ht, hte, hts⟩ := HI.bytes
  obtain ⟨r, hr, hre, hrs⟩ := HJ.bytes
  have C1 := Lib.hid (build_S ht (by omega) (by omega) (by omega))
  have C2 := Lib.hid (build_S hr (by omega) (by omega) (by omega))
  have HE := Lib.hid (show (t.toList == r.toList) = true ↔ ((a.toList == x.toList) = true ∧ (b.toList == y.toList) = true ∧ (c.toList == z.toList) = true) by
    simp only [beq_iff_eq, Lib.toList_data]
    rw [hte, hre]; exact HI.apart HJ)
  have HB := below2 (below2 HB1 HB2) HB3
  clear HI HJ ht hte hr hre HB1 HB2 HB3
  go_wp2_with fail
  refine (C1.out _ hG3).mono ?_
  rintro e w4 ⟨rfl, HB4⟩
  have hG4 := hG3.next HB4
  go_wp2_with fail
  refine (C2.out _ hG4).mono ?_
  rintro e w5 ⟨rfl, HB5⟩
  have hG5 := hG4.next HB5
  replace HB := below2 (below2 HB HB4) HB5
  clear HB4 HB5
  cases htr : (t.toList == r.toList) with
  | true =>
    obtain ⟨k1, k2, k3⟩ := HE.out.1 htr
    clear HE
    by_cases hl : 500 < s.size
    · have d1 : decide ((500 : Int) < (s.size : Int)) = true := by simp; omega
      go_wp2_with fail
      go_ret
      exact RetV.mk rfl HB
    · have d1 : decide ((500 : Int) < (s.size : Int)) = false := by simp; omega
      rcases loc_form (locSplit s.data.toList) with h | ⟨h', p', q', h⟩
      · have C3 := Lib.hid (splitL_N h)
        clear h
        go_wp2_with fail
        refine (C3.out _ hG5 (by omega)).mono ?_
        rintro e w6 ⟨rfl, HB6⟩
        go_wp2_with fail
        go_ret
        exact RetV.mk rfl (below2 HB HB6)
      · have C3 := Lib.hid (splitL_S h)
        have hb2 := locSplit_some h
        obtain ⟨g1, g2, _⟩ := locBuild_ok hb2
        have g3 := hostIs_len g1
        obtain ⟨_, g4, g5, _⟩ := placeErr_ok g2
        rw [size_len] at g3 g4 g5
        have C4 := Lib.hid (builds17_t hb2 (by omega) (by omega) (by omega))
        clear h hb2 g1 g2
        go_wp2_with fail
        refine (C3.out _ hG5 (by omega)).mono ?_
        rintro e w6 ⟨rfl, HB6⟩
        go_wp2_with fail
        refine (C4.out _ (hG5.next HB6)).mono ?_
        rintro e w7 ⟨rfl, HB7⟩
        go_wp2_with fail
        go_ret
        exact RetV.mk rfl (below2 (below2 HB HB6) HB7)
  | false =>
    have hno : ¬ ((a.toList == x.toList) = true ∧ (b.toList == y.toList) = true ∧ (c.toList == z.toList) = true) := fun hh => by
      have := HE.out.2 hh; rw [htr] at this; cases this
    clear HE
    cases k1 : (a.toList == x.toList) with
    | false =>
      clear hno
      by_cases hl : 500 < s.size
      · have d1 : decide ((500 : Int) < (s.size : Int)) = true := by simp; omega
        go_wp2_with fail
        go_ret
        exact RetV.mk rfl HB
      · have d1 : decide ((500 : Int) < (s.size : Int)) = false := by simp; omega
        rcases loc_form (locSplit s.data.toList) with h | ⟨h', p', q', h⟩
        · have C3 := Lib.hid (splitL_N h)
          clear h
          go_wp2_with fail
          refine (C3.out _ hG5 (by omega)).mono ?_
          rintro e w6 ⟨rfl, HB6⟩
          go_wp2_with fail
          go_ret
          exact RetV.mk rfl (below2 HB HB6)
        · have C3 := Lib.hid (splitL_S h)
          have hb2 := locSplit_some h
          obtain ⟨g1, g2, _⟩ := locBuild_ok hb2
          have g3 := hostIs_len g1
          obtain ⟨_, g4, g5, _⟩ := placeErr_ok g2
          rw [size_len] at g3 g4 g5
          have C4 := Lib.hid (builds17_t hb2 (by omega) (by omega) (by omega))
          clear h hb2 g1 g2
          go_wp2_with fail
          refine (C3.out _ hG5 (by omega)).mono ?_
          rintro e w6 ⟨rfl, HB6⟩
          go_wp2_with fail
          refine (C4.out _ (hG5.next HB6)).mono ?_
          rintro e w7 ⟨rfl, HB7⟩
          go_wp2_with fail
          go_ret
          exact RetV.mk rfl (below2 (below2 HB HB6) HB7)
    | true =>
      cases k2 : (b.toList == y.toList) with
      | false =>
        clear hno
        by_cases hl : 500 < s.size
        · have d1 : decide ((500 : Int) < (s.size : Int)) = true := by simp; omega
          go_wp2_with fail
          go_ret
          exact RetV.mk rfl HB
        · have d1 : decide ((500 : Int) < (s.size : Int)) = false := by simp; omega
          rcases loc_form (locSplit s.data.toList) with h | ⟨h', p', q', h⟩
          · have C3 := Lib.hid (splitL_N h)
            clear h
            go_wp2_with fail
            refine (C3.out _ hG5 (by omega)).mono ?_
            rintro e w6 ⟨rfl, HB6⟩
            go_wp2_with fail
            go_ret
            exact RetV.mk rfl (below2 HB HB6)
          · have C3 := Lib.hid (splitL_S h)
            have hb2 := locSplit_some h
            obtain ⟨g1, g2, _⟩ := locBuild_ok hb2
            have g3 := hostIs_len g1
            obtain ⟨_, g4, g5, _⟩ := placeErr_ok g2
            rw [size_len] at g3 g4 g5
            have C4 := Lib.hid (builds17_t hb2 (by omega) (by omega) (by omega))
            clear h hb2 g1 g2
            go_wp2_with fail
            refine (C3.out _ hG5 (by omega)).mono ?_
            rintro e w6 ⟨rfl, HB6⟩
            go_wp2_with fail
            refine (C4.out _ (hG5.next HB6)).mono ?_
            rintro e w7 ⟨rfl, HB7⟩
            go_wp2_with fail
            go_ret
            exact RetV.mk rfl (below2 (below2 HB HB6) HB7)
      | true =>
        have k3 : (c.toList == z.toList) = false := by
          rw [Bool.eq_false_iff]; exact fun h3 => hno ⟨k1, k2, h3⟩
        clear hno
        by_cases hl : 500 < s.size
        · have d1 : decide ((500 : Int) < (s.size : Int)) = true := by simp; omega
          go_wp2_with fail
          go_ret
          exact RetV.mk rfl HB
        · have d1 : decide ((500 : Int) < (s.size : Int)) = false := by simp; omega
          rcases loc_form (locSplit s.data.toList) with h | ⟨h', p', q', h⟩
          · have C3 := Lib.hid (splitL_N h)
            clear h
            go_wp2_with fail
            refine (C3.out _ hG5 (by omega)).mono ?_
            rintro e w6 ⟨rfl, HB6⟩
            go_wp2_with fail
            go_ret
            exact RetV.mk rfl (below2 HB HB6)
          · have C3 := Lib.hid (splitL_S h)
            have hb2 := locSplit_some h
            obtain ⟨g1, g2, _⟩ := locBuild_ok hb2
            have g3 := hostIs_len g1
            obtain ⟨_, g4, g5, _⟩ := placeErr_ok g2
            rw [size_len] at g3 g4 g5
            have C4 := Lib.hid (builds17_t hb2 (by omega) (by omega) (by omega))
            clear h hb2 g1 g2
            go_wp2_with fail
            refine (C3.out _ hG5 (by omega)).mono ?_
            rintro e w6 ⟨rfl, HB6⟩
            go_wp2_with fail
            refine (C4.out _ (hG5.next HB6)).mono ?_
            rintro e w7 ⟨rfl, HB7⟩
            go_wp2_with fail
            go_ret
            exact RetV.mk rfl (below2 (below2 HB HB6) HB7)
end Go.Proofs.YteigjobliflkdaaGreatDoor
