/- Walk: HostUnder. -/
import Derived.Test.YteigjobliflkdaaGreatDoorV15f

namespace Go.Proofs.YteigjobliflkdaaGreatDoor
open Go.RowKit

/-- A host made of a number, as a string. -/
def HostIn (s : ByteArray) : Prop := ∃ i j, i < 10 ∧ j < 7 ∧ s.data.toList = madeN i ++ madeP j
def RetHost (w : World) (e : Ending) (w' : World) : Prop := ∃ s : ByteArray, HostIn s ∧ e = .returned (.string s) ∧ Below w.heap.size w w'
theorem made_host (n : Int) (w : World) : Calls Tryz.prog 42 #[.int .i64 n] w (RetHost w) :=
  (made_any n w).mono fun _ _ ⟨i, j, hi, hj, he, hB⟩ => ⟨_, ⟨i, j, hi, hj, rfl⟩, he, hB⟩
theorem HostIn.size {s : ByteArray} (h : HostIn s) : s.size ≤ 60 := by
  obtain ⟨i, j, hi, hj, e⟩ := h
  rw [← size_len, e]; exact made_len i j hi hj
theorem HostIn.split {s : ByteArray} (h : HostIn s) : ∃ n p, hostSplit s.data.toList = .ok (n, p) ∧ n.length ≤ 64 := by
  obtain ⟨i, j, hi, hj, e⟩ := h
  have := made_split i j hi hj
  rw [← e] at this
  exact ⟨_, _, this, (hostSplit_ok this).2.2.1⟩
/-- b's labels end a's. -/
def endsL (La Lb : List (List UInt8)) : Bool := Lb.isSuffixOf La
theorem HostIn.under {a b : ByteArray} {La Lb : List (List UInt8)} (ha : hostLabels a.data.toList = .ok La) (hb : hostLabels b.data.toList = .ok Lb) : underB a.data.toList b.data.toList = endsL La Lb := by
  unfold hostLabels at ha hb
  cases hx : hostSplit a.data.toList with
  | error e => rw [hx] at ha; cases ha
  | ok x =>
    cases hy : hostSplit b.data.toList with
    | error e => rw [hy] at hb; cases hb
    | ok y =>
      rw [hx] at ha; rw [hy] at hb
      cases ha; cases hb
      unfold underB hostUnder
      rw [hx, hy]; rfl
theorem HostIn.labels {s : ByteArray} (h : HostIn s) : ∃ L, hostLabels s.data.toList = .ok L ∧ L.length ≤ 60001 := by
  obtain ⟨n, p, hs, hn⟩ := h.split
  refine ⟨segs 46 n, by unfold hostLabels; rw [hs], ?_⟩
  have := segs_le 46 n
  omega
theorem endsL_refl (L : List (List UInt8)) : endsL L L = true := by unfold endsL; rw [List.isSuffixOf_iff_suffix]; exact List.suffix_refl _
theorem endsL_trans {A B C : List (List UInt8)} (h : endsL A B = true) (k : endsL B C = true) : endsL A C = true := by
  unfold endsL at *; rw [List.isSuffixOf_iff_suffix] at *; exact k.trans h
theorem endsL_len {A B : List (List UInt8)} (h : endsL A B = true) : B.length ≤ A.length := by
  unfold endsL at h; rw [List.isSuffixOf_iff_suffix] at h; exact h.length_le
theorem endsL_anti {A B : List (List UInt8)} (h : endsL A B = true) (k : endsL B A = true) : A = B := by
  have h1 := endsL_len h
  have h2 := endsL_len k
  unfold endsL at k; rw [List.isSuffixOf_iff_suffix] at k
  exact k.eq_of_length (by omega)

set_option maxRecDepth 100000 in
set_option maxHeartbeats 8000000 in
theorem under_law (x y z : Int) (w : World) (hG : Good w) : Calls Tryz.prog 6 #[.int .i64 x, .int .i64 y, .int .i64 z] w (RetV (.bool true) w) := by
  have HBc := Below.refl w.heap.size w
  go_enter Tryz.func6, Tryz.ntmps6
  go_wp2_with fail
  refine (known_t _ hG).mono ?_
  rintro e w1 ⟨rfl, HB⟩
  replace HBc := below2 HBc HB
  replace hG := hG.next HB
  clear HB
  go_wp2_with fail
  refine (made_host _ _).mono ?_
  rintro e w1 ⟨a, ha, rfl, HB⟩
  replace HBc := below2 HBc HB
  replace hG := hG.next HB
  clear HB
  go_wp2_with fail
  refine (made_host _ _).mono ?_
  rintro e w1 ⟨b, hb, rfl, HB⟩
  replace HBc := below2 HBc HB
  replace hG := hG.next HB
  clear HB
  go_wp2_with fail
  refine (made_host _ _).mono ?_
  rintro e w1 ⟨c, hc, rfl, HB⟩
  replace HBc := below2 HBc HB
  replace hG := hG.next HB
  clear HB
  have sa : a.size ≤ 60000 := by have := ha.size; omega
  have sb : b.size ≤ 60000 := by have := hb.size; omega
  have sc : c.size ≤ 60000 := by have := hc.size; omega
  obtain ⟨La, la, la1⟩ := ha.labels
  obtain ⟨Lb, lb, lb1⟩ := hb.labels
  obtain ⟨Lc, lc, lc1⟩ := hc.labels
  have LA := Lib.hid la
  have LB := Lib.hid lb
  have uaa := HostIn.under la la
  have uab := HostIn.under la lb
  have uba := HostIn.under lb la
  have ubc := HostIn.under lb lc
  have uac := HostIn.under la lc
  rw [endsL_refl] at uaa
  have UAA := Lib.hid uaa
  clear la lb lc uaa ha hb hc
  go_wp2_with fail
  refine (labels_anyK LA.out _ hG sa).mono ?_
  rintro e w1 ⟨g1, cap1, rfl, T1, HB⟩
  replace HBc := below2 HBc HB
  replace hG := hG.next HB
  clear HB
  go_wp2_with fail
  refine (labels_anyK LB.out _ hG sb).mono ?_
  rintro e w1 ⟨g2, cap2, rfl, T2, HB⟩
  replace HBc := below2 HBc HB
  replace hG := hG.next HB
  replace T1 := T1.next HB
  clear HB
  go_wp2_with fail
  refine (under_tB UAA.out _ hG sa sa).mono ?_
  rintro e w1 ⟨rfl, HB⟩
  replace HBc := below2 HBc HB
  replace hG := hG.next HB
  replace T1 := T1.next HB
  replace T2 := T2.next HB
  clear HB
  cases hab : endsL La Lb with
  | false =>
    rw [hab] at uab
    have UAB := Lib.hid uab
    clear uab uba ubc uac hab
    go_wp2_with fail
    refine (under_tB UAB.out _ hG sa sb).mono ?_
    rintro e w1 ⟨rfl, HB⟩
    replace HBc := below2 HBc HB
    replace hG := hG.next HB
    clear HB
    go_wp2_with fail
    refine (under_tB UAB.out _ hG sa sb).mono ?_
    rintro e w1 ⟨rfl, HB⟩
    replace HBc := below2 HBc HB
    replace hG := hG.next HB
    clear HB
    go_wp2_with fail
    refine (under_tB UAB.out _ hG sa sb).mono ?_
    rintro e w1 ⟨rfl, HB⟩
    replace HBc := below2 HBc HB
    replace hG := hG.next HB
    clear HB
    go_wp2_with fail
    go_ret
    exact RetV.mk rfl HBc
  | true =>
    rw [hab] at uab
    have UAB := Lib.hid uab
    have hlen := endsL_len hab
    have d1 : decide (La.length < Lb.length) = false := by simp; omega
    have d2 : decide ((La.length : Int) < (Lb.length : Int)) = false := by simp; omega
    go_wp2_with fail
    refine (under_tB UAB.out _ hG sa sb).mono ?_
    rintro e w1 ⟨rfl, HB⟩
    replace HBc := below2 HBc HB
    replace hG := hG.next HB
    replace T1 := T1.next HB
    replace T2 := T2.next HB
    clear HB uab
    go_wp2_with fail
    refine (under_tB UAB.out _ hG sa sb).mono ?_
    rintro e w1 ⟨rfl, HB⟩
    replace HBc := below2 HBc HB
    replace hG := hG.next HB
    replace T1 := T1.next HB
    replace T2 := T2.next HB
    clear HB
    cases hba : endsL Lb La <;> cases hbc : endsL Lb Lc
    · rw [hba] at uba
      rw [hbc] at ubc
      have UBA := Lib.hid uba
      have UBC := Lib.hid ubc
      clear uba ubc hab hba hbc uac
      go_wp2_with fail
      refine (under_tB UBA.out _ hG sb sa).mono ?_
      rintro e w1 ⟨rfl, HB⟩
      replace HBc := below2 HBc HB
      replace hG := hG.next HB
      replace T1 := T1.next HB
      replace T2 := T2.next HB
      clear HB
      go_wp2_with fail
      refine (under_tB UAB.out _ hG sa sb).mono ?_
      rintro e w1 ⟨rfl, HB⟩
      replace HBc := below2 HBc HB
      replace hG := hG.next HB
      replace T1 := T1.next HB
      replace T2 := T2.next HB
      clear HB
      go_wp2_with fail
      refine (under_tB UBC.out _ hG sb sc).mono ?_
      rintro e w1 ⟨rfl, HB⟩
      replace HBc := below2 HBc HB
      replace hG := hG.next HB
      replace T1 := T1.next HB
      replace T2 := T2.next HB
      clear HB
      go_wp2_with fail
      go_ret
      exact RetV.mk rfl HBc
    · rw [hba] at uba
      rw [hbc] at ubc
      have UBA := Lib.hid uba
      have UBC := Lib.hid ubc
      rw [endsL_trans hab hbc] at uac
      have UAC := Lib.hid uac
      clear uba ubc hab hba hbc uac
      go_wp2_with fail
      refine (under_tB UBA.out _ hG sb sa).mono ?_
      rintro e w1 ⟨rfl, HB⟩
      replace HBc := below2 HBc HB
      replace hG := hG.next HB
      replace T1 := T1.next HB
      replace T2 := T2.next HB
      clear HB
      go_wp2_with fail
      refine (under_tB UAB.out _ hG sa sb).mono ?_
      rintro e w1 ⟨rfl, HB⟩
      replace HBc := below2 HBc HB
      replace hG := hG.next HB
      replace T1 := T1.next HB
      replace T2 := T2.next HB
      clear HB
      go_wp2_with fail
      refine (under_tB UBC.out _ hG sb sc).mono ?_
      rintro e w1 ⟨rfl, HB⟩
      replace HBc := below2 HBc HB
      replace hG := hG.next HB
      replace T1 := T1.next HB
      replace T2 := T2.next HB
      clear HB
      go_wp2_with fail
      refine (under_tB UAC.out _ hG sa sc).mono ?_
      rintro e w1 ⟨rfl, HB⟩
      replace HBc := below2 HBc HB
      replace hG := hG.next HB
      replace T1 := T1.next HB
      replace T2 := T2.next HB
      clear HB
      go_wp2_with fail
      go_ret
      exact RetV.mk rfl HBc
    · rw [hba] at uba
      rw [hbc] at ubc
      have UBA := Lib.hid uba
      have UBC := Lib.hid ubc
      obtain rfl : La = Lb := endsL_anti hab hba
      clear uba ubc hab hba hbc uac
      go_wp2_with fail
      refine (under_tB UBA.out _ hG sb sa).mono ?_
      rintro e w1 ⟨rfl, HB⟩
      replace HBc := below2 HBc HB
      replace hG := hG.next HB
      replace T1 := T1.next HB
      replace T2 := T2.next HB
      clear HB
      go_wp2_with fail
      refine (under_tB UAB.out _ hG sa sb).mono ?_
      rintro e w1 ⟨rfl, HB⟩
      replace HBc := below2 HBc HB
      replace hG := hG.next HB
      replace T1 := T1.next HB
      replace T2 := T2.next HB
      clear HB
      go_wp2_with fail
      refine (under_tB UBC.out _ hG sb sc).mono ?_
      rintro e w1 ⟨rfl, HB⟩
      replace HBc := below2 HBc HB
      replace hG := hG.next HB
      replace T1 := T1.next HB
      replace T2 := T2.next HB
      clear HB
      go_wp2_with fail
      refine (sameTexts_self _ la1 T1 T2).mono ?_
      rintro e w1 ⟨rfl, HB⟩
      replace HBc := below2 HBc HB
      replace hG := hG.next HB
      replace T1 := T1.next HB
      replace T2 := T2.next HB
      clear HB
      go_wp2_with fail
      go_ret
      exact RetV.mk rfl HBc
    · rw [hba] at uba
      rw [hbc] at ubc
      have UBA := Lib.hid uba
      have UBC := Lib.hid ubc
      rw [endsL_trans hab hbc] at uac
      have UAC := Lib.hid uac
      obtain rfl : La = Lb := endsL_anti hab hba
      clear uba ubc hab hba hbc uac
      go_wp2_with fail
      refine (under_tB UBA.out _ hG sb sa).mono ?_
      rintro e w1 ⟨rfl, HB⟩
      replace HBc := below2 HBc HB
      replace hG := hG.next HB
      replace T1 := T1.next HB
      replace T2 := T2.next HB
      clear HB
      go_wp2_with fail
      refine (under_tB UAB.out _ hG sa sb).mono ?_
      rintro e w1 ⟨rfl, HB⟩
      replace HBc := below2 HBc HB
      replace hG := hG.next HB
      replace T1 := T1.next HB
      replace T2 := T2.next HB
      clear HB
      go_wp2_with fail
      refine (under_tB UBC.out _ hG sb sc).mono ?_
      rintro e w1 ⟨rfl, HB⟩
      replace HBc := below2 HBc HB
      replace hG := hG.next HB
      replace T1 := T1.next HB
      replace T2 := T2.next HB
      clear HB
      go_wp2_with fail
      refine (under_tB UAC.out _ hG sa sc).mono ?_
      rintro e w1 ⟨rfl, HB⟩
      replace HBc := below2 HBc HB
      replace hG := hG.next HB
      replace T1 := T1.next HB
      replace T2 := T2.next HB
      clear HB
      go_wp2_with fail
      refine (sameTexts_self _ la1 T1 T2).mono ?_
      rintro e w1 ⟨rfl, HB⟩
      replace HBc := below2 HBc HB
      replace hG := hG.next HB
      replace T1 := T1.next HB
      replace T2 := T2.next HB
      clear HB
      go_wp2_with fail
      go_ret
      exact RetV.mk rfl HBc
end Go.Proofs.YteigjobliflkdaaGreatDoor
