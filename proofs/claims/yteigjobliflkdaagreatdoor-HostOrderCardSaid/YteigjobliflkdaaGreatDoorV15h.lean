/- Walks: HostOrder, HostNormal. -/
import Derived.Test.YteigjobliflkdaaGreatDoorV15g
namespace Go.Proofs.YteigjobliflkdaaGreatDoor
open Go.RowKit

theorem same_anyT {s t : ByteArray} {r : Bool} (h : hostSame s.data.toList t.data.toList = (r, 0)) (w : World) (hG : Good w) (hs : s.size ≤ 60000) (ht : t.size ≤ 60000) :
    Calls Tryz.prog 20 #[.string s, .string t] w fun e w' => e = .returned (.tuple #[.bool r, .int .i64 0]) ∧ Below w.heap.size w w' := same_okB h w hG hs ht
theorem compare_anyT {s t : ByteArray} {r : Int} (h : hostCompare s.data.toList t.data.toList = (r, 0)) (w : World) (hG : Good w) (hs : s.size ≤ 60000) (ht : t.size ≤ 60000) :
    Calls Tryz.prog 24 #[.string s, .string t] w fun e w' => e = .returned (.tuple #[.int .i64 r, .int .i64 0]) ∧ Below w.heap.size w w' := compare_okB h w hG hs ht
/-- What Compare and Same say of three hosts made of numbers. -/
theorem order3 {a b c : ByteArray} (ha : HostIn a) (hb : HostIn b) (hc : HostIn c) : ∃ p q r : Int, hostCompare a.data.toList b.data.toList = (p, 0) ∧ hostCompare b.data.toList c.data.toList = (q, 0) ∧ hostCompare a.data.toList c.data.toList = (r, 0) ∧
    hostCompare b.data.toList a.data.toList = (-p, 0) ∧ hostSame a.data.toList b.data.toList = ((p == 0), 0) ∧ -1 ≤ p ∧ p ≤ 1 ∧ (p ≤ 0 → q ≤ 0 → r ≤ 0) ∧ (p < 0 → q ≤ 0 → r < 0) := by
  obtain ⟨i, j, hi, hj, ea⟩ := ha
  obtain ⟨i', j', hi', hj', eb⟩ := hb
  obtain ⟨k, l, hk, hl, ec⟩ := hc
  rw [ea, eb, ec]
  refine ⟨_, _, _, compare_made i j i' j' hi hj hi' hj', compare_made i' j' k l hi' hj' hk hl, compare_made i j k l hi hj hk hl, ?_, ?_, (ord2_range _ _ _ _).1, (ord2_range _ _ _ _).2, ord2_le _ _ _ _ _ _, ord2_lt _ _ _ _ _ _⟩
  · rw [compare_made i' j' i j hi' hj' hi hj]
    exact congrArg (·, (0 : Int)) (ord2_anti _ _ _ _)
  · rw [same_made i j i' j' hi hj hi' hj']
    congr 1
    have := ord2_zero (madeR i) (madeI j) (madeR i') (madeI j')
    rw [Bool.eq_iff_iff]
    simp only [Bool.and_eq_true, decide_eq_true_eq, beq_iff_eq]
    exact this.symm

set_option maxRecDepth 100000 in
set_option maxHeartbeats 8000000 in
theorem order_law (x y z : Int) (w : World) (hG : Good w) : Calls Tryz.prog 10 #[.int .i64 x, .int .i64 y, .int .i64 z] w (RetV (.bool true) w) := by
  have HBc := Below.refl w.heap.size w
  go_enter Tryz.func10, Tryz.ntmps10
  go_wp2_with fail
  refine (known_t _ hG).mono ?_
  rintro e w1 ⟨rfl, HB⟩
  replace HBc := below2 HBc HB
  replace hG := hG.next HB
  clear HB
  go_wp2_with fail
  refine (made_host _ _).mono ?_
  rintro e w1 ⟨a, ha, rfl, HB⟩
  replace HBc := below2 HBc HB
  replace hG := hG.next HB
  clear HB
  go_wp2_with fail
  refine (made_host _ _).mono ?_
  rintro e w1 ⟨b, hb, rfl, HB⟩
  replace HBc := below2 HBc HB
  replace hG := hG.next HB
  clear HB
  go_wp2_with fail
  refine (made_host _ _).mono ?_
  rintro e w1 ⟨c, hc, rfl, HB⟩
  replace HBc := below2 HBc HB
  replace hG := hG.next HB
  clear HB
  have sa : a.size ≤ 60000 := by have := ha.size; omega
  have sb : b.size ≤ 60000 := by have := hb.size; omega
  have sc : c.size ≤ 60000 := by have := hc.size; omega
  obtain ⟨p, q, r, e1, e2, e3, e4, e5, b1, b2, t1, t2⟩ := order3 ha hb hc
  have E1 := Lib.hid e1
  have E2 := Lib.hid e2
  have E3 := Lib.hid e3
  have E4 := Lib.hid e4
  have E5 := Lib.hid e5
  have T1 := Lib.hid t1
  have T2 := Lib.hid t2
  clear e1 e2 e3 e4 e5 t1 t2 ha hb hc
  go_wp2_with fail
  refine (compare_anyT E1.out _ hG sa sb).mono ?_
  rintro e w1 ⟨rfl, HB⟩
  replace HBc := below2 HBc HB
  replace hG := hG.next HB
  clear HB
  go_wp2_with fail
  refine (compare_anyT E2.out _ hG sb sc).mono ?_
  rintro e w1 ⟨rfl, HB⟩
  replace HBc := below2 HBc HB
  replace hG := hG.next HB
  clear HB
  go_wp2_with fail
  refine (compare_anyT E3.out _ hG sa sc).mono ?_
  rintro e w1 ⟨rfl, HB⟩
  replace HBc := below2 HBc HB
  replace hG := hG.next HB
  clear HB
  go_wp2_with fail
  refine (compare_anyT E4.out _ hG sb sa).mono ?_
  rintro e w1 ⟨rfl, HB⟩
  replace HBc := below2 HBc HB
  replace hG := hG.next HB
  clear HB
  go_wp2_with fail
  refine (same_anyT E5.out _ hG sa sb).mono ?_
  rintro e w1 ⟨rfl, HB⟩
  replace HBc := below2 HBc HB
  replace hG := hG.next HB
  clear HB
  have wn : IntKind.i64.wrap (-p) = -p := IntWalk.i64_in _ (by omega)
  by_cases h1 : 0 < p
  · have d1 : decide (0 < p) = true := by simpa using h1
    have d2 : decide (0 ≤ p) = true := by simp; omega
    go_wp2_with fail
    go_ret
    exact RetV.mk rfl HBc
  have d1 : decide (0 < p) = false := by simpa using h1
  by_cases h2 : 0 < q
  · have d3 : decide (0 < q) = true := by simpa using h2
    by_cases h3 : 0 ≤ p
    · have d2 : decide (0 ≤ p) = true := by simpa using h3
      go_wp2_with fail
      go_ret
      exact RetV.mk rfl HBc
    · have d2 : decide (0 ≤ p) = false := by simpa using h3
      go_wp2_with fail
      go_ret
      exact RetV.mk rfl HBc
  have d3 : decide (0 < q) = false := by simpa using h2
  have d4 : decide (r ≤ 0) = true := by have := T1.out (by omega) (by omega); simpa using this
  by_cases h3 : 0 ≤ p
  · have d2 : decide (0 ≤ p) = true := by simpa using h3
    go_wp2_with fail
    go_ret
    exact RetV.mk rfl HBc
  · have d2 : decide (0 ≤ p) = false := by simpa using h3
    have d5 : decide (r < 0) = true := by have := T2.out (by omega) (by omega); simpa using this
    go_wp2_with fail
    go_ret
    exact RetV.mk rfl HBc

/-- What the statement asks of two hosts made of numbers. -/
theorem normal2 {a b : ByteArray} (ha : HostIn a) (hb : HostIn b) : ∃ p q n : ByteArray, ∃ m : Int, hostNormal a.data.toList = .ok p.data.toList ∧ hostNormal b.data.toList = .ok q.data.toList ∧ hostSame a.data.toList b.data.toList = (decide (p = q), 0) ∧
    hostSplit a.data.toList = .ok (n.data.toList, m) ∧ n.size ≤ 64 ∧ strT (hostJoin n.data.toList m) = (p, 0) ∧ hostIs p.data.toList = true ∧ p.size ≤ 64 := by
  obtain ⟨n, m, hs, hn⟩ := ha.split
  obtain ⟨i, j, hi, hj, ea⟩ := ha
  obtain ⟨i', j', hi', hj', eb⟩ := hb
  have h1 := made_written i j hi hj
  have h2 := made_written i' j' hi' hj'
  rw [← ea] at h1
  rw [← eb] at h2
  refine ⟨⟨(hostWrite (lower (madeN i)) (madeI j)).toArray⟩, ⟨(hostWrite (lower (madeN i')) (madeI j')).toArray⟩, ⟨n.toArray⟩, m, h1, h2, ?_, hs, by rw [size_mk]; exact hn, ?_, is_normal h1, ?_⟩
  · rw [same_iff h1 h2]
    congr 1
    rw [Bool.eq_iff_iff, decide_eq_true_eq, decide_eq_true_eq]
    constructor
    · intro e; rw [e]
    · intro e; have := congrArg (fun b : ByteArray => b.data.toList) e; exact this
  · show strT (hostJoin n m) = _
    rw [join_unsplit hs h1]; rfl
  · rw [size_mk]
    unfold hostNormal at h1
    rw [hs] at h1
    have h1 : hostWritten n m = _ := h1
    unfold hostWritten at h1
    split at h1
    · cases h1
    · injection h1 with h1; rw [← h1]; omega
theorem normal_anyE {s : ByteArray} {x : Int} (h : hostNormal s.data.toList = .error x) (w : World) (hG : Good w) (hs : s.size ≤ 60000) :
    Calls Tryz.prog 28 #[.string s] w fun e w' => e = .returned (.tuple #[.string ⟨#[]⟩, .int .i64 x]) ∧ Below w.heap.size w w' := by
  have := normal_any s w hG hs; rw [h] at this; exact this

set_option maxRecDepth 100000 in
set_option maxHeartbeats 8000000 in
theorem normal_law (s : ByteArray) (x y : Int) (w : World) (hG : Good w) : Calls Tryz.prog 8 #[.string s, .int .i64 x, .int .i64 y] w (RetV (.bool true) w) := by
  have HBc := Below.refl w.heap.size w
  go_enter Tryz.func8, Tryz.ntmps8
  go_wp2_with fail
  refine (known_t _ hG).mono ?_
  rintro e w1 ⟨rfl, HB⟩
  replace HBc := below2 HBc HB
  replace hG := hG.next HB
  clear HB
  go_wp2_with fail
  refine (made_host _ _).mono ?_
  rintro e w1 ⟨a, ha, rfl, HB⟩
  replace HBc := below2 HBc HB
  replace hG := hG.next HB
  clear HB
  go_wp2_with fail
  refine (made_host _ _).mono ?_
  rintro e w1 ⟨b, hb, rfl, HB⟩
  replace HBc := below2 HBc HB
  replace hG := hG.next HB
  clear HB
  have sa : a.size ≤ 60000 := by have := ha.size; omega
  have sb : b.size ≤ 60000 := by have := hb.size; omega
  obtain ⟨p, q, n, m, e1, e2, e3, e4, sn, e5, e6, sp⟩ := normal2 ha hb
  obtain ⟨bs, hbs⟩ : ∃ b, decide (p = q) = b := ⟨_, rfl⟩
  rw [hbs] at e3
  have HBS := Lib.hid hbs
  clear hbs
  have E1 := Lib.hid e1
  have E2 := Lib.hid e2
  have E3 := Lib.hid e3
  have E4 := Lib.hid e4
  have E5 := Lib.hid e5
  have E6 := Lib.hid e6
  clear e1 e2 e3 e4 e5 e6 ha hb
  have sp' : p.size ≤ 60000 := by omega
  have sn' : n.size ≤ 50000 := by omega
  go_wp2_with fail
  refine (normal_okB E1.out _ hG sa).mono ?_
  rintro e w1 ⟨rfl, HB⟩
  replace HBc := below2 HBc HB
  replace hG := hG.next HB
  clear HB
  go_wp2_with fail
  refine (normal_okB E2.out _ hG sb).mono ?_
  rintro e w1 ⟨rfl, HB⟩
  replace HBc := below2 HBc HB
  replace hG := hG.next HB
  clear HB
  go_wp2_with fail
  refine (same_anyT E3.out _ hG sa sb).mono ?_
  rintro e w1 ⟨rfl, HB⟩
  replace HBc := below2 HBc HB
  replace hG := hG.next HB
  clear HB
  go_wp2_with fail
  refine (split_okB E4.out _ hG sa).mono ?_
  rintro e w1 ⟨rfl, HB⟩
  replace HBc := below2 HBc HB
  replace hG := hG.next HB
  clear HB
  go_wp2_with fail
  refine (join_anyT E5.out _ hG sn').mono ?_
  rintro e w1 ⟨rfl, HB⟩
  replace HBc := below2 HBc HB
  replace hG := hG.next HB
  clear HB
  cases bs with
  | true =>
    obtain rfl : p = q := of_decide_eq_true HBS.out
    have f3 : (p.toList == p.toList) = true := by simp
    go_wp2_with fail
    refine (is_anyT E6.out _ hG sp').mono ?_
    rintro e w1 ⟨rfl, HB⟩
    replace HBc := below2 HBc HB
    replace hG := hG.next HB
    clear HB
    by_cases hl : 140 < s.size
    · have d1 : decide ((140 : Int) < (s.size : Int)) = true := by simp; omega
      go_wp2_with fail
      go_ret
      exact RetV.mk rfl HBc
    · have d1 : decide ((140 : Int) < (s.size : Int)) = false := by simp; omega
      have ss : s.size ≤ 60000 := by omega
      cases hn : hostNormal s.data.toList with
      | error k =>
        have K := (errn_ne hn).1
        have N := Lib.hid hn
        clear hn hl
        go_wp2_with fail
        refine (normal_anyE N.out _ hG ss).mono ?_
        rintro e w1 ⟨rfl, HB⟩
        replace HBc := below2 HBc HB
        replace hG := hG.next HB
        clear HB
        go_wp2_with fail
        go_ret
        exact RetV.mk rfl HBc
      | ok t0 =>
        obtain ⟨t, rfl⟩ : ∃ t : ByteArray, t0 = t.data.toList := ⟨⟨t0.toArray⟩, rfl⟩
        have N := Lib.hid hn
        have NI := Lib.hid (is_normal hn)
        have NN := Lib.hid (normal_normal hn)
        have st : t.size ≤ 60000 := by
          have h1 := hn
          unfold hostNormal at h1
          split at h1
          · cases h1
          · unfold hostWritten at h1
            split at h1
            · cases h1
            · injection h1 with h1; rw [← size_len, ← h1]; omega
        clear hn hl
        go_wp2_with fail
        refine (normal_okB N.out _ hG ss).mono ?_
        rintro e w1 ⟨rfl, HB⟩
        replace HBc := below2 HBc HB
        replace hG := hG.next HB
        clear HB
        go_wp2_with fail
        refine (is_anyT NI.out _ hG st).mono ?_
        rintro e w1 ⟨rfl, HB⟩
        replace HBc := below2 HBc HB
        replace hG := hG.next HB
        clear HB
        go_wp2_with fail
        refine (normal_t NN.out _ hG st).mono ?_
        rintro e w1 ⟨rfl, HB⟩
        replace HBc := below2 HBc HB
        replace hG := hG.next HB
        clear HB
        go_wp2_with fail
        go_ret
        exact RetV.mk rfl HBc
  | false =>
    have hpq : ¬ p = q := of_decide_eq_false HBS.out
    have f3 : (p.toList == q.toList) = false := by rw [beq_eq_false_iff_ne, Lib.toList_data, Lib.toList_data]; intro e; exact hpq (bs_ext e)
    go_wp2_with fail
    refine (is_anyT E6.out _ hG sp').mono ?_
    rintro e w1 ⟨rfl, HB⟩
    replace HBc := below2 HBc HB
    replace hG := hG.next HB
    clear HB
    by_cases hl : 140 < s.size
    · have d1 : decide ((140 : Int) < (s.size : Int)) = true := by simp; omega
      go_wp2_with fail
      go_ret
      exact RetV.mk rfl HBc
    · have d1 : decide ((140 : Int) < (s.size : Int)) = false := by simp; omega
      have ss : s.size ≤ 60000 := by omega
      cases hn : hostNormal s.data.toList with
      | error k =>
        have K := (errn_ne hn).1
        have N := Lib.hid hn
        clear hn hl
        go_wp2_with fail
        refine (normal_anyE N.out _ hG ss).mono ?_
        rintro e w1 ⟨rfl, HB⟩
        replace HBc := below2 HBc HB
        replace hG := hG.next HB
        clear HB
        go_wp2_with fail
        go_ret
        exact RetV.mk rfl HBc
      | ok t0 =>
        obtain ⟨t, rfl⟩ : ∃ t : ByteArray, t0 = t.data.toList := ⟨⟨t0.toArray⟩, rfl⟩
        have N := Lib.hid hn
        have NI := Lib.hid (is_normal hn)
        have NN := Lib.hid (normal_normal hn)
        have st : t.size ≤ 60000 := by
          have h1 := hn
          unfold hostNormal at h1
          split at h1
          · cases h1
          · unfold hostWritten at h1
            split at h1
            · cases h1
            · injection h1 with h1; rw [← size_len, ← h1]; omega
        clear hn hl
        go_wp2_with fail
        refine (normal_okB N.out _ hG ss).mono ?_
        rintro e w1 ⟨rfl, HB⟩
        replace HBc := below2 HBc HB
        replace hG := hG.next HB
        clear HB
        go_wp2_with fail
        refine (is_anyT NI.out _ hG st).mono ?_
        rintro e w1 ⟨rfl, HB⟩
        replace HBc := below2 HBc HB
        replace hG := hG.next HB
        clear HB
        go_wp2_with fail
        refine (normal_t NN.out _ hG st).mono ?_
        rintro e w1 ⟨rfl, HB⟩
        replace HBc := below2 HBc HB
        replace hG := hG.next HB
        clear HB
        go_wp2_with fail
        go_ret
        exact RetV.mk rfl HBc
end Go.Proofs.YteigjobliflkdaaGreatDoor
