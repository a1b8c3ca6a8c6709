/- Walks: host.Same, Labels, Join. -/
import Derived.Test.YteigjobliflkdaaGreatDoorH15f
import Derived.Test.YteigjobliflkdaaGreatDoorJ15
namespace Go.Proofs.YteigjobliflkdaaGreatDoor
open Go.RowKit

theorem two_cells (w : World) (s t : ByteArray) : (w.alloc (.cells #[.string s, .string t] 9)).cell? ⟨w.heap.size, 0, none⟩ = some (.string s) ∧ (w.alloc (.cells #[.string s, .string t] 9)).cell? ⟨w.heap.size, 1, none⟩ = some (.string t) := by
  constructor <;> rw [World.cell?_alloc_at _ _ _ _ rfl] <;> rfl
theorem one_below (w : World) (o : Obj) : Below w.heap.size w (w.alloc o) := (Below.refl _ _).alloc (Nat.le_refl _) _
theorem below_of_alloc {w w' : World} {o : Obj} (h : Below (w.alloc o).heap.size (w.alloc o) w') : Below w.heap.size w w' := (one_below w o).trans (h.mono (by simp))
theorem own_at {w : World} {B e size g n cap : Nat} {xs : List Value} (h : w.ownsRow B e size (.slice (some ⟨g, 0, none⟩) n cap) n xs) (j : Nat) (v : Value) (hj : xs[j]? = some v) : w.cell? ⟨g, j, none⟩ = some v := by
  rw [h.cellAt j (by have := (List.getElem?_eq_some_iff.1 hj).1; rw [h.1] at this; exact this)]; exact hj

set_option maxRecDepth 100000 in
set_option maxHeartbeats 800000 in
theorem same_any (s t : ByteArray) (w : World) (hG : Good w) (hs : s.size ≤ 60000) (ht : t.size ≤ 60000) :
    Calls Tryz.prog 20 #[.string s, .string t] w (RetV (vBool (hostSame s.data.toList t.data.toList)) w) := by
  have HC := Lib.hid (two_cells w s t)
  have hG1 := hG.next (one_below w (.cells #[.string s, .string t] 9))
  cases hh : hostSplit s.data.toList with
  | error x =>
    have hx := (err_ne hh).2
    have HE := Lib.hid (show hostSame s.data.toList t.data.toList = (false, x) by unfold hostSame; rw [hh])
    have HH := Lib.hid hh
    clear hh
    go_enter Tryz.func20, Tryz.ntmps20
    go_wp2_with fail
    refine (splits2_err1 HH.out _ hG1 hs ht (by simp) HC.out.1 HC.out.2).mono ?_
    rintro e w1 ⟨rfl, HB⟩
    go_wp2_with fail
    go_quiet (fail)
    go_wp2_with fail
    go_ret2
    exact RetV.of (f := vBool) _ HE.out rfl (below_drewN (below_of_alloc HB) _)
  | ok a =>
    cases hg : hostSplit t.data.toList with
    | error x =>
      have hx := (err_ne hg).2
      have HE := Lib.hid (show hostSame s.data.toList t.data.toList = (false, x) by unfold hostSame; rw [hh, hg])
      have HH := Lib.hid hh
      have HG := Lib.hid hg
      clear hh hg
      go_enter Tryz.func20, Tryz.ntmps20
      go_wp2_with fail
      refine (splits2_err2 HH.out HG.out _ hG1 hs ht (by simp) HC.out.1 HC.out.2).mono ?_
      rintro e w1 ⟨rfl, HB⟩
      go_wp2_with fail
      go_quiet (fail)
      go_wp2_with fail
      go_ret2
      exact RetV.of (f := vBool) _ HE.out rfl (below_drewN (below_of_alloc HB) _)
    | ok b =>
      have HE := Lib.hid (show hostSame s.data.toList t.data.toList = (a.1 == b.1 && a.2 == b.2, 0) by unfold hostSame; rw [hh, hg])
      have HH := Lib.hid hh
      have HG := Lib.hid hg
      obtain ⟨n, p⟩ := a
      obtain ⟨m, q⟩ := b
      clear hh hg
      by_cases hnm : n = m
      · subst hnm
        by_cases hpq : p = q
        · subst hpq
          have HE2 := Lib.hid (show (n == n && p == p) = true by simp)
          go_enter Tryz.func20, Tryz.ntmps20
          go_wp2_with fail
          refine (splits2_ok HH.out HG.out _ hG1 hs ht (by simp) HC.out.1 HC.out.2).mono ?_
          rintro e w1 ⟨g, cap, rfl, hown, HB⟩
          have c0 := own_at hown 0 (.string ⟨n.toArray⟩) rfl
          have c1 := own_at hown 1 (.int .i64 p) rfl
          have c2 := own_at hown 2 (.string ⟨n.toArray⟩) rfl
          have c3 := own_at hown 3 (.int .i64 p) rfl
          go_wp2_with fail
          go_quiet (fail)
          go_wp2_with fail
          go_ret2
          exact RetV.of (f := vBool) _ HE.out (tup2 (congrArg Value.bool HE2.out.symm) rfl) (below_drewN (below_of_alloc HB) _)
        · have hpq' : (p == q) = false := beq_eq_false_iff_ne.2 hpq
          have HE2 := Lib.hid (show (n == n && p == q) = false by rw [hpq']; simp)
          clear hpq
          go_enter Tryz.func20, Tryz.ntmps20
          go_wp2_with fail
          refine (splits2_ok HH.out HG.out _ hG1 hs ht (by simp) HC.out.1 HC.out.2).mono ?_
          rintro e w1 ⟨g, cap, rfl, hown, HB⟩
          have c0 := own_at hown 0 (.string ⟨n.toArray⟩) rfl
          have c1 := own_at hown 1 (.int .i64 p) rfl
          have c2 := own_at hown 2 (.string ⟨n.toArray⟩) rfl
          have c3 := own_at hown 3 (.int .i64 q) rfl
          go_wp2_with fail
          go_quiet (fail)
          go_wp2_with fail
          go_ret2
          exact RetV.of (f := vBool) _ HE.out (tup2 (congrArg Value.bool HE2.out.symm) rfl) (below_drewN (below_of_alloc HB) _)
      · have hnm' : (n == m) = false := beq_eq_false_iff_ne.2 hnm
        have HE2 := Lib.hid (show (n == m && p == q) = false by rw [hnm']; rfl)
        clear hnm
        go_enter Tryz.func20, Tryz.ntmps20
        go_wp2_with fail
        refine (splits2_ok HH.out HG.out _ hG1 hs ht (by simp) HC.out.1 HC.out.2).mono ?_
        rintro e w1 ⟨g, cap, rfl, hown, HB⟩
        have c0 := own_at hown 0 (.string ⟨n.toArray⟩) rfl
        have c1 := own_at hown 1 (.int .i64 p) rfl
        have c2 := own_at hown 2 (.string ⟨m.toArray⟩) rfl
        have c3 := own_at hown 3 (.int .i64 q) rfl
        go_wp2_with fail
        go_quiet (fail)
        go_wp2_with fail
        go_ret2
        exact RetV.of (f := vBool) _ HE.out (tup2 (congrArg Value.bool HE2.out.symm) rfl) (below_drewN (below_of_alloc HB) _)

set_option maxRecDepth 100000 in
theorem labels_any (s : ByteArray) (w : World) (hG : Good w) (hs : s.size ≤ 60000) :
    Calls Tryz.prog 32 #[.string s] w (RetLabels (hostLabels s.data.toList) w) := by
  have HC := Lib.hid (show (w.alloc (.cells #[.string s] 9)).cell? ⟨w.heap.size, 0, none⟩ = some (.string s) by rw [World.cell?_alloc_at _ _ _ _ rfl]; rfl)
  have hG1 := hG.next (one_below w (.cells #[.string s] 9))
  cases hh : hostSplit s.data.toList with
  | error x =>
    have hx := (err_ne hh).1
    rw [hostLabels_err hh]
    have HH := Lib.hid hh
    clear hh
    unfold RetLabels
    go_enter Tryz.func32, Tryz.ntmps32
    go_wp2_with fail
    refine (splits1_err HH.out _ hG1 hs (by simp) HC.out).mono ?_
    rintro e w1 ⟨rfl, HB⟩
    go_wp2_with fail
    go_ret2
    exact ⟨rfl, below_of_alloc HB⟩
  | ok a =>
    obtain ⟨n, p⟩ := a
    rw [hostLabels_ok hh]
    have hn : n.length ≤ 64 := (hostSplit_ok hh).2.2.1
    have HH := Lib.hid hh
    clear hh
    unfold RetLabels
    go_enter Tryz.func32, Tryz.ntmps32
    go_wp2_with fail
    refine (splits1_ok HH.out _ hG1 hs (by simp) HC.out).mono ?_
    rintro e w1 ⟨g, cap, rfl, hown, HB⟩
    have c0 := own_at hown 0 (.string ⟨n.toArray⟩) rfl
    have hG2 := hG1.next HB
    go_wp2_with fail
    refine (split_lib1 rfl (by omega) _ hG2).mono ?_
    rintro e w2 ⟨g2, cap2, rfl, hown2, HB2⟩
    go_wp2_with fail
    go_ret2
    have hB1 := below_of_alloc HB
    exact ⟨g2, cap2, rfl, own_mono hown2 hB1.size, hB1.trans (HB2.mono hB1.size)⟩

theorem itoa_any (n : Nat) (w : World) (hG : Good w) (hn : n ≤ 65535) :
    Calls Tryz.prog 101 #[.int .i64 n] w fun e w' => e = .returned (.string ⟨(Lib.itoa n).toArray⟩) ∧ Below w.heap.size w w' := by
  refine (Tryz.strconv_Itoa n (by omega) (by omega) w hG.pow).mono fun e w' h => ?_
  obtain ⟨h1, k, os, rfl⟩ := h
  exact ⟨h1, Lib.below_grow w.heap.size w (Nat.le_refl _) k os⟩
theorem contains_any (c : UInt8) (s : ByteArray) (w : World) (hG : Good w) (hs : s.size ≤ 60000) :
    Calls Tryz.prog 100 #[.string s, .string ⟨#[c]⟩] w fun e w' => e = .returned (.bool (cut1 c s.data.toList).2.2) ∧ w = w' := by
  obtain ⟨m, hm⟩ := hG.maxlen
  refine (Tryz.strings_Contains s ⟨#[c]⟩ m w (by omega) hm).mono fun e w' h => ?_
  rw [← contains_cut]
  exact ⟨h.1, h.2.symm⟩

set_option maxRecDepth 100000 in
set_option maxHeartbeats 800000 in
theorem join_any (s : ByteArray) (p : Int) (w : World) (hG : Good w) (hs : s.size ≤ 50000) :
    Calls Tryz.prog 34 #[.string s, .int .i64 p] w (RetV (vStr (hostJoin s.data.toList p)) w) := by
  have hs' : s.size ≤ 60000 := by omega
  cases hh : hostSplit s.data.toList with
  | error x =>
    have hx := (err_ne hh).1
    have HE := Lib.hid (show hostJoin s.data.toList p = .error x by unfold hostJoin; rw [hh])
    have HH := Lib.hid hh
    clear hh
    go_enter Tryz.func34, Tryz.ntmps34
    go_wp2_with (go_at_call 26; refine (split_err HH.out _ hG hs').mono ?_; rintro e w1 ⟨rfl, HB⟩)
    go_ret2
    exact RetV.of (f := vStr) _ HE.out rfl HB
  | ok r =>
    obtain ⟨n, p0⟩ := r
    have HJ := Lib.hid (show hostJoin s.data.toList p = if n.length ≠ s.data.toList.length then .error 3 else if p < 1 ∨ 65535 < p then .error 2 else hostWritten n p by unfold hostJoin; rw [hh])
    have HNo := Lib.hid (join_no hh)
    have HH := Lib.hid hh
    cases hc : (cut1 58 s.data.toList).2.2 with
    | true =>
      have HE := Lib.hid (show hostJoin s.data.toList p = .error 3 by rw [HJ.out, if_pos (HNo.out.1 hc)])
      clear hh
      go_enter Tryz.func34, Tryz.ntmps34
      go_wp2_with fail
      refine (split_ok HH.out _ hG hs').mono ?_
      rintro e w1 ⟨rfl, HB⟩
      have hG1 := hG.next HB
      go_wp2_with fail
      refine (contains_any 58 s _ hG1 hs').mono ?_
      rintro e w2 ⟨rfl, rfl⟩
      rw [hc]
      clear hc
      go_wp2_with fail
      go_ret2
      exact RetV.of (f := vStr) _ HE.out rfl HB
    | false =>
      have HJ2 := Lib.hid (show hostJoin s.data.toList p = if p < 1 ∨ 65535 < p then .error 2 else hostWritten n p by
        rw [HJ.out, if_neg (fun e => by have := HNo.out.2 e; rw [hc] at this; cases this)])
      have HCf := Lib.hid hc
      have HHN := Lib.hid (fun u h1 h2 => WrittenNormal (join_split hh hc u h1 h2))
      clear hh hc
      by_cases hp1 : p < 1
      · have HE := Lib.hid (show hostJoin s.data.toList p = .error 2 by rw [HJ2.out, if_pos (Or.inl hp1)])
        have hp1' : decide (p < 1) = true := by simp; omega
        go_enter Tryz.func34, Tryz.ntmps34
        go_wp2_with fail
        refine (split_ok HH.out _ hG hs').mono ?_
        rintro e w1 ⟨rfl, HB⟩
        have hG1 := hG.next HB
        go_wp2_with fail
        refine (contains_any 58 s _ hG1 hs').mono ?_
        rintro e w2 ⟨rfl, rfl⟩
        rw [HCf.out]
        go_wp2_with fail
        go_ret2
        exact RetV.of (f := vStr) _ HE.out rfl HB
      have hp1' : decide (p < 1) = false := by simp; omega
      by_cases hp2 : 65535 < p
      · have HE := Lib.hid (show hostJoin s.data.toList p = .error 2 by rw [HJ2.out, if_pos (Or.inr hp2)])
        have hp2' : decide (65535 < p) = true := by simp; omega
        go_enter Tryz.func34, Tryz.ntmps34
        go_wp2_with fail
        refine (split_ok HH.out _ hG hs').mono ?_
        rintro e w1 ⟨rfl, HB⟩
        have hG1 := hG.next HB
        go_wp2_with fail
        refine (contains_any 58 s _ hG1 hs').mono ?_
        rintro e w2 ⟨rfl, rfl⟩
        rw [HCf.out]
        go_wp2_with fail
        go_ret2
        exact RetV.of (f := vStr) _ HE.out rfl HB
      have hp2' : decide (65535 < p) = false := by simp; omega
      obtain ⟨u, rfl⟩ := Int.eq_ofNat_of_zero_le (show 0 ≤ p by omega)
      have hil := itoa_len u (by omega)
      have HN := Lib.hid (HHN.out u (by omega) (by omega))
      rw [HJ2.out, if_neg (by omega)]
      clear HHN HJ2 HJ HNo
      have hdat : (s ++ ⟨#[58]⟩ ++ ⟨(Lib.itoa (u : Int)).toArray⟩ : ByteArray).data.toList = s.data.toList ++ 58 :: Lib.itoa (u : Int) := by simp [ByteArray.data_append]
      have HD := Lib.hid hdat
      clear hdat
      go_enter Tryz.func34, Tryz.ntmps34
      go_wp2_with fail
      refine (split_ok HH.out _ hG hs').mono ?_
      rintro e w1 ⟨rfl, HB⟩
      have hG1 := hG.next HB
      go_wp2_with fail
      refine (contains_any 58 s _ hG1 hs').mono ?_
      rintro e w2 ⟨rfl, rfl⟩
      rw [HCf.out]
      go_wp2_with fail
      refine (itoa_any u _ hG1 (by omega)).mono ?_
      rintro e w3 ⟨rfl, HB3⟩
      have hG3 := hG1.next HB3
      go_wp2_with fail
      have HZ := normal_any (s ++ ⟨#[58]⟩ ++ ⟨(Lib.itoa (u : Int)).toArray⟩) w3 hG3 (by rw [ByteArray.size_append, ByteArray.size_append]; have := size_mk (Lib.itoa (u : Int)); show s.size + 1 + (⟨(Lib.itoa (u : Int)).toArray⟩ : ByteArray).size ≤ 60000; omega)
      rw [HD.out, HN.out] at HZ
      have HB4 := HB.trans (HB3.mono HB.size)
      cases hw : hostWritten n u with
      | error x =>
        refine (strErr HZ hw).mono ?_
        rintro e w4 ⟨rfl, HB5⟩
        clear HZ
        go_wp2_with fail
        go_ret2
        exact RetV.of (f := vStr) _ hw rfl (HB4.trans (HB5.mono HB4.size))
      | ok m =>
        refine (strOk HZ hw).mono ?_
        rintro e w4 ⟨rfl, HB5⟩
        clear HZ
        go_wp2_with fail
        go_ret2
        exact RetV.of (f := vStr) _ hw rfl (HB4.trans (HB5.mono HB4.size))
end Go.Proofs.YteigjobliflkdaaGreatDoor
