/- Walk: host.Split, and the library that it calls. -/
import Derived.Test.YteigjobliflkdaaGreatDoorH15a
import Derived.WalkSmall
namespace Go.Proofs.YteigjobliflkdaaGreatDoor
open Go.RowKit

/-- What every world of a call has: the package-level variables that are read. -/
structure Good (w : World) : Prop where
  size : 8 ≤ w.heap.size
  maxlen : ∃ m, w.cell? ⟨0, 0, none⟩ = some (.int .i64 m)
  pow : Lib.TabIs Tryz.prog w "internal/strconv.uint64pow10" .u64 Lib.pow10Tab

theorem gPow : Tryz.prog.globalNamed "internal/strconv.uint64pow10" = some 3 := by kernel_rfl
theorem Good.below {w w' : World} {B : Nat} (h : Good w) (hB : Below B w w') (hb : 8 ≤ B) : Good w' := by
  obtain ⟨h1, ⟨m, h2⟩, h3⟩ := h
  refine ⟨Nat.le_trans h1 hB.size, ⟨m, ?_⟩, var?_below hB gPow (by omega) h3⟩
  rw [hB.cell (p := ⟨0, 0, none⟩) (by show 0 < B; omega)]; exact h2
theorem Good.next {w w' : World} (h : Good w) (hB : Below w.heap.size w w') : Good w' := h.below hB h.size
theorem Good.tab {w : World} {B : Nat} (h : Good w) (hb : 8 ≤ B) : Lib.TabBelow Tryz.prog B w "internal/strconv.uint64pow10" .u64 Lib.pow10Tab :=
  fun _ hB => (h.below hB hb).pow

theorem cut_any (c : UInt8) (s : ByteArray) (w : World) (hG : Good w) (hs : s.size ≤ 60000) :
    Calls Tryz.prog 83 #[.string s, .string ⟨#[c]⟩] w fun e w' => e = .returned (.tuple #[.string ⟨(cut1 c s.data.toList).1.toArray⟩, .string ⟨(cut1 c s.data.toList).2.1.toArray⟩, .bool (cut1 c s.data.toList).2.2]) ∧ Below w.heap.size w w' := by
  obtain ⟨m, hm⟩ := hG.maxlen
  have := Tryz.strings_Cut s ⟨#[c]⟩ m w (by omega) hm
  rw [show (⟨#[c]⟩ : ByteArray).data.toList = [c] from rfl, lib_cut] at this
  refine this.mono fun e w' h => ?_
  obtain ⟨h1, n, rfl⟩ := h
  exact ⟨h1, below_drewN (Below.refl _ _) n⟩

theorem count_segs (c : UInt8) : ∀ (n : Nat) (l : List UInt8), l.length < n → ∀ f, l.length < f → (segs c l).length = Lib.countFrom [c] f l + 1
  | 0, l, h, _, _ => by omega
  | n + 1, l, h, f, hf => by
    obtain ⟨f, rfl⟩ : ∃ g, f = g + 1 := ⟨f - 1, by omega⟩
    rw [segs_cut]
    unfold Lib.countFrom
    rw [index_one c l]
    cases hc : (cut1 c l).2.2 with
    | false => simp
    | true =>
      have hl := (cut1_len c l).2.2 hc
      have h1 : ((((cut1 c l).1.length : Int)) == -1) = false := by rw [beq_eq_false_iff_ne]; omega
      simp only [if_true, h1, Bool.false_eq_true, if_false, Int.toNat_natCast, List.length_cons, List.length_nil, Nat.zero_add]
      rw [cut1_drop c l hc, count_segs c n _ (by omega) f (by omega)]
      omega

theorem split_lib (c : UInt8) (s : ByteArray) (w : World) (hG : Good w) (hs : s.size ≤ 60000) :
    Calls Tryz.prog 92 #[.string s, .string ⟨#[c]⟩] w (RetStrs1 w (segs c s.data.toList)) := by
  obtain ⟨m, hm⟩ := hG.maxlen
  refine (Tryz.strings_Split s ⟨#[c]⟩ m w (by omega) hm (by show 1 ≤ 1; omega)).mono fun e w' h => ?_
  obtain ⟨rfl, rfl⟩ := h
  have hN : Lib.countB s ⟨#[c]⟩ + 1 = (segs c s.data.toList).length := (count_segs c (s.data.toList.length + 1) _ (by omega) _ (by omega)).symm
  have hL : (Lib.splitB ⟨#[c]⟩ 0 (Lib.countB s ⟨#[c]⟩) s).map Value.string = (segs c s.data.toList).map S := by
    have h := Lib.splitB_data ⟨#[c]⟩ 0 (Lib.countB s ⟨#[c]⟩) s
    rw [show Lib.splitK (⟨#[c]⟩ : ByteArray).data.toList 0 (Lib.countB s ⟨#[c]⟩) s.data.toList = segs c s.data.toList from lib_split c s.data.toList] at h
    rw [← h, List.map_map]
    congr 1
  have hle := segs_le c s.data.toList
  rw [size_len] at hle
  refine ⟨w.heap.size, _, by rw [hN], ?_, (Below.refl _ _).alloc (Nat.le_refl _) _⟩
  rw [hL]
  have := World.ownsRow_lit (base := w.heap.size) (e := 9) (size := 1) w ((segs c s.data.toList).map S).toArray (segs c s.data.toList).length (Nat.le_refl _) (by unfold maxLen; omega) (by simp)
  exact this

theorem split_lib1 {c : UInt8} {n : List UInt8} {A : List (List UInt8)} (h : segs c n = A) (hn : n.length ≤ 60000) (w : World) (hG : Good w) :
    Calls Tryz.prog 92 #[.string ⟨n.toArray⟩, .string ⟨#[c]⟩] w fun e w' => ∃ g cap, e = .returned (.slice (some ⟨g, 0, none⟩) A.length cap) ∧ w'.ownsRow w.heap.size 9 1 (.slice (some ⟨g, 0, none⟩) A.length cap) A.length (A.map S) ∧ Below w.heap.size w w' := by
  subst h
  exact split_lib c ⟨n.toArray⟩ w hG (by rw [size_mk]; exact hn)

theorem atoi_any (s : ByteArray) (w : World) (h : digsOK s.data.toList = true) :
    Calls Tryz.prog 91 #[.string s] w fun e w' => e = .returned (.tuple #[.int .i64 (decVal s.data.toList), .nilIface]) ∧ Below w.heap.size w w' := by
  have h5 : s.size ≤ 5 := by
    have := h
    simp only [digsOK, Bool.and_eq_true, decide_eq_true_eq] at this
    rw [← size_len]; exact this.1.2
  refine (Tryz.strconv_Atoi s _ (by omega) (atoi_val _ h) w).mono fun e w' h => ?_
  obtain ⟨h1, t, rfl⟩ := h
  exact ⟨h1, bytes_below w t⟩

set_option maxRecDepth 100000 in
set_option maxHeartbeats 800000 in
theorem split_any (s : ByteArray) (w : World) (hG : Good w) (hs : s.size ≤ 60000) :
    Calls Tryz.prog 26 #[.string s] w (RetV (vSplit (hostSplit s.data.toList)) w) := by
  by_cases hlong : 128 < s.size
  · go_enter Tryz.func26, Tryz.ntmps26
    go_wp2_with (fail)
    go_ret3
    exact RetV.of (f := vSplit) _ (hostSplit_long (by rw [size_len]; exact hlong)) rfl (Below.refl _ _)
  have hle : decide (128 < (s.size : Int)) = false := by simp; omega
  have hl128 : s.size ≤ 128 := by omega
  have hlen := cut1_len 58 s.data.toList
  rw [size_len] at hlen
  obtain ⟨hl1, hl2, _⟩ := hlen
  generalize hcut : cut1 58 s.data.toList = c at hl1 hl2
  obtain ⟨nm, dg, is⟩ := c
  have HC := Lib.hid hcut
  clear hcut
  simp only at hl1 hl2
  go_enter Tryz.func26, Tryz.ntmps26
  go_wp2_with (fail)
  refine (cut_any 58 s w hG hs).mono ?_
  rw [HC.out]
  rintro e w1 ⟨rfl, HB1⟩
  have hG1 := hG.next HB1
  go_upto_if 18 with fail
  go_cut [2, 3, 6] (fun n2 pt _ wx => ∃ p : Int, n2 = .string ⟨nm.toArray⟩ ∧ pt = .int .i64 p ∧ Hid (Stage1 s.data.toList nm p) ∧ Good wx ∧ Below w.heap.size w wx)
  case first =>
    cases his : is with
    | false =>
      go_wp2_with fail
      go_meet
      refine ⟨80, rfl, rfl, ?_, hG1, HB1⟩
      show Stage1 _ _ _
      unfold Stage1
      rw [HC.out, his]
      exact ⟨rfl, Or.inl ⟨rfl, rfl⟩⟩
    | true =>
      by_cases hd : digsOK dg = true
      · have HD := Lib.hid hd
        have hd' := hd
        simp only [digsOK, Bool.and_eq_true, decide_eq_true_eq] at hd'
        obtain ⟨⟨hd1, hd2⟩, hd3⟩ := hd'
        have t1 : decide ((dg.length : Int) < 1) = false := by simp; omega
        have t2 : decide (5 < (dg.length : Int)) = false := by simp; omega
        have t3 : digB dg = true := hd3
        clear hd hd3
        go_wp2_with fail
        refine (in_digits ⟨dg.toArray⟩ _ (by rw [size_mk]; omega)).mono ?_
        rintro e w2 ⟨rfl, HB2⟩
        go_wp2_with fail
        refine (atoi_any ⟨dg.toArray⟩ _ HD.out).mono ?_
        rintro e w3 ⟨rfl, HB3⟩
        go_wp2_with fail
        go_meet
        have HBB := HB1.trans ((HB2.trans (HB3.mono HB2.size)).mono HB1.size)
        refine ⟨_, rfl, rfl, ?_, hG.next HBB, HBB⟩
        show Stage1 _ _ _
        unfold Stage1
        rw [HC.out, his]
        exact ⟨rfl, Or.inr ⟨rfl, HD.out, rfl⟩⟩
      · have hd' : digsOK dg = false := by simpa using hd
        have HE := Lib.hid (hostSplit_digs (l := s.data.toList) (by rw [size_len]; omega) (by rw [HC.out, his]) (by rw [HC.out]; exact hd'))
        by_cases h1 : dg.length < 1
        · have t1 : decide ((dg.length : Int) < 1) = true := by simp; omega
          clear hd hd'
          go_wp2_with fail
          go_ret3
          exact RetV.of (f := vSplit) _ HE.out rfl HB1
        have t1 : decide ((dg.length : Int) < 1) = false := by simp; omega
        by_cases h5 : 5 < dg.length
        · have t2 : decide (5 < (dg.length : Int)) = true := by simp; omega
          clear hd hd'
          go_wp2_with fail
          go_ret3
          exact RetV.of (f := vSplit) _ HE.out rfl HB1
        have t2 : decide (5 < (dg.length : Int)) = false := by simp; omega
        have t3 : digB dg = false := by
          unfold digsOK at hd'
          rw [decide_eq_true (show 1 ≤ dg.length by omega), decide_eq_true (show dg.length ≤ 5 by omega)] at hd'
          simpa [digB] using hd'
        clear hd hd'
        go_wp2_with fail
        refine (in_digits ⟨dg.toArray⟩ _ (by rw [size_mk]; omega)).mono ?_
        rintro e w2 ⟨rfl, HB2⟩
        go_wp2_with fail
        go_ret3
        exact RetV.of (f := vSplit) _ HE.out rfl (HB1.trans (HB2.mono HB1.size))
  case rest =>
    obtain ⟨p, rfl, rfl, HS, hG2, HB2⟩ := hcut
    have HR := Lib.hid (HS.out.split (by rw [size_len]; omega))
    have hA := segs_le 46 nm
    have hAm := segs_mem 46 nm
    generalize hL : segs 46 nm = L at HR hA hAm
    have HLL := Lib.hid hL
    have HM := Lib.hid hAm
    clear hL hAm
    go_wp2_with fail
    refine (split_lib1 HLL.out (by omega) _ hG2).mono ?_
    rintro e w3 ⟨g, cap, rfl, hown, HB3⟩
    have hG3 := hG2.next HB3
    have HB4 := HB2.trans (HB3.mono HB2.size)
    clear HB3 HB2 hG2 hG1 HB1
    go_wp2_with fail
    go_loopw [2, 3, 40] (fun n2 pt i wr => ∃ k : Nat, n2 = .string ⟨nm.toArray⟩ ∧ pt = .int .i64 p ∧ k ≤ L.length ∧ i = .int .i64 k ∧ Hid ((L.take k).all labB = true) ∧ Hid (wr.ownsRow wc.heap.size 9 1 (.slice (some ⟨g, 0, none⟩) L.length cap) L.length (L.map S)) ∧ Good wr ∧ Below w.heap.size w wr) (fun _ _ i _ => L.length - (intOf i).toNat)
    case atStart => exact ⟨0, rfl, rfl, Nat.zero_le _, rfl, rfl, hown, hG3, HB4⟩
    case round =>
      clear hG3 HB4 hown
      obtain ⟨k, rfl, rfl, hk, rfl, HA, hown, hG3, HB4⟩ := hrel
      by_cases hlt : k < L.length
      · have hcell := own_cell hown.out k hlt rfl
        have HK := Lib.hid (show L[k]?.getD [] = L[k] by rw [List.getElem?_eq_getElem hlt]; rfl)
        have HT := Lib.hid (List.take_succ_eq_append_getElem hlt)
        generalize hx : (⟨(L[k]?.getD []).toArray⟩ : ByteArray) = x at hcell
        have HX := Lib.hid (show x.data.toList = L[k] by rw [← hx, ← HK.out])
        clear hx
        have hxs : x.size ≤ 60000 := by
          have := HM.out L[k] (List.getElem_mem _)
          rw [← size_len x, HX.out]; omega
        by_cases hb : labB x.data.toList = true
        · have HN := Lib.hid (show (L.take (k + 1)).all labB = true by rw [HT.out, List.all_append, HA.out, ← HX.out]; simp [hb])
          go_wp2_with (go_at_call 93; refine (label_any _ _ hxs).mono ?_; rintro e w5 ⟨rfl, HB5⟩)
          go_roundw
          case rel => exact ⟨k + 1, rfl, rfl, by omega, by go_num, HN, own_below hown.out HB5, hG3.next HB5, HB4.trans (HB5.mono HB4.size)⟩
          case measure => (simp [intOf]; try omega)
        · have hb' : labB x.data.toList = false := by simpa using hb
          clear hb
          have HE := Lib.hid (show hostSplit s.data.toList = .error 3 by
            rw [HR.out, if_pos (List.all_eq_false.2 ⟨L[k], List.getElem_mem _, by rw [← HX.out, hb']; simp⟩)])
          go_wp2_with (go_at_call 93; refine (label_any _ _ hxs).mono ?_; rintro e w5 ⟨rfl, HB5⟩)
          go_ret3
          exact RetV.of (f := vSplit) _ HE.out rfl (HB4.trans (HB5.mono HB4.size))
      · have HR2 := Lib.hid (show hostSplit s.data.toList = if 64 < nm.length then .error 4 else if p < 1 ∨ 65535 < p then .error 2 else .ok (lower nm, p) by
          have := HA.out
          rw [List.take_of_length_le (by omega)] at this
          rw [HR.out, this, if_neg (by simp)])
        by_cases h64 : 64 < nm.length
        · have HE := Lib.hid (show hostSplit s.data.toList = .error 4 by rw [HR2.out, if_pos h64])
          go_wp2_with (fail)
          go_ret3
          exact RetV.of (f := vSplit) _ HE.out rfl HB4
        by_cases hp1 : p < 1
        · have HE := Lib.hid (show hostSplit s.data.toList = .error 2 by rw [HR2.out, if_neg h64, if_pos (Or.inl hp1)])
          have hp1' : decide (p < 1) = true := by simp; omega
          go_wp2_with (fail)
          go_ret3
          exact RetV.of (f := vSplit) _ HE.out rfl HB4
        have hp1' : decide (p < 1) = false := by simp; omega
        by_cases hp2 : 65535 < p
        · have HE := Lib.hid (show hostSplit s.data.toList = .error 2 by rw [HR2.out, if_neg h64, if_pos (Or.inr hp2)])
          have hp2' : decide (65535 < p) = true := by simp; omega
          go_wp2_with (fail)
          go_ret3
          exact RetV.of (f := vSplit) _ HE.out rfl HB4
        have hp2' : decide (65535 < p) = false := by simp; omega
        have HE := Lib.hid (show hostSplit s.data.toList = .ok (lower nm, p) by rw [HR2.out, if_neg h64, if_neg (by omega)])
        go_wp2_with (go_at_call 94; refine (lower_tok _ _ (by rw [size_mk]; omega)).mono ?_; rintro e w5 ⟨rfl, HB5⟩)
        go_ret3
        exact RetV.of (f := vSplit) _ HE.out rfl (HB4.trans (HB5.mono HB4.size))
end Go.Proofs.YteigjobliflkdaaGreatDoor
