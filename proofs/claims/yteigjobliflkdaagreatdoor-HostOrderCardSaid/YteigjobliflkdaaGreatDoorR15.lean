/- Walks: waypostref15's small functions (bytes, labels) and both 'Lower'. -/
import Derived.Test.YteigjobliflkdaaGreatDoorA0
import Derived.Test.YteigjobliflkdaaGreatDoorS15
namespace Go.Proofs.YteigjobliflkdaaGreatDoor
open Go.RowKit

theorem digit_any (b : UInt8) (w : World) :
    Calls Tryz.prog 95 #[.int .u8 b.toNat] w fun e w' => e = .returned (.bool (digitB b)) ∧ w = w' := by
  go_enter Tryz.func95, Tryz.ntmps95
  go_wp2
  all_goals
    go_ret
    exact ⟨ret_bool (by rw [Bool.eq_iff_iff]; simp [digitB]; omega), rfl⟩

theorem alnum_any (b : UInt8) (w : World) :
    Calls Tryz.prog 138 #[.int .u8 b.toNat] w fun e w' => e = .returned (.bool (alnumB b)) ∧ w = w' := by
  go_enter Tryz.func138, Tryz.ntmps138
  go_wp2_with (go_at_call 95; refine (digit_any _ _).mono ?_; rintro e w' ⟨rfl, rfl⟩)
  all_goals
    go_ret
    refine ⟨ret_bool (by rw [Bool.eq_iff_iff]; simp [alnumB, *]; try omega), rfl⟩

set_option maxHeartbeats 400000 in
theorem label_ref (s : ByteArray) (w : World) (hs : s.size ≤ 60000) :
    Calls Tryz.prog 96 #[.string s] w fun e w' => e = .returned (.bool (labB s.data.toList)) ∧ w = w' := by
  by_cases h0 : s.size = 0
  · have := bs_nil h0
    have HF := Lib.hid (show labB s.data.toList = false by simp [labB, h0])
    clear h0
    go_enter Tryz.func96, Tryz.ntmps96
    go_wp2_with (fail)
    go_ret
    exact ⟨ret_bool HF.out.symm, rfl⟩
  have hpos : 0 < s.size := by omega
  have hne := bs_ne hpos
  clear h0
  by_cases h1 : 63 < s.size
  · have HF := Lib.hid (show labB s.data.toList = false by simp [labB]; omega)
    go_enter Tryz.func96, Tryz.ntmps96
    go_wp2_with (fail)
    go_ret
    exact ⟨ret_bool HF.out.symm, rfl⟩
  have hle : decide (63 < (s.size : Int)) = false := by simp; omega
  by_cases h2 : s[0].toNat = 45
  · have HF := Lib.hid (show labB s.data.toList = false by simp only [labB, sgetD s 0 hpos, h2]; simp)
    have h2' : (((s[0].toNat : Int)) == 45) = true := by simp; omega
    clear h2
    go_enter Tryz.func96, Tryz.ntmps96
    go_wp2_with (fail)
    go_ret
    exact ⟨ret_bool HF.out.symm, rfl⟩
  have h2' : (((s[0].toNat : Int)) == 45) = false := by simp; omega
  by_cases h3 : s[s.size - 1].toNat = 45
  · have h3' : (((s[s.size - 1].toNat : Int)) == 45) = true := by simp; omega
    have HF := Lib.hid (show labB s.data.toList = false by simp only [labB, size_len, sgetD s (s.size - 1) (by omega), h3]; simp)
    clear h3 h2
    go_enter Tryz.func96, Tryz.ntmps96
    go_wp2_with (fail)
    go_ret
    exact ⟨ret_bool HF.out.symm, rfl⟩
  have h3' : (((s[s.size - 1].toNat : Int)) == 45) = false := by simp; omega
  have HL := Lib.hid (show labB s.data.toList = s.data.toList.all lchB by
    simp only [labB, size_len, sgetD s (s.size - 1) (by omega), sgetD s 0 hpos, h2, h3]; simp; omega)
  clear h2 h3
  go_enter Tryz.func96, Tryz.ntmps96
  go_wp2_with (fail)
  go_loop [3] (fun i => ∃ k : Nat, k ≤ s.size ∧ i = .int .i64 k ∧ Hid ((s.data.toList.take k).all lchB = true)) (fun i => s.size - (intOf i).toNat)
  case atStart => exact ⟨0, Nat.zero_le _, rfl, rfl⟩
  case round =>
    obtain ⟨k, hk, rfl, HA⟩ := hrel
    by_cases hlt : k < s.size
    · have HT := Lib.hid (take_snoc s k hlt)
      by_cases hc : lchB s[k] = true
      · have HN := Lib.hid (show (s.data.toList.take (k+1)).all lchB = true by
          rw [HT.out, List.all_append]; simp only [HA.out, List.all_cons, List.all_nil, hc, Bool.and_self])
        by_cases ha : alnumB s[k] = true
        · clear hc
          go_wp2_with (go_at_call 138; refine (alnum_any _ _).mono ?_; rintro e w' ⟨rfl, rfl⟩)
          go_round
          case rel => exact ⟨k + 1, by omega, by go_num, HN⟩
          case measure => simp [intOf]; omega
        · have ha' : alnumB s[k] = false := by simpa using ha
          have hq : ((s[k].toNat : Int) != 45) = false := by simp [lchB, ha'] at hc; simp [hc]
          clear hc ha
          go_wp2_with (go_at_call 138; refine (alnum_any _ _).mono ?_; rintro e w' ⟨rfl, rfl⟩)
          go_round
          case rel => exact ⟨k + 1, by omega, by go_num, HN⟩
          case measure => simp [intOf]; omega
      · have HN : Hid (labB s.data.toList = false) := by
          show labB s.data.toList = false
          rw [HL.out, List.all_eq_false]
          exact ⟨s[k], by rw [← sgetD s k hlt, List.getElem?_eq_getElem (by simpa using hlt)]; exact List.getElem_mem _, hc⟩
        have ha' : alnumB s[k] = false := by simp [lchB] at hc; exact hc.1
        have hq : ((s[k].toNat : Int) != 45) = true := by simp [lchB] at hc; simp; omega
        clear hc
        go_wp2_with (go_at_call 138; refine (alnum_any _ _).mono ?_; rintro e w' ⟨rfl, rfl⟩)
        go_ret
        exact ⟨ret_bool HN.out.symm, rfl⟩
    · go_wp2
      go_ret
      exact ⟨ret_bool (by rw [HL.out]; have := HA.out; rw [List.take_of_length_le (by simp; omega)] at this; exact this.symm), rfl⟩
/-- The row after k rounds. -/
def lowMix (k : Nat) (l : List UInt8) : List UInt8 := (l.take k).map lowB ++ l.drop k
theorem lowMix_length (k : Nat) (l : List UInt8) : (lowMix k l).length = l.length := by simp [lowMix]; omega
theorem lowMix_at (k : Nat) (l : List UInt8) (h : k < l.length) : (lowMix k l)[k]?.getD 0 = l[k]?.getD 0 := by
  simp [lowMix, List.getElem?_append, Nat.min_eq_left (Nat.le_of_lt h)]
theorem lowMix_succ (k : Nat) (l : List UInt8) (h : k < l.length) : lowMix (k + 1) l = (lowMix k l).set k (lowB (l[k]?.getD 0)) := by
  apply List.ext_getElem?
  intro i
  simp only [lowMix, List.getElem?_append, List.length_map, List.length_take, List.getElem?_set, List.getElem?_map, List.getElem?_take, List.getElem?_drop, List.length_append, List.length_drop]
  rcases Nat.lt_trichotomy i k with hi | hi | hi
  · rw [if_pos (by omega), if_pos (by omega), if_neg (by omega), if_pos (by omega), if_pos (by omega)]
  · subst hi
    rw [if_pos (by omega), if_pos (by omega), if_pos rfl, if_pos (by omega), List.getElem?_eq_getElem h]; rfl
  · rw [if_neg (by omega), if_neg (by omega), if_neg (by omega)]
    congr 1; omega
theorem lowMix_id (k : Nat) (l : List UInt8) (h : k < l.length) (hb : ¬ (65 ≤ (l[k]?.getD 0).toNat ∧ (l[k]?.getD 0).toNat ≤ 90)) : lowMix (k + 1) l = lowMix k l := by
  rw [lowMix_succ k l h, lowB, if_neg hb]
  apply List.ext_getElem?
  intro i
  rw [List.getElem?_set]
  split
  · rename_i hi; subst hi
    rw [if_pos (by rw [lowMix_length]; exact h), ← lowMix_at k l h, List.getElem?_eq_getElem (by rw [lowMix_length]; exact h)]; rfl
  · rfl
theorem add32 (b : UInt8) (h : b.toNat ≤ 90) : (b + 32).toNat = b.toNat + 32 := by
  rw [UInt8.toNat_add]; simp; omega

set_option maxRecDepth 100000 in
set_option maxHeartbeats 400000 in
theorem lower_ref (s : ByteArray) (w : World) (hs : s.size ≤ 60000) :
    Calls Tryz.prog 97 #[.string s] w fun e w' => e = .returned (.string ⟨(lower s.data.toList).toArray⟩) ∧ Below w.heap.size w w' := by
  have hcv := conv_bytes w s
  have HR := Lib.hid (BRow.of_bytes w s)
  have HB := bytes_below w s
  generalize (Lib.bytesCells w 5 s).size = cap at HR
  generalize Lib.bytesWorld w 5 s = W1 at hcv HR HB
  go_enter Tryz.func97, Tryz.ntmps97
  go_wp2_with (fail)
  go_loopw [4] (fun i wr => ∃ k : Nat, k ≤ s.size ∧ i = .int .i64 k ∧ Hid (BRow wr w.heap.size cap (lowMix k s.data.toList)) ∧ Below w.heap.size w wr) (fun i _ => s.size - (intOf i).toNat)
  case atStart => exact ⟨0, Nat.zero_le _, rfl, by simpa [lowMix] using HR, HB⟩
  case round =>
    obtain ⟨k, hk, rfl, HR, HB⟩ := hrel
    by_cases hlt : k < s.size
    · have hcell := HR.out.cell k (by rw [lowMix_length]; simpa using hlt)
      rw [lowMix_at k _ (by simpa using hlt), sgetD s k hlt] at hcell
      have HS := Lib.hid (sgetD s k hlt)
      generalize s[k] = c at hcell HS
      have hcb := c.toNat_lt
      have hfr := HR.out.frozen k (by rw [lowMix_length]; simpa using hlt)
      go_wp2_with (fail)
      · have hc1 : 65 ≤ (c.toNat : Int) := by assumption
        have hc2 : (c.toNat : Int) ≤ 90 := by assumption
        have HN := HR.out.set k (lowB c) (c.toNat + 32) (by simp [lowB, show 65 ≤ c.toNat by omega, show c.toNat ≤ 90 by omega, add32 c (by omega)])
        rw [← show lowMix (k + 1) s.data.toList = (lowMix k s.data.toList).set k (lowB c) by rw [lowMix_succ k _ (by simpa using hlt), HS.out]] at HN
        go_roundw
        case rel => exact ⟨k + 1, by omega, by go_num, HN, HB.setCell (Nat.le_refl _) _⟩
        case measure => simp [intOf]; omega
      all_goals
        have HN := HR.out
        rw [← lowMix_id k _ (by simpa using hlt) (by rw [HS.out]; omega)] at HN
        go_roundw
        case rel => exact ⟨k + 1, by omega, by go_num, HN, HB⟩
        case measure => simp [intOf]; omega
    · have hk' : k = s.size := by omega
      subst hk'
      have hback := conv_back (c := grownCap w s.size 0 5) HR.out s.size (by rw [lowMix_length]; simp)
      have HE := Lib.hid (show lowMix s.size s.data.toList = lower s.data.toList by rw [lowMix, ← size_len s, List.take_length, List.drop_length, List.append_nil, lower])
      generalize lowMix s.size s.data.toList = r at hback HE
      go_wp2
      go_ret
      exact ⟨ret_str (by rw [HE.out]), HB⟩

set_option maxRecDepth 100000 in
set_option maxHeartbeats 400000 in
theorem lower_tok (s : ByteArray) (w : World) (hs : s.size ≤ 60000) :
    Calls Tryz.prog 94 #[.string s] w fun e w' => e = .returned (.string ⟨(lower s.data.toList).toArray⟩) ∧ Below w.heap.size w w' := by
  have hcv := conv_bytes w s
  have HR := Lib.hid (BRow.of_bytes w s)
  have HB := bytes_below w s
  generalize (Lib.bytesCells w 5 s).size = cap at HR
  generalize Lib.bytesWorld w 5 s = W1 at hcv HR HB
  go_enter Tryz.func94, Tryz.ntmps94
  go_wp2_with (fail)
  go_loopw [10] (fun i wr => ∃ k : Nat, k ≤ s.size ∧ i = .int .i64 k ∧ Hid (BRow wr w.heap.size cap (lowMix k s.data.toList)) ∧ Below w.heap.size w wr) (fun i _ => s.size - (intOf i).toNat)
  case atStart => exact ⟨0, Nat.zero_le _, rfl, by simpa [lowMix] using HR, HB⟩
  case round =>
    obtain ⟨k, hk, rfl, HR, HB⟩ := hrel
    by_cases hlt : k < s.size
    · have hcell := HR.out.cell k (by rw [lowMix_length]; simpa using hlt)
      rw [lowMix_at k _ (by simpa using hlt), sgetD s k hlt] at hcell
      have HS := Lib.hid (sgetD s k hlt)
      generalize s[k] = c at hcell HS
      have hcb := c.toNat_lt
      have hfr := HR.out.frozen k (by rw [lowMix_length]; simpa using hlt)
      go_wp2_with (fail)
      · have hc1 : 65 ≤ (c.toNat : Int) := by assumption
        have hc2 : (c.toNat : Int) ≤ 90 := by assumption
        have HN := HR.out.set k (lowB c) (c.toNat + 32) (by simp [lowB, show 65 ≤ c.toNat by omega, show c.toNat ≤ 90 by omega, add32 c (by omega)])
        rw [← show lowMix (k + 1) s.data.toList = (lowMix k s.data.toList).set k (lowB c) by rw [lowMix_succ k _ (by simpa using hlt), HS.out]] at HN
        go_roundw
        case rel => exact ⟨k + 1, by omega, by go_num, HN, HB.setCell (Nat.le_refl _) _⟩
        case measure => simp [intOf]; omega
      all_goals
        have HN := HR.out
        rw [← lowMix_id k _ (by simpa using hlt) (by rw [HS.out]; omega)] at HN
        go_roundw
        case rel => exact ⟨k + 1, by omega, by go_num, HN, HB⟩
        case measure => simp [intOf]; omega
    · have hk' : k = s.size := by omega
      subst hk'
      have hback := conv_back (c := grownCap w s.size 0 5) HR.out s.size (by rw [lowMix_length]; simp)
      have HE := Lib.hid (show lowMix s.size s.data.toList = lower s.data.toList by rw [lowMix, ← size_len s, List.take_length, List.drop_length, List.append_nil, lower])
      generalize lowMix s.size s.data.toList = r at hback HE
      go_wp2
      go_ret
      exact ⟨ret_str (by rw [HE.out]), HB⟩

/-- A call that hands back a new slice of strings. -/
def RetStrs (w : World) (L : List (List UInt8)) (e : Ending) (w' : World) : Prop :=
  ∃ v, e = .returned v ∧ w'.ownsRow w.heap.size 9 1 v L.length (L.map S) ∧ Below w.heap.size w w'

set_option maxRecDepth 100000 in
set_option maxHeartbeats 800000 in
theorem labels_ref (s : ByteArray) (w : World) (hs : s.size ≤ 60000) :
    Calls Tryz.prog 88 #[.string s] w (RetStrs w (segs 46 s.data.toList)) := by
  go_enter Tryz.func88, Tryz.ntmps88
  go_wp2_with (fail)
  go_loopw [3, 4, 5] (fun v f i wr => ∃ (k fn : Nat) (D : List (List UInt8)), k ≤ s.size + 1 ∧ i = .int .i64 k ∧ f = .int .i64 fn ∧ Hid (SegAt s.data.toList 46 k fn D) ∧ wr.ownsRow w.heap.size 9 1 v D.length (D.map S) ∧ Below w.heap.size w wr) (fun _ _ i _ => s.size + 1 - (intOf i).toNat)
  case atStart => exact ⟨0, 0, [], by omega, rfl, rfl, SegAt.start _ _, World.ownsRow_nil _ _ _ _, Below.refl _ _⟩
  case round =>
    obtain ⟨k, fn, D, hk, rfl, rfl, HG, hown, HB⟩ := hrel
    have hD := HG.out.dle
    rw [size_len] at hD
    by_cases hend : k = s.size + 1
    · have HE := Lib.hid (HG.out.fin (by rw [size_len]; omega))
      subst hend
      go_wp2_with (fail)
      go_ret
      exact ⟨_, rfl, by rw [← HE.out]; exact hown, HB⟩
    by_cases hlast : k = s.size
    · have hfn := HG.out.le (by rw [size_len]; omega)
      subst hlast
      have HN := Lib.hid (by have := HG.out; rw [← size_len s] at this; exact this.last)
      have hsz := HB.size
      have hlast : ((s.size : Int) == (s.size : Int)) = true := by simp
      go_wp2_with (at_builtin; refine wpApp9 rfl _ _ rfl hown HB rfl rfl (by omega) (by omega) (by omega) ?_)
      intro v' w' hown' HB'
      rw [S_extract, ← List.map_singleton (f := S), ← List.map_append] at hown'
      clear hown HB
      go_wp2_with (fail)
      go_roundw
      case rel => exact ⟨s.size + 1, s.size + 1, _, by omega, by go_num, by go_num, HN.out, by simpa using hown', HB'⟩
      case measure => (simp [intOf]; try omega)
    · have hlt : k < s.size := by omega
      have hfn := HG.out.le (by rw [size_len]; omega)
      have hsz := HB.size
      have HS := Lib.hid (sgetD s k hlt)
      have hne : ((k : Int) == (s.size : Int)) = false := by rw [beq_eq_false_iff_ne]; omega
      by_cases hc : s[k].toNat = 46
      · have hc' : ((s[k].toNat : Int) == 46) = true := by simp; omega
        have HN := Lib.hid (HG.out.hit (by rw [size_len]; exact hlt) (by rw [HS.out]; exact UInt8.toNat_inj.1 hc))
        clear hc
        go_wp2_with (at_builtin; refine wpApp9 rfl _ _ rfl hown HB rfl rfl (by omega) (by omega) (by omega) ?_)
        intro v' w' hown' HB'
        rw [S_extract, ← List.map_singleton (f := S), ← List.map_append] at hown'
        clear hown HB
        go_wp2_with (fail)
        go_roundw
        case rel => exact ⟨k + 1, k + 1, _, by omega, by go_num, by go_num, HN.out, by simpa using hown', HB'⟩
        case measure => (simp [intOf]; try omega)
      · have hc' : ((s[k].toNat : Int) == 46) = false := by simp; omega
        have HN := Lib.hid (HG.out.skip (by rw [size_len]; exact hlt) (by rw [HS.out]; intro e; rw [e] at hc; exact hc rfl))
        clear hc
        go_wp2_with (fail)
        go_roundw
        case rel => exact ⟨k + 1, fn, D, by omega, by go_num, rfl, HN.out, hown, HB⟩
        case measure => (simp [intOf]; try omega)

end Go.Proofs.YteigjobliflkdaaGreatDoor
