/- Walk: waypostref15.Split. -/
import Derived.Test.YteigjobliflkdaaGreatDoorR15
import Derived.Deep.DeepCutAuto
import Derived.Deep.CutBlock
namespace Go.Proofs.YteigjobliflkdaaGreatDoor
open Go.RowKit

/-- .. where there is at least one string: the slice is written out. -/
def RetStrs1 (w : World) (L : List (List UInt8)) (e : Ending) (w' : World) : Prop :=
  ∃ g cap, e = .returned (.slice (some ⟨g, 0, none⟩) L.length cap) ∧ w'.ownsRow w.heap.size 9 1 (.slice (some ⟨g, 0, none⟩) L.length cap) L.length (L.map S) ∧ Below w.heap.size w w'
theorem RetStrs.one {w : World} {L : List (List UInt8)} (hL : L ≠ []) {e : Ending} {w' : World} (h : RetStrs w L e w') : RetStrs1 w L e w' := by
  obtain ⟨v, rfl, hown, hB⟩ := h
  rcases hown.2 with ⟨_, h0⟩ | ⟨g, cap, cur, rfl, _⟩
  · exact absurd (List.length_eq_zero_iff.1 h0) hL
  · exact ⟨g, cap, rfl, hown, hB⟩
theorem own_cell {w : World} {B g n cap : Nat} {L : List (List UInt8)} (h : w.ownsRow B 9 1 (.slice (some ⟨g, 0, none⟩) n cap) n (L.map S)) (j : Nat) (hj : j < n) (hn : n = L.length) :
    w.cell? ⟨g, j, none⟩ = some (.string ⟨(L[j]?.getD []).toArray⟩) := by
  subst hn
  rw [h.cellAt j (by omega), List.getElem?_map, List.getElem?_eq_getElem hj]; rfl

/-- What Split hands back. -/
def vSplit : Except Int (List UInt8 × Int) → Value
  | .error e => .tuple #[.string ⟨#[]⟩, .int .i64 0, .int .i64 e]
  | .ok (n, p) => .tuple #[S n, .int .i64 p, .int .i64 0]
set_option maxRecDepth 100000 in
set_option maxHeartbeats 800000 in
theorem split_ref (s : ByteArray) (w : World) (hs : s.size ≤ 60000) :
    Calls Tryz.prog 27 #[.string s] w (RetV (vSplit (hostSplit s.data.toList)) w) := by
  by_cases hlong : 128 < s.size
  · go_enter Tryz.func27, Tryz.ntmps27
    go_wp2_with (fail)
    go_ret3
    exact RetV.of (f := vSplit) _ (hostSplit_long (by rw [size_len]; exact hlong)) rfl (Below.refl _ _)
  have hle : decide (128 < (s.size : Int)) = false := by simp; omega
  have hl128 : s.size ≤ 128 := by omega
  go_enter Tryz.func27, Tryz.ntmps27
  go_upto_block 0 with fail
  go_cut [5, 6] (fun nm pt wx => ∃ (t : ByteArray) (p : Int), nm = .string t ∧ pt = .int .i64 p ∧ Hid (Stage1 s.data.toList t.data.toList p) ∧ t.size ≤ s.size ∧ wx = w)
  case first =>
    go_wp2_with (fail)
    go_loop [5, 6, 7] (fun nm pt i => ∃ k : Nat, nm = .string s ∧ pt = .int .i64 80 ∧ k ≤ s.size ∧ i = .int .i64 k ∧ Hid (∀ b ∈ s.data.toList.take k, b ≠ 58)) (fun _ _ i => s.size - (intOf i).toNat)
    case atStart => exact ⟨0, rfl, rfl, Nat.zero_le _, rfl, by intro b hb; simp at hb⟩
    case round =>
      obtain ⟨k, rfl, rfl, hk, rfl, HF⟩ := hrel
      by_cases hlt : k < s.size
      · have HS := Lib.hid (sgetD s k hlt)
        by_cases hc : s[k].toNat = 58
        · have hc' : ((s[k].toNat : Int) != 58) = false := by simp; omega
          have HC := Lib.hid (cut1_at (c := 58) (by rw [size_len]; exact hlt) HF.out (by rw [HS.out]; exact UInt8.toNat_inj.1 hc))
          clear hc
          have HD := Lib.hid (show (s.data.toList.drop (k + 1)).length = s.size - k - 1 by rw [List.length_drop, size_len]; omega)
          by_cases hbad : s.size - k - 1 < 1 ∨ 5 < s.size - k - 1
          · have HE := Lib.hid (hostSplit_digs (l := s.data.toList) (by rw [size_len]; omega) (by rw [HC.out]) (by
              rw [HC.out]; unfold digsOK; rw [HD.out]
              rcases hbad with h | h
              · rw [decide_eq_false (show ¬ 1 ≤ s.size - k - 1 by omega)]; rfl
              · rw [decide_eq_false (show ¬ s.size - k - 1 ≤ 5 by omega)]; simp))
            by_cases hz : k + 1 = s.size
            · have hz' : ((k : Int) + 1 == (s.size : Int)) = true := by rw [beq_iff_eq]; omega
              clear hbad
              go_wp2_with (fail)
              go_ret3
              exact RetV.of (f := vSplit) _ HE.out rfl (Below.refl _ _)
            · have hz' : ((k : Int) + 1 == (s.size : Int)) = false := by rw [beq_eq_false_iff_ne]; omega
              have hz2 : decide (5 < (s.size : Int) - (k : Int) - 1) = true := by simp; omega
              clear hbad
              go_wp2_with (fail)
              go_ret3
              exact RetV.of (f := vSplit) _ HE.out rfl (Below.refl _ _)
          have h1 : k + 2 ≤ s.size := by omega
          have h5 : s.size ≤ k + 6 := by omega
          clear hbad
          have hz' : ((k : Int) + 1 == (s.size : Int)) = false := by rw [beq_eq_false_iff_ne]; omega
          have hz2 : decide (5 < (s.size : Int) - (k : Int) - 1) = false := by simp; omega
          go_wp2_with (fail)
          go_loop [6, 8] (fun pt i => ∃ m p : Nat, k + 1 + m ≤ s.size ∧ i = .int .i64 (k + 1 + m : Nat) ∧ pt = .int .i64 p ∧ Hid (DigAt (s.data.toList.drop (k + 1)) m p)) (fun _ i => s.size - (intOf i).toNat)
          case atStart => exact ⟨0, 0, by omega, by go_num, rfl, DigAt.start _⟩
          case round =>
            obtain ⟨m, p, hm, rfl, rfl, HA⟩ := hrel
            by_cases hlt2 : k + 1 + m < s.size
            · have hp := HA.out.bound (by omega)
              have HS2 := Lib.hid (show (s.data.toList.drop (k + 1))[m]?.getD 0 = s[k + 1 + m] by rw [List.getElem?_drop]; exact sgetD s (k + 1 + m) hlt2)
              have hc8 := s[k + 1 + m].toNat_lt
              by_cases hd : digitB s[k + 1 + m] = true
              · have HN := Lib.hid (HA.out.next (by rw [HD.out]; omega) (by rw [HS2.out]; exact hd))
                have hd1 : 48 ≤ s[k + 1 + m].toNat := by simp [digitB] at hd; omega
                have hd2 : s[k + 1 + m].toNat ≤ 57 := by simp [digitB] at hd; omega
                go_wp2_with (go_at_call 95; refine (digit_any _ _).mono ?_; rintro e w' ⟨rfl, rfl⟩)
                go_round
                case rel => exact ⟨m + 1, 10 * p + (s[k + 1 + m].toNat - 48), by omega, congrArg (Value.int .i64) (by omega), congrArg (Value.int .i64) (by omega), by have := HN.out; rw [HS2.out] at this; exact this⟩
                case measure => (simp [intOf]; try omega)
              · have hd' : digitB s[k + 1 + m] = false := by simpa using hd
                clear hd
                have HE := Lib.hid (hostSplit_digs (l := s.data.toList) (by rw [size_len]; omega) (by rw [HC.out]) (by
                  rw [HC.out]; exact DigAt.bad (m := m) (by rw [HD.out]; omega) (by rw [HS2.out]; exact hd')))
                go_wp2_with (go_at_call 95; refine (digit_any _ _).mono ?_; rintro e w' ⟨rfl, rfl⟩)
                go_ret3
                exact RetV.of (f := vSplit) _ HE.out rfl (Below.refl _ _)
            · go_wp2_with (fail)
              go_meet
              refine ⟨s.extract 0 k, p, rfl, rfl, ?_, by simp; omega, rfl⟩
              have hmm : m = (s.data.toList.drop (k + 1)).length := by rw [HD.out]; omega
              have hfin := HA.out
              rw [hmm] at hfin
              have := hfin.done (by rw [HD.out]; omega) (by rw [HD.out]; omega)
              show Stage1 _ _ _
              unfold Stage1
              rw [HC.out]
              exact ⟨by rw [Lib.extract_data]; simp, Or.inr ⟨rfl, this.1, by rw [this.2]⟩⟩
        · have hc' : ((s[k].toNat : Int) != 58) = true := by simp; omega
          have HN := Lib.hid (free_snoc (c := 58) (by rw [size_len]; exact hlt) HF.out (by rw [HS.out]; intro e; rw [e] at hc; exact hc rfl))
          clear hc
          go_wp2_with (fail)
          go_round
          case rel => exact ⟨k + 1, rfl, rfl, by omega, by go_num, HN⟩
          case measure => (simp [intOf]; try omega)
      · go_wp2_with (fail)
        go_meet
        refine ⟨s, 80, rfl, rfl, ?_, Nat.le_refl _, rfl⟩
        have := HF.out
        rw [List.take_of_length_le (by rw [size_len]; omega)] at this
        show Stage1 _ _ _
        unfold Stage1
        rw [cut1_free this]
        exact ⟨rfl, Or.inl ⟨rfl, rfl⟩⟩
  case rest =>
    obtain ⟨t, p, rfl, rfl, HG, htl, rfl⟩ := hcut
    have HR := Lib.hid (HG.out.split (by rw [size_len]; omega))
    go_wp2_with (fail)
    refine (labels_ref t _ (by omega)).mono fun e w' h => ?_
    obtain ⟨g, cap, rfl, hown, HB⟩ := h.one (segs_ne _ _)
    clear h
    have HL := Lib.hid (segs_le 46 t.data.toList)
    generalize hL : segs 46 t.data.toList = L at hown HL
    have HLL := Lib.hid hL
    clear hL
    have hLl : L.length ≤ 60000 := by have := HL.out; rw [size_len] at this; omega
    go_wp2_with (fail)
    go_loop [10] (fun i => ∃ k : Nat, k ≤ L.length ∧ i = .int .i64 k ∧ Hid ((L.take k).all labB = true)) (fun i => L.length - (intOf i).toNat)
    case atStart => exact ⟨0, Nat.zero_le _, rfl, rfl⟩
    case round =>
      obtain ⟨k, hk, rfl, HA⟩ := hrel
      by_cases hlt : k < L.length
      · have hcell := own_cell hown k hlt rfl
        have HK := Lib.hid (show L[k]?.getD [] = L[k] by rw [List.getElem?_eq_getElem hlt]; rfl)
        have HT := Lib.hid (List.take_succ_eq_append_getElem hlt)
        generalize hx : (⟨(L[k]?.getD []).toArray⟩ : ByteArray) = x at hcell
        have HX := Lib.hid (show x.data.toList = L[k] by rw [← hx, ← HK.out])
        clear hx
        have hxs : x.size ≤ 60000 := by
          have := segs_mem 46 t.data.toList L[k] (by rw [HLL.out]; exact List.getElem_mem _)
          rw [← size_len x, HX.out]; rw [size_len] at this; omega
        by_cases hb : labB x.data.toList = true
        · have HN := Lib.hid (show (L.take (k + 1)).all labB = true by rw [HT.out, List.all_append, HA.out, ← HX.out]; simp [hb])
          go_wp2_with (go_at_call 96; refine (label_ref _ _ hxs).mono ?_; rintro e w' ⟨rfl, rfl⟩)
          go_round
          case rel => exact ⟨k + 1, by omega, by go_num, HN⟩
          case measure => (simp [intOf]; try omega)
        · have hb' : labB x.data.toList = false := by simpa using hb
          clear hb
          have HE := Lib.hid (show hostSplit s.data.toList = .error 3 by
            rw [HR.out, HLL.out, if_pos (List.all_eq_false.2 ⟨L[k], List.getElem_mem _, by rw [← HX.out, hb']; simp⟩)])
          go_wp2_with (go_at_call 96; refine (label_ref _ _ hxs).mono ?_; rintro e w' ⟨rfl, rfl⟩)
          go_ret3
          exact RetV.of (f := vSplit) _ HE.out rfl HB
      · have HR2 := Lib.hid (show hostSplit s.data.toList = if 64 < t.data.toList.length then .error 4 else if p < 1 ∨ 65535 < p then .error 2 else .ok (lower t.data.toList, p) by
          have := HA.out
          rw [List.take_of_length_le (by omega)] at this
          rw [HR.out, HLL.out, this, if_neg (by simp)])
        by_cases h64 : 64 < t.size
        · have HE := Lib.hid (show hostSplit s.data.toList = .error 4 by rw [HR2.out, if_pos (by rw [size_len]; exact h64)])
          go_wp2_with (fail)
          go_ret3
          exact RetV.of (f := vSplit) _ HE.out rfl HB
        by_cases hp1 : p < 1
        · have HE := Lib.hid (show hostSplit s.data.toList = .error 2 by rw [HR2.out, if_neg (by rw [size_len]; exact h64), if_pos (Or.inl hp1)])
          go_wp2_with (fail)
          go_ret3
          exact RetV.of (f := vSplit) _ HE.out rfl HB
        have hp1' : decide (p < 1) = false := by simp; omega
        by_cases hp2 : 65535 < p
        · have HE := Lib.hid (show hostSplit s.data.toList = .error 2 by rw [HR2.out, if_neg (by rw [size_len]; exact h64), if_pos (Or.inr hp2)])
          have hp2' : decide (65535 < p) = true := by simp; omega
          go_wp2_with (fail)
          go_ret3
          exact RetV.of (f := vSplit) _ HE.out rfl HB
        have hp2' : decide (65535 < p) = false := by simp; omega
        have HE := Lib.hid (show hostSplit s.data.toList = .ok (lower t.data.toList, p) by rw [HR2.out, if_neg (by rw [size_len]; exact h64), if_neg (by omega)])
        go_wp2_with (go_at_call 97; refine (lower_ref _ _ (by omega)).mono ?_; rintro e w2 ⟨rfl, HB2⟩)
        go_ret3
        exact RetV.of (f := vSplit) _ HE.out rfl (HB.trans (HB2.mono HB.size))
end Go.Proofs.YteigjobliflkdaaGreatDoor
