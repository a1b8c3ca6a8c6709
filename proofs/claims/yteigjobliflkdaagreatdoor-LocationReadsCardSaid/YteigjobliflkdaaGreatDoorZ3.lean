/- Texts of this claim, joined in build order: R15b, R15c, S17b, R17b, R17a, A5, R02. -/
import Derived.Test.YteigjobliflkdaaGreatDoorZ1
import Derived.Deep.DeepCutAuto
import Derived.Deep.CutBlock
import Derived.Lib.ItoaLen
import Derived.Test.YteigjobliflkdaaGreatDoorZ2
import Derived.Deep.LoopGhost
import Derived.Deep.RegionLaw
/- Walk: waypostref15.Split. -/
namespace Go.Proofs.YteigjobliflkdaaGreatDoor
open Go.RowKit

/-- .. where there is at least one string: the slice is written out. -/
def RetStrs1 (w : World) (L : List (List UInt8)) (e : Ending) (w' : World) : Prop :=
  ∃ g cap, e = .returned (.slice (some ⟨g, 0, none⟩) L.length cap) ∧ w'.ownsRow w.heap.size 9 1 (.slice (some ⟨g, 0, none⟩) L.length cap) L.length (L.map S) ∧ Below w.heap.size w w'
theorem RetStrs.one {w : World} {L : List (List UInt8)} (hL : L ≠ []) {e : Ending} {w' : World} (h : RetStrs w L e w') : RetStrs1 w L e w' := by
  obtain ⟨v, rfl, hown, hB⟩ := h
  rcases hown.2 with ⟨_, h0⟩ | ⟨g, cap, cur, rfl, _⟩
  · exact absurd (List.length_eq_zero_iff.1 h0) hL
  · exact ⟨g, cap, rfl, hown, hB⟩
theorem own_cell {w : World} {B g n cap : Nat} {L : List (List UInt8)} (h : w.ownsRow B 9 1 (.slice (some ⟨g, 0, none⟩) n cap) n (L.map S)) (j : Nat) (hj : j < n) (hn : n = L.length) :
    w.cell? ⟨g, j, none⟩ = some (.string ⟨(L[j]?.getD []).toArray⟩) := by
  subst hn
  rw [h.cellAt j (by omega), List.getElem?_map, List.getElem?_eq_getElem hj]; rfl

/-- What Split hands back. -/
def vSplit : Except Int (List UInt8 × Int) → Value
  | .error e => .tuple #[.string ⟨#[]⟩, .int .i64 0, .int .i64 e]
  | .ok (n, p) => .tuple #[S n, .int .i64 p, .int .i64 0]
set_option maxRecDepth 100000 in
set_option maxHeartbeats 800000 in
theorem split_ref (s : ByteArray) (w : World) (hs : s.size ≤ 60000) :
    Calls Tryz.prog 27 #[.string s] w (RetV (vSplit (hostSplit s.data.toList)) w) := by
  by_cases hlong : 128 < s.size
  · go_enter Tryz.func27, Tryz.ntmps27
    go_wp2_with (fail)
    go_ret3
    exact RetV.of (f := vSplit) _ (hostSplit_long (by rw [size_len]; exact hlong)) rfl (Below.refl _ _)
  have hle : decide (128 < (s.size : Int)) = false := by simp; omega
  have hl128 : s.size ≤ 128 := by omega
  go_enter Tryz.func27, Tryz.ntmps27
  go_upto_block 0 with fail
  go_cut [5, 6] (fun nm pt wx => ∃ (t : ByteArray) (p : Int), nm = .string t ∧ pt = .int .i64 p ∧ Hid (Stage1 s.data.toList t.data.toList p) ∧ t.size ≤ s.size ∧ wx = w)
  case first =>
    go_wp2_with (fail)
    go_loop [5, 6, 7] (fun nm pt i => ∃ k : Nat, nm = .string s ∧ pt = .int .i64 80 ∧ k ≤ s.size ∧ i = .int .i64 k ∧ Hid (∀ b ∈ s.data.toList.take k, b ≠ 58)) (fun _ _ i => s.size - (intOf i).toNat)
    case atStart => exact ⟨0, rfl, rfl, Nat.zero_le _, rfl, by intro b hb; simp at hb⟩
    case round =>
      obtain ⟨k, rfl, rfl, hk, rfl, HF⟩ := hrel
      by_cases hlt : k < s.size
      · have HS := Lib.hid (sgetD s k hlt)
        by_cases hc : s[k].toNat = 58
        · have hc' : ((s[k].toNat : Int) != 58) = false := by simp; omega
          have HC := Lib.hid (cut1_at (c := 58) (by rw [size_len]; exact hlt) HF.out (by rw [HS.out]; exact UInt8.toNat_inj.1 hc))
          clear hc
          have HD := Lib.hid (show (s.data.toList.drop (k + 1)).length = s.size - k - 1 by rw [List.length_drop, size_len]; omega)
          by_cases hbad : s.size - k - 1 < 1 ∨ 5 < s.size - k - 1
          · have HE := Lib.hid (hostSplit_digs (l := s.data.toList) (by rw [size_len]; omega) (by rw [HC.out]) (by
              rw [HC.out]; unfold digsOK; rw [HD.out]
              rcases hbad with h | h
              · rw [decide_eq_false (show ¬ 1 ≤ s.size - k - 1 by omega)]; rfl
              · rw [decide_eq_false (show ¬ s.size - k - 1 ≤ 5 by omega)]; simp))
            by_cases hz : k + 1 = s.size
            · have hz' : ((k : Int) + 1 == (s.size : Int)) = true := by rw [beq_iff_eq]; omega
              clear hbad
              go_wp2_with (fail)
              go_ret3
              exact RetV.of (f := vSplit) _ HE.out rfl (Below.refl _ _)
            · have hz' : ((k : Int) + 1 == (s.size : Int)) = false := by rw [beq_eq_false_iff_ne]; omega
              have hz2 : decide (5 < (s.size : Int) - (k : Int) - 1) = true := by simp; omega
              clear hbad
              go_wp2_with (fail)
              go_ret3
              exact RetV.of (f := vSplit) _ HE.out rfl (Below.refl _ _)
          have h1 : k + 2 ≤ s.size := by omega
          have h5 : s.size ≤ k + 6 := by omega
          clear hbad
          have hz' : ((k : Int) + 1 == (s.size : Int)) = false := by rw [beq_eq_false_iff_ne]; omega
          have hz2 : decide (5 < (s.size : Int) - (k : Int) - 1) = false := by simp; omega
          go_wp2_with (fail)
          go_loop [6, 8] (fun pt i => ∃ m p : Nat, k + 1 + m ≤ s.size ∧ i = .int .i64 (k + 1 + m : Nat) ∧ pt = .int .i64 p ∧ Hid (DigAt (s.data.toList.drop (k + 1)) m p)) (fun _ i => s.size - (intOf i).toNat)
          case atStart => exact ⟨0, 0, by omega, by go_num, rfl, DigAt.start _⟩
          case round =>
            obtain ⟨m, p, hm, rfl, rfl, HA⟩ := hrel
            by_cases hlt2 : k + 1 + m < s.size
            · have hp := HA.out.bound (by omega)
              have HS2 := Lib.hid (show (s.data.toList.drop (k + 1))[m]?.getD 0 = s[k + 1 + m] by rw [List.getElem?_drop]; exact sgetD s (k + 1 + m) hlt2)
              have hc8 := s[k + 1 + m].toNat_lt
              by_cases hd : digitB s[k + 1 + m] = true
              · have HN := Lib.hid (HA.out.next (by rw [HD.out]; omega) (by rw [HS2.out]; exact hd))
                have hd1 : 48 ≤ s[k + 1 + m].toNat := by simp [digitB] at hd; omega
                have hd2 : s[k + 1 + m].toNat ≤ 57 := by simp [digitB] at hd; omega
                go_wp2_with (go_at_call 95; refine (digit_any _ _).mono ?_; rintro e w' ⟨rfl, rfl⟩)
                go_round
                case rel => exact ⟨m + 1, 10 * p + (s[k + 1 + m].toNat - 48), by omega, congrArg (Value.int .i64) (by omega), congrArg (Value.int .i64) (by omega), by have := HN.out; rw [HS2.out] at this; exact this⟩
                case measure => (simp [intOf]; try omega)
              · have hd' : digitB s[k + 1 + m] = false := by simpa using hd
                clear hd
                have HE := Lib.hid (hostSplit_digs (l := s.data.toList) (by rw [size_len]; omega) (by rw [HC.out]) (by
                  rw [HC.out]; exact DigAt.bad (m := m) (by rw [HD.out]; omega) (by rw [HS2.out]; exact hd')))
                go_wp2_with (go_at_call 95; refine (digit_any _ _).mono ?_; rintro e w' ⟨rfl, rfl⟩)
                go_ret3
                exact RetV.of (f := vSplit) _ HE.out rfl (Below.refl _ _)
            · go_wp2_with (fail)
              go_meet
              refine ⟨s.extract 0 k, p, rfl, rfl, ?_, by simp; omega, rfl⟩
              have hmm : m = (s.data.toList.drop (k + 1)).length := by rw [HD.out]; omega
              have hfin := HA.out
              rw [hmm] at hfin
              have := hfin.done (by rw [HD.out]; omega) (by rw [HD.out]; omega)
              show Stage1 _ _ _
              unfold Stage1
              rw [HC.out]
              exact ⟨by rw [Lib.extract_data]; simp, Or.inr ⟨rfl, this.1, by rw [this.2]⟩⟩
        · have hc' : ((s[k].toNat : Int) != 58) = true := by simp; omega
          have HN := Lib.hid (free_snoc (c := 58) (by rw [size_len]; exact hlt) HF.out (by rw [HS.out]; intro e; rw [e] at hc; exact hc rfl))
          clear hc
          go_wp2_with (fail)
          go_round
          case rel => exact ⟨k + 1, rfl, rfl, by omega, by go_num, HN⟩
          case measure => (simp [intOf]; try omega)
      · go_wp2_with (fail)
        go_meet
        refine ⟨s, 80, rfl, rfl, ?_, Nat.le_refl _, rfl⟩
        have := HF.out
        rw [List.take_of_length_le (by rw [size_len]; omega)] at this
        show Stage1 _ _ _
        unfold Stage1
        rw [cut1_free this]
        exact ⟨rfl, Or.inl ⟨rfl, rfl⟩⟩
  case rest =>
    obtain ⟨t, p, rfl, rfl, HG, htl, rfl⟩ := hcut
    have HR := Lib.hid (HG.out.split (by rw [size_len]; omega))
    go_wp2_with (fail)
    refine (labels_ref t _ (by omega)).mono fun e w' h => ?_
    obtain ⟨g, cap, rfl, hown, HB⟩ := h.one (segs_ne _ _)
    clear h
    have HL := Lib.hid (segs_le 46 t.data.toList)
    generalize hL : segs 46 t.data.toList = L at hown HL
    have HLL := Lib.hid hL
    clear hL
    have hLl : L.length ≤ 60000 := by have := HL.out; rw [size_len] at this; omega
    go_wp2_with (fail)
    go_loop [10] (fun i => ∃ k : Nat, k ≤ L.length ∧ i = .int .i64 k ∧ Hid ((L.take k).all labB = true)) (fun i => L.length - (intOf i).toNat)
    case atStart => exact ⟨0, Nat.zero_le _, rfl, rfl⟩
    case round =>
      obtain ⟨k, hk, rfl, HA⟩ := hrel
      by_cases hlt : k < L.length
      · have hcell := own_cell hown k hlt rfl
        have HK := Lib.hid (show L[k]?.getD [] = L[k] by rw [List.getElem?_eq_getElem hlt]; rfl)
        have HT := Lib.hid (List.take_succ_eq_append_getElem hlt)
        generalize hx : (⟨(L[k]?.getD []).toArray⟩ : ByteArray) = x at hcell
        have HX := Lib.hid (show x.data.toList = L[k] by rw [← hx, ← HK.out])
        clear hx
        have hxs : x.size ≤ 60000 := by
          have := segs_mem 46 t.data.toList L[k] (by rw [HLL.out]; exact List.getElem_mem _)
          rw [← size_len x, HX.out]; rw [size_len] at this; omega
        by_cases hb : labB x.data.toList = true
        · have HN := Lib.hid (show (L.take (k + 1)).all labB = true by rw [HT.out, List.all_append, HA.out, ← HX.out]; simp [hb])
          go_wp2_with (go_at_call 96; refine (label_ref _ _ hxs).mono ?_; rintro e w' ⟨rfl, rfl⟩)
          go_round
          case rel => exact ⟨k + 1, by omega, by go_num, HN⟩
          case measure => (simp [intOf]; try omega)
        · have hb' : labB x.data.toList = false := by simpa using hb
          clear hb
          have HE := Lib.hid (show hostSplit s.data.toList = .error 3 by
            rw [HR.out, HLL.out, if_pos (List.all_eq_false.2 ⟨L[k], List.getElem_mem _, by rw [← HX.out, hb']; simp⟩)])
          go_wp2_with (go_at_call 96; refine (label_ref _ _ hxs).mono ?_; rintro e w' ⟨rfl, rfl⟩)
          go_ret3
          exact RetV.of (f := vSplit) _ HE.out rfl HB
      · have HR2 := Lib.hid (show hostSplit s.data.toList = if 64 < t.data.toList.length then .error 4 else if p < 1 ∨ 65535 < p then .error 2 else .ok (lower t.data.toList, p) by
          have := HA.out
          rw [List.take_of_length_le (by omega)] at this
          rw [HR.out, HLL.out, this, if_neg (by simp)])
        by_cases h64 : 64 < t.size
        · have HE := Lib.hid (show hostSplit s.data.toList = .error 4 by rw [HR2.out, if_pos (by rw [size_len]; exact h64)])
          go_wp2_with (fail)
          go_ret3
          exact RetV.of (f := vSplit) _ HE.out rfl HB
        by_cases hp1 : p < 1
        · have HE := Lib.hid (show hostSplit s.data.toList = .error 2 by rw [HR2.out, if_neg (by rw [size_len]; exact h64), if_pos (Or.inl hp1)])
          go_wp2_with (fail)
          go_ret3
          exact RetV.of (f := vSplit) _ HE.out rfl HB
        have hp1' : decide (p < 1) = false := by simp; omega
        by_cases hp2 : 65535 < p
        · have HE := Lib.hid (show hostSplit s.data.toList = .error 2 by rw [HR2.out, if_neg (by rw [size_len]; exact h64), if_pos (Or.inr hp2)])
          have hp2' : decide (65535 < p) = true := by simp; omega
          go_wp2_with (fail)
          go_ret3
          exact RetV.of (f := vSplit) _ HE.out rfl HB
        have hp2' : decide (65535 < p) = false := by simp; omega
        have HE := Lib.hid (show hostSplit s.data.toList = .ok (lower t.data.toList, p) by rw [HR2.out, if_neg (by rw [size_len]; exact h64), if_neg (by omega)])
        go_wp2_with (go_at_call 97; refine (lower_ref _ _ (by omega)).mono ?_; rintro e w2 ⟨rfl, HB2⟩)
        go_ret3
        exact RetV.of (f := vSplit) _ HE.out rfl (HB.trans (HB2.mono HB.size))
end Go.Proofs.YteigjobliflkdaaGreatDoor
/- Walks: waypostref15's Normal, Is, Same, Labels. -/
namespace Go.Proofs.YteigjobliflkdaaGreatDoor
open Go.RowKit

/-- A string, or an error. -/
def vStr : Except Int (List UInt8) → Value
  | .error e => .tuple #[.string ⟨#[]⟩, .int .i64 e]
  | .ok n => .tuple #[S n, .int .i64 0]

theorem strOk {f : Nat} {args : Array Value} {w : World} {x : Except Int (List UInt8)} {n : List UInt8} (H : Calls Tryz.prog f args w (RetV (vStr x) w)) (h : x = .ok n) :
    Calls Tryz.prog f args w fun e w' => e = .returned (.tuple #[.string ⟨n.toArray⟩, .int .i64 0]) ∧ Below w.heap.size w w' := by subst h; exact H
theorem strErr {f : Nat} {args : Array Value} {w : World} {x : Except Int (List UInt8)} {e : Int} (H : Calls Tryz.prog f args w (RetV (vStr x) w)) (h : x = .error e) :
    Calls Tryz.prog f args w fun e' w' => e' = .returned (.tuple #[.string ⟨#[]⟩, .int .i64 e]) ∧ Below w.heap.size w w' := by subst h; exact H
/-- Split's contract, at a function's number. -/
def SplitC (f : Nat) : Prop := ∀ (s : ByteArray) (w : World), s.size ≤ 60000 → Calls Tryz.prog f #[.string s] w (RetV (vSplit (hostSplit s.data.toList)) w)
theorem SplitC.ok {f : Nat} (H : SplitC f) {s : ByteArray} {n : List UInt8} {p : Int} (h : hostSplit s.data.toList = .ok (n, p)) (hs : s.size ≤ 60000) (w : World) :
    Calls Tryz.prog f #[.string s] w fun e w' => e = .returned (.tuple #[.string ⟨n.toArray⟩, .int .i64 p, .int .i64 0]) ∧ Below w.heap.size w w' := by
  have := H s w hs; rw [h] at this; exact this
theorem SplitC.err {f : Nat} (H : SplitC f) {s : ByteArray} {x : Int} (h : hostSplit s.data.toList = .error x) (hs : s.size ≤ 60000) (w : World) :
    Calls Tryz.prog f #[.string s] w fun e w' => e = .returned (.tuple #[.string ⟨#[]⟩, .int .i64 0, .int .i64 x]) ∧ Below w.heap.size w w' := by
  have := H s w hs; rw [h] at this; exact this
theorem split_refC : SplitC 27 := split_ref
theorem err_ne {l : List UInt8} {e : Int} (h : hostSplit l = .error e) : (e != 0) = true ∧ (e == 0) = false := by
  rcases hostSplit_err h with rfl | rfl | rfl <;> decide

/-- m is still to be written before O. -/
def DecAt (n m : Nat) (O : List UInt8) : Prop := Lib.decDigits n = (if m = 0 then [] else Lib.decDigits m) ++ O
theorem DecAt.next {n m : Nat} {O : List UInt8} (h : DecAt n m O) (hm : 0 < m) : DecAt n (m / 10) (UInt8.ofNat (48 + m % 10) :: O) := by
  unfold DecAt at h ⊢
  rw [h, if_neg (by omega)]
  by_cases h10 : m < 10
  · rw [if_pos (by omega), Lib.decDigits_one h10, Nat.mod_eq_of_lt h10]; rfl
  · rw [if_neg (by omega)]
    conv => lhs; rw [Lib.decDigits, dif_neg h10]
    simp

set_option maxRecDepth 100000 in
set_option maxHeartbeats 800000 in
theorem decimal_ref (n : Nat) (w : World) (h1 : 1 ≤ n) (h2 : n ≤ 65535) :
    Calls Tryz.prog 140 #[.int .i64 n] w fun e w' => e = .returned (.string ⟨(Lib.itoa n).toArray⟩) ∧ Below w.heap.size w w' := by
  have HI := Lib.hid (Lib.itoa_nonneg n)
  go_enter Tryz.func140, Tryz.ntmps140
  go_wp2_with (fail)
  go_loopw [0, 3] (fun i o wr => ∃ (m : Nat) (t : ByteArray), m ≤ 65535 ∧ t.size + m ≤ 65535 ∧ i = .int .i64 m ∧ o = .string t ∧ Hid (DecAt n m t.data.toList) ∧ Below w.heap.size w wr) (fun i _ _ => (intOf i).toNat)
  case atStart => exact ⟨n, ⟨#[]⟩, by omega, by show 0 + n ≤ 65535; omega, rfl, rfl, by show DecAt _ _ _; unfold DecAt; rw [if_neg (by omega)]; simp, Below.refl _ _⟩
  case round =>
    obtain ⟨m, t, hm, ht, rfl, rfl, HD, HB⟩ := hrel
    by_cases hpos : 0 < m
    · have hcv := conv_one wr (48 + (m : Int) % 10) (by omega) (by omega)
      have HN := Lib.hid (HD.out.next hpos)
      go_wp2_with (fail)
      go_roundw
      case rel => exact ⟨m / 10, ⟨#[48 + UInt8.ofNat (m % 10)]⟩ ++ t, by omega, by rw [ByteArray.size_append]; show 1 + t.size + m / 10 ≤ 65535; omega, congrArg (Value.int .i64) (by omega), rfl, by
        have h := HN.out
        show DecAt _ _ _
        rw [show (48 : UInt8) + UInt8.ofNat (m % 10) = UInt8.ofNat (48 + m % 10) by rw [UInt8.ofNat_add]; rfl]
        simpa using h, HB.alloc HB.size _⟩
      case measure => (simp [intOf]; try omega)
    · go_wp2_with (fail)
      go_ret
      have := HD.out
      unfold DecAt at this
      rw [if_pos (by omega)] at this
      exact ⟨ret_str (by rw [HI.out, this]; simp), HB⟩
theorem itoa_len (n : Nat) (h : n ≤ 65535) : (Lib.itoa n).length ≤ 21 := Lib.itoa_length_le n (by omega) (by omega)
theorem bs_ext {a b : ByteArray} (h : a.data.toList = b.data.toList) : a = b := by
  have := Array.toList_inj.1 h
  cases a; cases b; simp_all
theorem tup2 {a a' b b' : Value} (h1 : a = a') (h2 : b = b') : Value.tuple #[a, b] = .tuple #[a', b'] := by rw [h1, h2]
theorem tup3 {a a' b b' c c' : Value} (h1 : a = a') (h2 : b = b') (h3 : c = c') : Value.tuple #[a, b, c] = .tuple #[a', b', c'] := by rw [h1, h2, h3]
theorem size_mk (l : List UInt8) : (⟨l.toArray⟩ : ByteArray).size = l.length := by simp [ByteArray.size]

set_option maxRecDepth 100000 in
set_option maxHeartbeats 800000 in
theorem written_ref (s : ByteArray) (p : Int) (w : World) (hs : s.size ≤ 60000) (h1 : 1 ≤ p) (h2 : p ≤ 65535) :
    Calls Tryz.prog 99 #[.string s, .int .i64 p] w (RetV (vStr (hostWritten s.data.toList p)) w) := by
  obtain ⟨n, rfl⟩ := Int.eq_ofNat_of_zero_le (show 0 ≤ p by omega)
  by_cases h80 : (n : Int) = 80
  · have hb : ((n : Int) != 80) = false := by simp; omega
    by_cases h64 : 64 < s.size
    · have HE := Lib.hid (show hostWritten s.data.toList n = .error 4 by unfold hostWritten hostWrite; rw [if_pos h80, if_pos (by rw [size_len]; exact h64)])
      clear h80
      go_enter Tryz.func99, Tryz.ntmps99
      go_wp2_with fail
      go_ret2
      exact RetV.of (f := vStr) _ HE.out rfl (Below.refl _ _)
    · have HE := Lib.hid (show hostWritten s.data.toList n = .ok s.data.toList by unfold hostWritten hostWrite; rw [if_pos h80, if_neg (by rw [size_len]; exact h64)])
      clear h80
      go_enter Tryz.func99, Tryz.ntmps99
      go_wp2_with fail
      go_ret2
      exact RetV.of (f := vStr) _ HE.out rfl (Below.refl _ _)
  · have hb : ((n : Int) != 80) = true := by simp; omega
    have HW := Lib.hid (show hostWrite s.data.toList n = s.data.toList ++ 58 :: Lib.itoa n by unfold hostWrite; rw [if_neg h80])
    have hil := itoa_len n (by omega)
    clear h80
    by_cases h64 : 64 < s.size + 1 + (Lib.itoa (n : Int)).length
    · have HE := Lib.hid (show hostWritten s.data.toList n = .error 4 by unfold hostWritten; rw [HW.out, if_pos (by simp; omega)])
      go_enter Tryz.func99, Tryz.ntmps99
      go_wp2_with (go_at_call 140; refine (decimal_ref _ _ (by omega) (by omega)).mono ?_; rintro e w1 ⟨rfl, HB⟩)
      go_ret2
      exact RetV.of (f := vStr) _ HE.out rfl HB
    · have HE := Lib.hid (show hostWritten s.data.toList n = .ok (s.data.toList ++ 58 :: Lib.itoa n) by unfold hostWritten; rw [HW.out, if_neg (by simp; omega)])
      go_enter Tryz.func99, Tryz.ntmps99
      go_wp2_with (go_at_call 140; refine (decimal_ref _ _ (by omega) (by omega)).mono ?_; rintro e w1 ⟨rfl, HB⟩)
      go_ret2
      exact RetV.of (f := vStr) _ HE.out (tup2 (congrArg Value.string (bs_ext (by simp [ByteArray.data_append]))) rfl) HB

theorem WrittenNormal {l n : List UInt8} {p : Int} (h : hostSplit l = .ok (n, p)) : hostNormal l = hostWritten n p := by unfold hostNormal; rw [h]
theorem written_ref' {n : List UInt8} {p : Int} (w : World) (hs : n.length ≤ 60000) (h1 : 1 ≤ p) (h2 : p ≤ 65535) :
    Calls Tryz.prog 99 #[.string ⟨n.toArray⟩, .int .i64 p] w (RetV (vStr (hostWritten n p)) w) := by
  have := written_ref ⟨n.toArray⟩ p w (by rw [size_mk]; exact hs) h1 h2
  simpa using this

set_option maxRecDepth 100000 in
set_option maxHeartbeats 800000 in
theorem normal_ref (s : ByteArray) (w : World) (hs : s.size ≤ 60000) :
    Calls Tryz.prog 29 #[.string s] w (RetV (vStr (hostNormal s.data.toList)) w) := by
  cases hh : hostSplit s.data.toList with
  | error x =>
    have hx := (err_ne hh).1
    have HE := Lib.hid (show hostNormal s.data.toList = .error x by unfold hostNormal; rw [hh])
    have HH := Lib.hid hh
    clear hh
    go_enter Tryz.func29, Tryz.ntmps29
    go_wp2_with (go_at_call 27; refine (split_refC.err HH.out hs _).mono ?_; rintro e w1 ⟨rfl, HB⟩)
    go_ret2
    exact RetV.of (f := vStr) _ HE.out rfl HB
  | ok r =>
    obtain ⟨n, p⟩ := r
    have hk := hostSplit_ok hh
    have HN := Lib.hid (WrittenNormal hh)
    have HH := Lib.hid hh
    obtain ⟨hp1, hp2, hn1, hn2, hn3⟩ := hk
    clear hh hn3
    rw [HN.out]
    cases hw : hostWritten n p with
    | error x =>
      have HW := Lib.hid hw
      clear hw
      go_enter Tryz.func29, Tryz.ntmps29
      go_wp2_with (first | (go_at_call 27; refine (split_refC.ok HH.out hs _).mono ?_; rintro e w1 ⟨rfl, HB⟩) | (go_at_call 99; refine (strErr (written_ref' _ (by omega) hp1 hp2) HW.out).mono ?_; rintro e w2 ⟨rfl, HB2⟩))
      go_ret2
      exact RetV.mk rfl (HB.trans (HB2.mono HB.size))
    | ok m =>
      have HW := Lib.hid hw
      clear hw
      go_enter Tryz.func29, Tryz.ntmps29
      go_wp2_with (first | (go_at_call 27; refine (split_refC.ok HH.out hs _).mono ?_; rintro e w1 ⟨rfl, HB⟩) | (go_at_call 99; refine (strOk (written_ref' _ (by omega) hp1 hp2) HW.out).mono ?_; rintro e w2 ⟨rfl, HB2⟩))
      go_ret2
      exact RetV.mk rfl (HB.trans (HB2.mono HB.size))

/-- Normal's contract, at a function's number. -/
def NormalC (f : Nat) : Prop := ∀ (s : ByteArray) (w : World), s.size ≤ 60000 → Calls Tryz.prog f #[.string s] w (RetV (vStr (hostNormal s.data.toList)) w)
theorem normal_refC : NormalC 29 := normal_ref
theorem hostNormal_err {l : List UInt8} {e : Int} (h : hostNormal l = .error e) : e = 2 ∨ e = 3 ∨ e = 4 := by
  unfold hostNormal at h
  split at h
  · rename_i x hx; injection h with h; subst h; exact hostSplit_err hx
  · unfold hostWritten at h; split at h
    · injection h with h; subst h; simp
    · cases h
theorem errn_ne {l : List UInt8} {e : Int} (h : hostNormal l = .error e) : (e != 0) = true ∧ (e == 0) = false := by
  rcases hostNormal_err h with rfl | rfl | rfl <;> decide

theorem is_ref (s : ByteArray) (w : World) (hs : s.size ≤ 60000) :
    Calls Tryz.prog 31 #[.string s] w (RetV (.bool (hostIs s.data.toList)) w) := by
  cases hh : hostNormal s.data.toList with
  | error x =>
    have hx := (errn_ne hh).2
    have HE := Lib.hid (show hostIs s.data.toList = false by unfold hostIs; rw [hh])
    have HH := Lib.hid hh
    clear hh
    go_enter Tryz.func31, Tryz.ntmps31
    go_wp2_with (go_at_call 29; refine (strErr (normal_ref s _ hs) HH.out).mono ?_; rintro e w1 ⟨rfl, HB⟩)
    go_ret
    exact RetV.of (f := Value.bool) _ HE.out rfl HB
  | ok n =>
    have HE := Lib.hid (show hostIs s.data.toList = (n == s.data.toList) by unfold hostIs; rw [hh])
    have HH := Lib.hid hh
    have HT := Lib.hid (Lib.toList_data s)
    have HT2 := Lib.hid (Lib.toList_data ⟨n.toArray⟩)
    clear hh
    go_enter Tryz.func31, Tryz.ntmps31
    go_wp2_with (go_at_call 29; refine (strOk (normal_ref s _ hs) HH.out).mono ?_; rintro e w1 ⟨rfl, HB⟩)
    go_ret
    exact RetV.of (f := Value.bool) _ HE.out (congrArg (fun l => Value.bool (n == l)) (Lib.toList_data s)) HB

/-- A bool and an error. -/
def vBool (r : Bool × Int) : Value := .tuple #[.bool r.1, .int .i64 r.2]

set_option maxRecDepth 100000 in
theorem same_ref (s t : ByteArray) (w : World) (hs : s.size ≤ 60000) (ht : t.size ≤ 60000) :
    Calls Tryz.prog 21 #[.string s, .string t] w (RetV (vBool (hostSame s.data.toList t.data.toList)) w) := by
  cases hh : hostSplit s.data.toList with
  | error x =>
    have hx := (err_ne hh).1
    have HE := Lib.hid (show hostSame s.data.toList t.data.toList = (false, x) by unfold hostSame; rw [hh])
    have HH := Lib.hid hh
    clear hh
    go_enter Tryz.func21, Tryz.ntmps21
    go_wp2_with (go_at_call 27; refine (split_refC.err HH.out hs _).mono ?_; rintro e w1 ⟨rfl, HB⟩)
    go_ret2
    exact RetV.of (f := vBool) _ HE.out rfl HB
  | ok r =>
    obtain ⟨n, p⟩ := r
    have HH := Lib.hid hh
    cases hg : hostSplit t.data.toList with
    | error x =>
      have hx := (err_ne hg).2
      have HE := Lib.hid (show hostSame s.data.toList t.data.toList = (false, x) by unfold hostSame; rw [hh, hg])
      have HG := Lib.hid hg
      clear hh hg
      go_enter Tryz.func21, Tryz.ntmps21
      go_wp2_with fail
      refine (split_refC.ok HH.out hs _).mono ?_
      rintro e w1 ⟨rfl, HB⟩
      go_wp2_with fail
      refine (split_refC.err HG.out ht _).mono ?_
      rintro e w2 ⟨rfl, HB2⟩
      go_wp2_with fail
      go_ret2
      exact RetV.of (f := vBool) _ HE.out rfl (HB.trans (HB2.mono HB.size))
    | ok r =>
      obtain ⟨m, q⟩ := r
      have HE := Lib.hid (show hostSame s.data.toList t.data.toList = (n == m && p == q, 0) by unfold hostSame; rw [hh, hg])
      have HG := Lib.hid hg
      clear hh hg
      go_enter Tryz.func21, Tryz.ntmps21
      go_wp2_with fail
      refine (split_refC.ok HH.out hs _).mono ?_
      rintro e w1 ⟨rfl, HB⟩
      go_wp2_with fail
      refine (split_refC.ok HG.out ht _).mono ?_
      rintro e w2 ⟨rfl, HB2⟩
      go_wp2_with fail
      · have e : n = m := by assumption
        go_ret2
        exact RetV.of (f := vBool) _ HE.out (tup2 (congrArg Value.bool (show (p == q) = (n == m && p == q) by rw [e]; simp)) rfl) (HB.trans (HB2.mono HB.size))
      · have e : ¬ n = m := by assumption
        go_ret2
        exact RetV.of (f := vBool) _ HE.out (tup2 (congrArg Value.bool (show false = (n == m && p == q) by rw [beq_eq_false_iff_ne.2 e]; rfl)) rfl) (HB.trans (HB2.mono HB.size))

/-- A slice of strings and an error. -/
def RetLabels (r : Except Int (List (List UInt8))) (w : World) (e : Ending) (w' : World) : Prop :=
  match r with
  | .error x => e = .returned (.tuple #[.slice none 0 0, .int .i64 x]) ∧ Below w.heap.size w w'
  | .ok L => ∃ g cap, e = .returned (.tuple #[.slice (some ⟨g, 0, none⟩) L.length cap, .int .i64 0]) ∧ w'.ownsRow w.heap.size 9 1 (.slice (some ⟨g, 0, none⟩) L.length cap) L.length (L.map S) ∧ Below w.heap.size w w'

theorem own_mono {w : World} {B B' e size : Nat} {v : Value} {n : Nat} {xs : List Value} (h : w.ownsRow B e size v n xs) (hB : B' ≤ B) : w.ownsRow B' e size v n xs := by
  obtain ⟨h1, h2 | ⟨g, cap, cur, a, b, c⟩⟩ := h
  · exact ⟨h1, Or.inl h2⟩
  · exact ⟨h1, Or.inr ⟨g, cap, cur, a, Nat.le_trans hB b, c⟩⟩

set_option maxRecDepth 100000 in
theorem labels_refL (s : ByteArray) (w : World) (hs : s.size ≤ 60000) :
    Calls Tryz.prog 33 #[.string s] w (RetLabels (hostLabels s.data.toList) w) := by
  cases hh : hostSplit s.data.toList with
  | error x =>
    have hx := (err_ne hh).1
    rw [show hostLabels s.data.toList = .error x by unfold hostLabels; rw [hh]]
    have HH := Lib.hid hh
    clear hh
    unfold RetLabels
    go_enter Tryz.func33, Tryz.ntmps33
    go_wp2_with (go_at_call 27; refine (split_refC.err HH.out hs _).mono ?_; rintro e w1 ⟨rfl, HB⟩)
    go_ret2
    exact ⟨rfl, HB⟩
  | ok r =>
    obtain ⟨n, p⟩ := r
    rw [show hostLabels s.data.toList = .ok (segs 46 n) by unfold hostLabels; rw [hh]]
    have hn : n.length ≤ 64 := (hostSplit_ok hh).2.2.1
    have HH := Lib.hid hh
    clear hh
    unfold RetLabels
    go_enter Tryz.func33, Tryz.ntmps33
    go_wp2_with fail
    refine (split_refC.ok HH.out hs _).mono ?_
    rintro e w1 ⟨rfl, HB⟩
    go_wp2_with fail
    refine (labels_ref _ _ (by rw [size_mk]; omega)).mono fun e w' h => ?_
    obtain ⟨g, cap, rfl, hown, HB2⟩ := h.one (segs_ne _ _)
    clear h
    go_wp2_with fail
    go_ret2
    exact ⟨g, cap, rfl, own_mono hown HB.size, HB.trans (HB2.mono HB.size)⟩
end Go.Proofs.YteigjobliflkdaaGreatDoor
/- Plain: reading escapes from an offset on. No program stands here. -/
namespace Go.Proofs.YteigjobliflkdaaGreatDoor
open Go

theorem pctDecF_any : ∀ (f g : Nat) (l : List UInt8), l.length ≤ f → l.length ≤ g → pctDecF f l = pctDecF g l
  | 0, g, l, hf, _ => by
    have : l = [] := List.length_eq_zero_iff.1 (by omega)
    subst this
    cases g <;> simp [pctDecF]
  | f + 1, g, [], _, _ => by cases g <;> simp [pctDecF]
  | f + 1, g, b :: r, hf, hg => by
    cases g with
    | zero => simp at hg
    | succ g =>
      simp only [List.length_cons] at hf hg
      simp only [pctDecF]
      rw [pctDecF_any f g (r.drop 2) (by simp; omega) (by simp; omega), pctDecF_any f g r (by omega) (by omega)]
theorem pctDec_cons (b : UInt8) (r : List UInt8) : pctDec (b :: r) = if escB (b :: r) then (pctDec (r.drop 2)).map (escV (b :: r) :: ·) else if b = 37 then none else (pctDec r).map (b :: ·) := by
  unfold pctDec
  simp only [List.length_cons, pctDecF]
  rw [pctDecF_any r.length (r.drop 2).length (r.drop 2) (by simp) (Nat.le_refl _)]
theorem escB_len {l : List UInt8} (h : escB l = true) : 3 ≤ l.length := by
  match l, h with
  | [], h => simp [escB] at h
  | [_], h => simp [escB] at h
  | [_, _], h => simp [escB] at h
  | _ :: _ :: _ :: _, _ => simp
theorem escB_drop (l : List UInt8) (i : Nat) : escB (l.drop i) = (decide (i + 2 < l.length) && (l[i]?.getD 0 == 37) && decide (0 ≤ hexV (l[i+1]?.getD 0)) && decide (0 ≤ hexV (l[i+2]?.getD 0))) := by
  by_cases h : i + 2 < l.length
  · rw [List.drop_eq_getElem_cons (by omega), List.drop_eq_getElem_cons (i := i + 1) (by omega), List.drop_eq_getElem_cons (i := i + 2) (by omega)]
    rw [List.getElem?_eq_getElem (show i < l.length by omega), List.getElem?_eq_getElem (show i + 1 < l.length by omega), List.getElem?_eq_getElem h]
    simp [escB, h]
  · rw [decide_eq_false h]
    simp only [Bool.false_and]
    cases he : escB (l.drop i)
    · rfl
    · have := escB_len he
      simp at this; omega
theorem escV_drop (l : List UInt8) (i : Nat) (h : i + 2 < l.length) : escV (l.drop i) = UInt8.ofNat (16 * (hexV (l[i+1]?.getD 0)).toNat + (hexV (l[i+2]?.getD 0)).toNat) := by
  rw [List.drop_eq_getElem_cons (by omega), List.drop_eq_getElem_cons (i := i + 1) (by omega), List.drop_eq_getElem_cons (i := i + 2) (by omega)]
  rw [List.getElem?_eq_getElem (show i + 1 < l.length by omega), List.getElem?_eq_getElem h]
  rfl
theorem hexV_bd (b : UInt8) : -1 ≤ hexV b ∧ hexV b ≤ 15 := by
  have := b.toNat_lt
  unfold hexV
  split
  · omega
  · split
    · omega
    · split <;> omega
/-- The first i bytes say o; the rest is still to be read. -/
def DecodeAt (l : List UInt8) (i : Nat) (o : List UInt8) : Prop := i ≤ l.length ∧ o.length ≤ i ∧ pctDec l = (pctDec (l.drop i)).map (o ++ ·)
theorem DecodeAt.start (l : List UInt8) : DecodeAt l 0 [] := ⟨Nat.zero_le _, Nat.le_refl _, by simp⟩
theorem DecodeAt.esc {l : List UInt8} {i : Nat} {o : List UInt8} (h : DecodeAt l i o) (hi : i < l.length) (he : escB (l.drop i) = true) : DecodeAt l (i + 3) (o ++ [escV (l.drop i)]) := by
  obtain ⟨h0, h1, h2⟩ := h
  have hl := escB_len he
  simp at hl
  refine ⟨by omega, by simp; omega, ?_⟩
  rw [h2]
  have hd : l.drop i = l[i] :: l.drop (i + 1) := List.drop_eq_getElem_cons hi
  conv => lhs; rw [hd]
  rw [pctDec_cons, ← hd, if_pos he, List.drop_drop, show i + 1 + 2 = i + 3 by omega]
  cases pctDec (l.drop (i + 3)) <;> simp
theorem DecodeAt.bad {l : List UInt8} {i : Nat} {o : List UInt8} (h : DecodeAt l i o) (hi : i < l.length) (he : escB (l.drop i) = false) (hb : l[i]?.getD 0 = 37) : pctDec l = none := by
  obtain ⟨h0, h1, h2⟩ := h
  rw [h2]
  have hd : l.drop i = l[i] :: l.drop (i + 1) := List.drop_eq_getElem_cons hi
  rw [List.getElem?_eq_getElem hi] at hb
  have hb : l[i] = 37 := hb
  conv => lhs; rw [hd]
  rw [pctDec_cons, ← hd, he, if_neg (by decide), if_pos hb]
  rfl
theorem DecodeAt.lit {l : List UInt8} {i : Nat} {o : List UInt8} (h : DecodeAt l i o) (hi : i < l.length) (he : escB (l.drop i) = false) (hb : l[i]?.getD 0 ≠ 37) : DecodeAt l (i + 1) (o ++ [l[i]?.getD 0]) := by
  obtain ⟨h0, h1, h2⟩ := h
  refine ⟨hi, by simp; omega, ?_⟩
  rw [h2]
  have hd : l.drop i = l[i] :: l.drop (i + 1) := List.drop_eq_getElem_cons hi
  rw [List.getElem?_eq_getElem hi] at hb ⊢
  have hb : l[i] ≠ 37 := hb
  conv => lhs; rw [hd]
  rw [pctDec_cons, ← hd, he, if_neg (by decide), if_neg hb]
  cases pctDec (l.drop (i + 1)) <;> simp
theorem DecodeAt.fin {l : List UInt8} {i : Nat} {o : List UInt8} (h : DecodeAt l i o) (hi : l.length ≤ i) : pctDec l = some o := by
  obtain ⟨h0, h1, h2⟩ := h
  rw [h2, List.drop_of_length_le hi]
  simp [pctDec, pctDecF]
theorem pctEnc_snoc (P : Nat → Bool) (l : List UInt8) (b : UInt8) : pctEnc P (l ++ [b]) = pctEnc P l ++ pctB P b := by simp [pctEnc]
theorem pctB_le (P : Nat → Bool) (b : UInt8) : (pctB P b).length ≤ 3 := by unfold pctB; split <;> simp
theorem pctEnc_le (P : Nat → Bool) (l : List UInt8) : (pctEnc P l).length ≤ 3 * l.length := by
  induction l with
  | nil => simp [pctEnc]
  | cons b l ih =>
    have := pctB_le P b
    rw [show pctEnc P (b :: l) = pctB P b ++ pctEnc P l from rfl]
    simp; omega
end Go.Proofs.YteigjobliflkdaaGreatDoor
/- Walks: waypostref17 (Query, Safe, find), waypostref18 (ends). -/
namespace Go.Proofs.YteigjobliflkdaaGreatDoor
open Go.RowKit

theorem charN_yes {n : Nat} (h : charN n = true) : 33 ≤ n ∧ n ≤ 126 ∧ n ≠ 35 := by
  simp only [charN, Bool.and_eq_true, decide_eq_true_eq, Bool.not_eq_true', decide_eq_false_iff_not] at h; omega
theorem charN_no {n : Nat} (h : charN n = false) : n < 33 ∨ (33 ≤ n ∧ 126 < n) ∨ (33 ≤ n ∧ n ≤ 126 ∧ n = 35) := by
  have h : ¬ charN n = true := by rw [h]; decide
  simp only [charN, Bool.and_eq_true, decide_eq_true_eq, Bool.not_eq_true', decide_eq_false_iff_not] at h; omega
theorem all_snoc {p : UInt8 → Bool} (s : ByteArray) (k : Nat) (h : k < s.size) (ha : (s.data.toList.take k).all p = true) (hp : p s[k] = true) : (s.data.toList.take (k + 1)).all p = true := by
  rw [take_snoc s k h, List.all_append, ha]; simp [hp]
theorem all_bad {p : UInt8 → Bool} (s : ByteArray) (k : Nat) (h : k < s.size) (hp : p s[k] = false) : s.data.toList.all p = false := by
  rw [List.all_eq_false]
  refine ⟨s[k], ?_, by rw [hp]; decide⟩
  rw [← sgetD s k h, List.getElem?_eq_getElem (by rw [size_len]; exact h)]
  exact List.getElem_mem _
theorem all_end {p : UInt8 → Bool} (s : ByteArray) (k : Nat) (h : s.size ≤ k) (ha : (s.data.toList.take k).all p = true) : s.data.toList.all p = true := by
  rw [List.take_of_length_le (by rw [size_len]; exact h)] at ha; exact ha

set_option maxRecDepth 100000 in
theorem query_ref (s : ByteArray) (w : World) (hs : s.size ≤ 60000) :
    Calls Tryz.prog 64 #[.string s] w fun e w' => e = .returned (vBool (locQuery s.data.toList)) ∧ w = w' := by
  by_cases h1 : 128 < s.size
  · have HF := Lib.hid (show locQuery s.data.toList = (false, 4) by unfold locQuery; rw [if_pos (by rw [size_len]; exact h1)])
    have d1 : decide ((128 : Int) < (s.size : Int)) = true := by simp; omega
    go_enter Tryz.func64, Tryz.ntmps64
    go_wp2_with fail
    go_ret2
    exact ⟨by rw [HF.out]; rfl, rfl⟩
  · have d1 : decide ((128 : Int) < (s.size : Int)) = false := by simp; omega
    have HF := Lib.hid (show locQuery s.data.toList = (qryB s.data.toList, 0) by unfold locQuery; rw [if_neg (by rw [size_len]; exact h1)])
    go_enter Tryz.func64, Tryz.ntmps64
    go_wp2_with fail
    go_loop [4] (fun i => ∃ k : Nat, k ≤ s.size ∧ i = .int .i64 k ∧ Hid ((s.data.toList.take k).all (fun b => charN b.toNat) = true)) (fun i => s.size - (intOf i).toNat)
    case atStart => exact ⟨0, Nat.zero_le _, rfl, rfl⟩
    case round =>
      obtain ⟨k, hk, rfl, HA⟩ := hrel
      by_cases hlt : k < s.size
      · cases hc : charN s[k].toNat with
        | true =>
          have HN := Lib.hid (all_snoc (p := fun b => charN b.toNat) s k hlt HA.out hc)
          obtain ⟨c1, c2, c3⟩ := charN_yes hc
          have c4 : ((s[k].toNat : Int) == 35) = false := by simp; omega
          clear hc c3
          go_wp2_with fail
          go_round
          case rel => exact ⟨k + 1, by omega, by go_num, HN⟩
          case measure => simp [intOf]; omega
        | false =>
          have HN := Lib.hid (all_bad (p := fun b => charN b.toNat) s k hlt hc)
          rcases charN_no hc with c1 | ⟨c1, c2⟩ | ⟨c1, c2, c3⟩
          · clear hc
            go_wp2_with fail
            go_ret2
            exact ⟨by rw [HF.out, qryB, HN.out]; rfl, rfl⟩
          · clear hc
            go_wp2_with fail
            go_ret2
            exact ⟨by rw [HF.out, qryB, HN.out]; rfl, rfl⟩
          · have c4 : ((s[k].toNat : Int) == 35) = true := by simp; omega
            clear hc c3
            go_wp2_with fail
            go_ret2
            exact ⟨by rw [HF.out, qryB, HN.out]; rfl, rfl⟩
      · have d2 : decide ((k : Int) < (s.size : Int)) = false := by simp; omega
        have HN := Lib.hid (all_end (p := fun b => charN b.toNat) s k (by omega) HA.out)
        go_wp2_with fail
        go_ret2
        exact ⟨by rw [HF.out, qryB, HN.out]; rfl, rfl⟩

def safe1 (b : UInt8) : Bool := !(b == 0 || b == 10 || b == 13)
theorem safe1_no {b : UInt8} (h : safe1 b = false) : b.toNat = 0 ∨ (b.toNat ≠ 0 ∧ b.toNat = 10) ∨ (b.toNat ≠ 0 ∧ b.toNat ≠ 10 ∧ b.toNat = 13) := by
  unfold safe1 at h
  have e0 : (b == 0) = decide (b.toNat = 0) := by rw [Bool.eq_iff_iff, beq_iff_eq, decide_eq_true_eq]; exact ⟨fun e => by rw [e]; rfl, fun e => UInt8.toNat_inj.1 e⟩
  have e1 : (b == 10) = decide (b.toNat = 10) := by rw [Bool.eq_iff_iff, beq_iff_eq, decide_eq_true_eq]; exact ⟨fun e => by rw [e]; rfl, fun e => UInt8.toNat_inj.1 e⟩
  have e2 : (b == 13) = decide (b.toNat = 13) := by rw [Bool.eq_iff_iff, beq_iff_eq, decide_eq_true_eq]; exact ⟨fun e => by rw [e]; rfl, fun e => UInt8.toNat_inj.1 e⟩
  rw [e0, e1, e2] at h
  simp at h; omega
theorem safe1_yes {b : UInt8} (h : safe1 b = true) : b.toNat ≠ 0 ∧ b.toNat ≠ 10 ∧ b.toNat ≠ 13 := by
  unfold safe1 at h
  simp at h
  refine ⟨fun e => ?_, fun e => ?_, fun e => ?_⟩
  · exact h.1.1 (UInt8.toNat_inj.1 e)
  · exact h.1.2 (UInt8.toNat_inj.1 e)
  · exact h.2 (UInt8.toNat_inj.1 e)

set_option maxRecDepth 100000 in
theorem safe_ref (s : ByteArray) (w : World) (hs : s.size ≤ 60000) : Calls Tryz.prog 58 #[.string s] w fun e w' => e = .returned (.bool (safeB s.data.toList)) ∧ w = w' := by
  have HSB := Lib.hid (show safeB s.data.toList = s.data.toList.all safe1 from rfl)
  go_enter Tryz.func58, Tryz.ntmps58
  go_wp2_with fail
  go_loop [3] (fun i => ∃ k : Nat, k ≤ s.size ∧ i = .int .i64 k ∧ Hid ((s.data.toList.take k).all safe1 = true)) (fun i => s.size - (intOf i).toNat)
  case atStart => exact ⟨0, Nat.zero_le _, rfl, rfl⟩
  case round =>
    obtain ⟨k, hk, rfl, HA⟩ := hrel
    by_cases hlt : k < s.size
    · cases hc : safe1 s[k] with
      | true =>
        have HN := Lib.hid (all_snoc s k hlt HA.out hc)
        obtain ⟨c1, c2, c3⟩ := safe1_yes hc
        have b1 : ((s[k].toNat : Int) == 0) = false := by simp; omega
        have b2 : ((s[k].toNat : Int) == 10) = false := by simp; omega
        have b3 : ((s[k].toNat : Int) == 13) = false := by simp; omega
        clear hc c1 c2 c3
        go_wp2_with fail
        go_round
        case rel => exact ⟨k + 1, by omega, by go_num, HN⟩
        case measure => simp [intOf]; omega
      | false =>
        have HN := Lib.hid (all_bad s k hlt hc)
        rcases safe1_no hc with c1 | ⟨c1, c2⟩ | ⟨c1, c2, c3⟩
        · have b1 : ((s[k].toNat : Int) == 0) = true := by simp; omega
          clear hc c1
          go_wp2_with fail
          go_ret
          exact ⟨by rw [HSB.out, HN.out]; rfl, rfl⟩
        · have b1 : ((s[k].toNat : Int) == 0) = false := by simp; omega
          have b2 : ((s[k].toNat : Int) == 10) = true := by simp; omega
          clear hc c1 c2
          go_wp2_with fail
          go_ret
          exact ⟨by rw [HSB.out, HN.out]; rfl, rfl⟩
        · have b1 : ((s[k].toNat : Int) == 0) = false := by simp; omega
          have b2 : ((s[k].toNat : Int) == 10) = false := by simp; omega
          have b3 : ((s[k].toNat : Int) == 13) = true := by simp; omega
          clear hc c1 c2 c3
          go_wp2_with fail
          go_ret
          exact ⟨by rw [HSB.out, HN.out]; rfl, rfl⟩
    · have d2 : decide ((k : Int) < (s.size : Int)) = false := by simp; omega
      have HN := Lib.hid (all_end s k (by omega) HA.out)
      go_wp2_with fail
      go_ret
      exact ⟨by rw [HSB.out, HN.out]; rfl, rfl⟩

set_option maxRecDepth 100000 in
theorem ends_ref (s : ByteArray) (w : World) (hs : s.size ≤ 60000) : Calls Tryz.prog 165 #[.string s] w fun e w' => e = .returned (.bool (!safeB s.data.toList)) ∧ w = w' := by
  have HSB := Lib.hid (show safeB s.data.toList = s.data.toList.all safe1 from rfl)
  go_enter Tryz.func165, Tryz.ntmps165
  go_wp2_with fail
  go_loop [3] (fun i => ∃ k : Nat, k ≤ s.size ∧ i = .int .i64 k ∧ Hid ((s.data.toList.take k).all safe1 = true)) (fun i => s.size - (intOf i).toNat)
  case atStart => exact ⟨0, Nat.zero_le _, rfl, rfl⟩
  case round =>
    obtain ⟨k, hk, rfl, HA⟩ := hrel
    by_cases hlt : k < s.size
    · cases hc : safe1 s[k] with
      | true =>
        have HN := Lib.hid (all_snoc s k hlt HA.out hc)
        obtain ⟨c1, c2, c3⟩ := safe1_yes hc
        have b1 : ((s[k].toNat : Int) == 0) = false := by simp; omega
        have b2 : ((s[k].toNat : Int) == 10) = false := by simp; omega
        have b3 : ((s[k].toNat : Int) == 13) = false := by simp; omega
        clear hc c1 c2 c3
        go_wp2_with fail
        go_round
        case rel => exact ⟨k + 1, by omega, by go_num, HN⟩
        case measure => simp [intOf]; omega
      | false =>
        have HN := Lib.hid (all_bad s k hlt hc)
        rcases safe1_no hc with c1 | ⟨c1, c2⟩ | ⟨c1, c2, c3⟩
        · have b1 : ((s[k].toNat : Int) == 0) = true := by simp; omega
          clear hc c1
          go_wp2_with fail
          go_ret
          exact ⟨by rw [HSB.out, HN.out]; rfl, rfl⟩
        · have b1 : ((s[k].toNat : Int) == 0) = false := by simp; omega
          have b2 : ((s[k].toNat : Int) == 10) = true := by simp; omega
          clear hc c1 c2
          go_wp2_with fail
          go_ret
          exact ⟨by rw [HSB.out, HN.out]; rfl, rfl⟩
        · have b1 : ((s[k].toNat : Int) == 0) = false := by simp; omega
          have b2 : ((s[k].toNat : Int) == 10) = false := by simp; omega
          have b3 : ((s[k].toNat : Int) == 13) = true := by simp; omega
          clear hc c1 c2 c3
          go_wp2_with fail
          go_ret
          exact ⟨by rw [HSB.out, HN.out]; rfl, rfl⟩
    · have d2 : decide ((k : Int) < (s.size : Int)) = false := by simp; omega
      have HN := Lib.hid (all_end s k (by omega) HA.out)
      go_wp2_with fail
      go_ret
      exact ⟨by rw [HSB.out, HN.out]; rfl, rfl⟩

theorem find_len {c : UInt8} {l : List UInt8} {k : Nat} (hk : k < l.length) (h : ∀ b ∈ l.take k, b ≠ c) (hc : l[k]?.getD 0 = c) : (cut1 c l).1.length = k ∧ (cut1 c l).2.2 = true := by
  rw [cut1_at hk h hc]; simp; omega
set_option maxRecDepth 100000 in
theorem find_ref (s : ByteArray) (c : UInt8) (w : World) (hs : s.size ≤ 60000) :
    Calls Tryz.prog 111 #[.string s, .int .i64 0, .int .u8 c.toNat] w fun e w' => e = .returned (.int .i64 (cut1 c s.data.toList).1.length) ∧ w = w' := by
  go_enter Tryz.func111, Tryz.ntmps111
  go_wp2_with fail
  go_loop [1] (fun i => ∃ k : Nat, k ≤ s.size ∧ i = .int .i64 k ∧ Hid (∀ b ∈ s.data.toList.take k, b ≠ c)) (fun i => s.size - (intOf i).toNat)
  case atStart => exact ⟨0, Nat.zero_le _, rfl, by intro b hb; simp at hb⟩
  case round =>
    obtain ⟨k, hk, rfl, HF⟩ := hrel
    by_cases hlt : k < s.size
    · have HS := Lib.hid (sgetD s k hlt)
      by_cases hc : s[k] = c
      · have HC := Lib.hid (find_len (c := c) (by rw [size_len]; exact hlt) HF.out (by rw [HS.out]; exact hc)).1
        have b1 : ((s[k].toNat : Int) != (c.toNat : Int)) = false := by rw [hc]; simp
        have b2 : (s[k].toNat != c.toNat) = false := by rw [hc]; simp
        have b3 : ((s[k].toNat : Int) == (c.toNat : Int)) = true := by rw [hc]; simp
        have b4 : (s[k].toNat == c.toNat) = true := by rw [hc]; simp
        clear hc
        go_wp2_with fail
        go_ret
        exact ⟨by rw [HC.out]; rfl, rfl⟩
      · have HN := Lib.hid (free_snoc (c := c) (by rw [size_len]; exact hlt) HF.out (by rw [HS.out]; exact hc))
        have b1 : ((s[k].toNat : Int) != (c.toNat : Int)) = true := by
          rw [bne_iff_ne]; intro e; exact hc (UInt8.toNat_inj.1 (by omega))
        have b2 : (s[k].toNat != c.toNat) = true := by
          rw [bne_iff_ne]; intro e; exact hc (UInt8.toNat_inj.1 e)
        have b4 : (s[k].toNat == c.toNat) = false := by
          rw [beq_eq_false_iff_ne]; intro e; exact hc (UInt8.toNat_inj.1 e)
        clear hc
        go_wp2_with fail
        go_round
        case rel => exact ⟨k + 1, by omega, by go_num, HN⟩
        case measure => simp [intOf]; omega
    · have d2 : decide ((k : Int) < (s.size : Int)) = false := by simp; omega
      have HC := Lib.hid (show ((cut1 c s.data.toList).1.length : Int) = k by
        have := HF.out
        rw [List.take_of_length_le (by rw [size_len]; omega)] at this
        rw [cut1_free this, size_len]; omega)
      go_wp2_with fail
      go_ret
      exact ⟨by rw [HC.out]; rfl, rfl⟩
end Go.Proofs.YteigjobliflkdaaGreatDoor
/- Walk: waypostref17.Stay. -/
namespace Go.Proofs.YteigjobliflkdaaGreatDoor
open Go.RowKit

def stayL : List UInt8 := [45, 46, 95, 126, 33, 36, 38, 39, 40, 41, 42, 43, 44, 59, 61, 58, 64, 47]
def alnumN (n : Nat) : Bool := (decide (97 ≤ n) && decide (n ≤ 122)) || (decide (65 ≤ n) && decide (n ≤ 90)) || (decide (48 ≤ n) && decide (n ≤ 57))
def stayUp (k : Nat) : Nat → Bool := fun n => ofB stayL n || (decide (n < k) && alnumN n)
theorem stayUp_yes (k : Nat) (h : alnumN k = true) (n : Nat) : (stayUp k n || decide (n = k)) = stayUp (k + 1) n := by
  unfold stayUp
  by_cases e : n = k
  · subst e; simp [h]
  · have : decide (n < k + 1) = decide (n < k) := by rw [decide_eq_decide]; omega
    rw [this]; simp [e]
theorem stayUp_no (k : Nat) (h : alnumN k = false) (n : Nat) : stayUp k n = stayUp (k + 1) n := by
  unfold stayUp
  by_cases e : n = k
  · subst e; simp [h]
  · have : decide (n < k + 1) = decide (n < k) := by rw [decide_eq_decide]; omega
    rw [this]
theorem stayUp_all (n : Nat) (hn : n < 256) : stayUp 256 n = stayN n := by
  have := all_range (n := 256) (f := fun n => stayUp 256 n == stayN n) (by kernel_rfl) n hn
  simpa using this
set_option maxRecDepth 100000 in
set_option maxHeartbeats 8000000 in
theorem stay_ref (w : World) : Calls Tryz.prog 60 #[] w (RetV (setV stayN) w) := by
  have HW := Lib.hid union2_ref
  have HO := Lib.hid of1_ref
  go_enter Tryz.func60, Tryz.ntmps60
  go_wp2_with fail
  refine (of_ref stayL _ _ _ (by decide) (byte_cells (l := stayL) (fr := (0, 0)) (heap_alloc2_new _ _ _))).mono ?_
  rintro e w1 ⟨rfl, HB1⟩
  have HZ := Lib.hid (SetAt.below (SetAt.zero (heap_alloc2_old w _ _)) HB1)
  have hsz := HB1.size
  unfold setV
  go_wp2_with fail
  go_loopg [2, 3] 256 (fun gh i c wr => ∃ k : Nat, k ≤ 256 ∧ gh = 256 - k ∧ i = .int .i64 k ∧ SetAt wr w1.heap.size (stayUp k) ∧ SetAt wr w.heap.size (fun _ => false) ∧ Below w.heap.size w wr ∧ w1.heap.size < wr.heap.size)
  case atStart => exact ⟨0, by omega, rfl, rfl, SetAt.congr (heap_alloc_new _ _) fun n _ => by simp [stayUp], HZ.out.below ((Below.refl _ _).alloc (Nat.le_refl _) _), below2 (((Below.refl _ _).alloc (Nat.le_refl _) _).alloc (by simp) _) (below2 HB1 ((Below.refl _ _).alloc (Nat.le_refl _) _)), by simp⟩
  case round =>
    obtain ⟨k, hk, hgk, rfl, HA, HZ', HB, hlt1⟩ := hrel
    clear HZ
    have hw1 : w.heap.size ≤ w1.heap.size := by have q1 := HB1.size; simp at q1; omega
    have hw1' : w.heap.size ≠ w1.heap.size := by have q1 := HB1.size; simp at q1; omega
    by_cases hlt : k < 256
    · have d1 : decide ((k : Int) < 256) = true := by simp; omega
      have HAh := Lib.hid HA
      have HZh := Lib.hid HZ'
      obtain ⟨wo, rfl⟩ : ∃ wo : World, wo = wr := ⟨_, rfl⟩
      go_upto_region 6 with fail
      go_cut [33] (fun b wx => b = .bool (alnumN k) ∧ wx = wo)
      case first =>
        have hcl : ((97 ≤ k ∧ k ≤ 122) ∨ (65 ≤ k ∧ k ≤ 90) ∨ (48 ≤ k ∧ k ≤ 57)) ∨ (k < 48 ∨ (57 < k ∧ k < 65) ∨ (90 < k ∧ k < 97) ∨ 122 < k) := by omega
        rcases hcl with hcl | hcl
        · have HE := Lib.hid (show alnumN k = true by simp only [alnumN, Bool.or_eq_true, Bool.and_eq_true, decide_eq_true_eq]; omega)
          rcases hcl with ⟨h1, h2⟩ | ⟨h1, h2⟩ | ⟨h1, h2⟩
          all_goals
            go_wp2_with fail
            go_meet
            exact ⟨congrArg Value.bool (by rw [HE.out] <;> (simp; omega)), rfl⟩
        · have HE := Lib.hid (show alnumN k = false by
            rw [Bool.eq_false_iff]; simp only [alnumN, ne_eq, Bool.or_eq_true, Bool.and_eq_true, decide_eq_true_eq]; omega)
          rcases hcl with h1 | ⟨h1, h2⟩ | ⟨h1, h2⟩ | h1
          all_goals
            go_wp2_with fail
            go_meet
            exact ⟨congrArg Value.bool (by rw [HE.out] <;> (simp; omega)), rfl⟩
      case rest =>
        obtain ⟨rfl, rfl⟩ := hcut
        by_cases ha : alnumN k = true
        · have HN := Lib.hid (stayUp_yes k ha)
          rw [ha]
          have c0 := HAh.out.cell 0 (by decide)
          have c1 := HAh.out.cell 1 (by decide)
          have c2 := HAh.out.cell 2 (by decide)
          have c3 := HAh.out.cell 3 (by decide)
          go_wp2_with fail
          go_region_with (first
            | (go_at_call 117; refine (HO.out k hlt _ _ (by exact heap_alloc_new _ _)).mono ?_; rintro e wx ⟨rfl, HBx⟩; unfold setV; (have HAx := Lib.hid (SetAt.below (SetAt.drew (SetAt.alloc HAh.out _)) HBx)); (have HZx := Lib.hid (SetAt.below (SetAt.drew (SetAt.alloc HZh.out _)) HBx)); (have e0 := HAx.out.cell 0 (by decide)); (have e1 := HAx.out.cell 1 (by decide)); (have e2 := HAx.out.cell 2 (by decide)); (have e3 := HAx.out.cell 3 (by decide)))
            | (go_at_call 118; refine (HW.out (stayUp k) (fun n => decide (n = k)) _ _ (by exact heap_alloc_new wx _)).mono ?_; rintro e wy ⟨rfl, HBy⟩; unfold setV; (have HAy := Lib.hid (SetAt.below (SetAt.alloc HAx.out _) HBy)); (have HZy := Lib.hid (SetAt.below (SetAt.alloc HZx.out _) HBy)); (have hs3 : w1.heap.size < wy.heap.size := by have q1 := HBx.size; have q2 := HBy.size; simp at q1 q2; omega); (have HPy := Lib.hid (HAy.out.put (Q := fun n => stayUp k n || decide (n = k)))); (have g0 := HAy.out.cell 0 (by decide)); (have g1 := HAy.out.cell 1 (by decide)); (have g2 := HAy.out.cell 2 (by decide)); (have g3 := HAy.out.cell 3 (by decide)); (have y0 := HAy.out.frozen 0); (have y1 := HAy.out.frozen 1); (have y2 := HAy.out.frozen 2); (have y3 := HAy.out.frozen 3)))
          all_goals
            go_wp2_with fail
            go_roundg (255 - k)
            case measure => omega
            case rel => exact ⟨k + 1, by omega, by omega, by go_num, HPy.out.congr fun n _ => HN.out n, (((HZy.out.other hw1').other hw1').other hw1').other hw1', ((((below2 (below2 (HB.alloc HB.size _).drew HBx) (below2 ((Below.refl _ _).alloc (Nat.le_refl _) _) HBy)).setCell hw1 _).setCell hw1 _).setCell hw1 _).setCell hw1 _, by simpa using hs3⟩
        · have ha' : alnumN k = false := by simpa using ha
          have HN := Lib.hid (HAh.out.congr fun n _ => stayUp_no k ha' n)
          rw [ha']
          clear ha
          go_wp2_with fail
          go_roundg (255 - k)
          case measure => omega
          case rel => exact ⟨k + 1, by omega, by omega, by go_num, HN.out, HZh.out, HB, hlt1⟩
    · have hk' : k = 256 := by omega
      subst hk'
      have HE := Lib.hid (setV_congr stayUp_all)
      have c0 := HA.cell 0 (by decide)
      have c1 := HA.cell 1 (by decide)
      have c2 := HA.cell 2 (by decide)
      have c3 := HA.cell 3 (by decide)
      have z0 := HZ'.cell 0 (by decide)
      have z1 := HZ'.cell 1 (by decide)
      have z2 := HZ'.cell 2 (by decide)
      have z3 := HZ'.cell 3 (by decide)
      have y0 := HZ'.frozen 0
      have y1 := HZ'.frozen 1
      have y2 := HZ'.frozen 2
      have y3 := HZ'.frozen 3
      have HR := Lib.hid (HZ'.put (Q := stayUp 256))
      go_wp2_with fail
      exact bodyPost_ret (set_results Tryz.results60 rfl HR.out) rfl (RetV.mk HE.out ((((HB.setCell (Nat.le_refl _) _).setCell (Nat.le_refl _) _).setCell (Nat.le_refl _) _).setCell (Nat.le_refl _) _))
end Go.Proofs.YteigjobliflkdaaGreatDoor
/- Small: byte slices of a call's own: appended to, made a string. -/
namespace Go.Proofs.YteigjobliflkdaaGreatDoor
open Go.RowKit

theorem info5b : (Tryz.prog.info? 5).map (fun i => (i.zero, i.size, i.bytes)) = some (some (.int .u8 0), 1, 1) := by kernel_rfl
/-- A slice of the call's own holds these bytes. -/
def OwnB (w : World) (B : Nat) (v : Value) (l : List UInt8) : Prop := w.ownsRow B 5 1 v l.length (Lib.byteCells l)
theorem OwnB.nil (w : World) (B : Nat) : OwnB w B (.slice none 0 0) [] := World.ownsRow_nil _ _ _ _
theorem OwnB.below {w w' : World} {B : Nat} {v : Value} {l : List UInt8} (h : OwnB w B v l) (hB : Below w.heap.size w w') : OwnB w' B v l := own_below h hB
theorem OwnB.drew {w : World} {B : Nat} {v : Value} {l : List UInt8} (h : OwnB w B v l) : OwnB w.drew B v l := own_below h (Below.refl _ _).drew
theorem byteCells_snoc (l m : List UInt8) : Lib.byteCells (l ++ m) = Lib.byteCells l ++ Lib.byteCells m := by simp [Lib.byteCells]
theorem nil_back (w : World) : (convert 75 9 (.slice none 0 0)).run Tryz.prog w = .ok (.string ⟨#[]⟩) w := by
  kernel_rfl
/-- 'string(b)' of a slice of the call's own. -/
theorem OwnB.back {w : World} {B : Nat} {v : Value} {l : List UInt8} (h : OwnB w B v l) : (convert 75 9 v).run Tryz.prog w = .ok (.string ⟨l.toArray⟩) w := by
  have h2 := h.2
  rcases h2 with ⟨h1, h0⟩ | ⟨g, cap, cur, rfl, _, hg, hc, _⟩
  · have : l = [] := List.length_eq_zero_iff.1 h0
    subst this
    subst h1
    exact nil_back w
  · refine run_convert_bytes_back w 75 9 5 ⟨g, 0, none⟩ cap l Tryz.underlying75 Tryz.underlying5 Tryz.underlying9 fun j hj => ?_
    exact World.ownsRow.cells h rfl j _ (by simp [Lib.byteCells, hj])
/-- 'append(v, bytes..)' where the bytes lie in a block: a slice of the call's own. -/
theorem wpApp5 {ops : Array Oper} {rest : List Oper} {o : Oper} {a : Act} {Q : Exit → Act → World → Prop} (hgd : o.guard = none) (s x : Operand)
    (ho : o.op = .call { callee := .builtin .append, args := #[s, x], argTypes := #[75, 75] })
    {B0 B : Nat} {w0 w : World} {v : Value} {l m : List UInt8} {g mm c : Nat} (hown : OwnB w B v l) (hB : Below B0 w0 w) (hs : a.eval s = v)
    (hx : a.eval x = .slice (some ⟨g, 0, none⟩) mm c) (hmm : mm = m.length) (hcell : ∀ j u, (Lib.byteCells m)[j]? = some u → w.cell? ⟨g, j, none⟩ = some u) (hn : l.length + m.length ≤ 1000000) (h0 : B0 ≤ B) (hle : B ≤ w.heap.size)
    (h : ∀ v' w', OwnB w' B v' (l ++ m) → Below B0 w0 w' → wpList Tryz.prog ops Q rest (a.put o.dst v') w') :
    wpList Tryz.prog ops Q (o :: rest) a w := by
  subst hmm
  obtain ⟨i0, hi, hz0, hz1, hz2⟩ := info_parts info5b
  refine wpList_append_own _ hgd s x 75 ho B 5 i0 (.int .u8 0) 1 1 Tryz.underlying75 hi hz0 hz1 hz2 rfl (by decide) v l.length (Lib.byteCells l) hs hown ⟨g, 0, none⟩ m.length c (Lib.byteCells m) hx (by rw [Lib.byteCells_length, Nat.mul_one]) (fun j u hj => by
    have : (⟨g, 0, none⟩ : Addr).add j = ⟨g, j, none⟩ := by unfold Addr.add; split <;> simp_all
    rw [this]; exact hcell j u hj) (fun u hu => by simp only [Lib.byteCells, List.mem_map] at hu; obtain ⟨b, _, rfl⟩ := hu; rfl) (by unfold maxLen; omega) (by omega) (by omega) ?_
  intro v' w' hown' hg _
  refine h v' w' ?_ (hB.grown hg (Nat.le_trans h0 hle) fun k hk => ?_)
  · unfold OwnB; rw [byteCells_snoc, List.length_append]; exact hown'
  · have := (World.ownsRow.lt hown k hk).1
    omega
theorem OwnB.slice {w : World} {B : Nat} {v : Value} {l : List UInt8} (h : OwnB w B v l) : (l = [] ∧ v = .slice none 0 0) ∨ ∃ g cap, v = .slice (some ⟨g, 0, none⟩) l.length cap ∧ B ≤ g := by
  have h2 := h.2
  rcases h2 with ⟨h1, h0⟩ | ⟨g, cap, cur, rfl, hg, _⟩
  · exact .inl ⟨List.length_eq_zero_iff.1 h0, h1⟩
  · exact .inr ⟨g, cap, rfl, hg⟩
theorem byte_row {w : World} {g : Nat} {m : List UInt8} {fr : Nat × Nat} (h : w.heap[g]? = some (.cells (Lib.byteCells m).toArray 5 fr)) : ∀ j u, (Lib.byteCells m)[j]? = some u → w.cell? ⟨g, j, none⟩ = some u := by
  intro j u hj
  rw [cell_of_row _ _ _ _ 5 fr h]
  simpa using hj
theorem OwnB.alloc {w : World} {B : Nat} {v : Value} {l : List UInt8} (h : OwnB w B v l) (o : Obj) : OwnB (w.alloc o) B v l := own_below h ((Below.refl _ _).alloc (Nat.le_refl _) o)
theorem byte_one {w : World} {g : Nat} {x : Int} {c : UInt8} (hx : (c.toNat : Int) = x) (h : w.heap[g]? = some (.cells #[.int .u8 x] 5 (0, 0))) : ∀ j u, (Lib.byteCells [c])[j]? = some u → w.cell? ⟨g, j, none⟩ = some u := by
  subst hx
  exact byte_row (m := [c]) (fr := (0, 0)) h
/-- 'append(v, x)': one byte. -/
theorem wpApp5one {ops : Array Oper} {rest : List Oper} {o : Oper} {a : Act} {Q : Exit → Act → World → Prop} (hgd : o.guard = none) (s x : Operand)
    (ho : o.op = .call { callee := .builtin .append, args := #[s, x], argTypes := #[75, 75] })
    {B0 B : Nat} {w0 wr : World} {v : Value} {l : List UInt8} {c : UInt8} {y : Int} (hown : OwnB wr B v l) (hB : Below B0 w0 wr) (hy : (c.toNat : Int) = y) (hs : a.eval s = v)
    (hx : a.eval x = .slice (some ⟨wr.heap.size, 0, none⟩) 1 1) (hn : l.length ≤ 100000) (h0 : B0 ≤ B) (hle : B ≤ wr.heap.size)
    (h : ∀ v' w', OwnB w' B v' (l ++ [c]) → Below B0 w0 w' → wpList Tryz.prog ops Q rest (a.put o.dst v') w') :
    wpList Tryz.prog ops Q (o :: rest) a (wr.alloc (.cells #[.int .u8 y] 5)) :=
  wpApp5 (m := [c]) hgd s x ho (hown.alloc _) (hB.alloc (Nat.le_trans h0 hle) _) hs hx rfl (byte_one hy (heap_alloc_new _ _)) (by simp; omega) h0 (by simp; omega) h
theorem wpApp5oneD {ops : Array Oper} {rest : List Oper} {o : Oper} {a : Act} {Q : Exit → Act → World → Prop} (hgd : o.guard = none) (s x : Operand)
    (ho : o.op = .call { callee := .builtin .append, args := #[s, x], argTypes := #[75, 75] })
    {B0 B : Nat} {w0 wr : World} {v : Value} {l : List UInt8} {c : UInt8} {y : Int} (hown : OwnB wr B v l) (hB : Below B0 w0 wr) (hy : (c.toNat : Int) = y) (hs : a.eval s = v)
    (hx : a.eval x = .slice (some ⟨wr.heap.size, 0, none⟩) 1 1) (hn : l.length ≤ 100000) (h0 : B0 ≤ B) (hle : B ≤ wr.heap.size)
    (h : ∀ v' w', OwnB w' B v' (l ++ [c]) → Below B0 w0 w' → wpList Tryz.prog ops Q rest (a.put o.dst v') w') :
    wpList Tryz.prog ops Q (o :: rest) a (wr.alloc (.cells #[.int .u8 y] 5)).drew :=
  wpApp5 (m := [c]) hgd s x ho (hown.alloc _).drew (hB.alloc (Nat.le_trans h0 hle) _).drew hs hx rfl (byte_one (w := (wr.alloc _).drew) hy (heap_alloc_new _ _)) (by simp; omega) h0 (by simp; omega) h
/-- 'append(v, x, y, z)': three bytes. -/
theorem byte_three {w : World} {g : Nat} {x y z : Int} {c d e : UInt8} (hx : (c.toNat : Int) = x) (hy : (d.toNat : Int) = y) (hz : (e.toNat : Int) = z) (h : w.heap[g]? = some (.cells #[.int .u8 x, .int .u8 y, .int .u8 z] 5 (0, 0))) : ∀ j u, (Lib.byteCells [c, d, e])[j]? = some u → w.cell? ⟨g, j, none⟩ = some u := by
  subst hx; subst hy; subst hz
  exact byte_row (m := [c, d, e]) (fr := (0, 0)) h
theorem wpApp5threeD {ops : Array Oper} {rest : List Oper} {o : Oper} {a : Act} {Q : Exit → Act → World → Prop} (hgd : o.guard = none) (s x : Operand)
    (ho : o.op = .call { callee := .builtin .append, args := #[s, x], argTypes := #[75, 75] })
    {B0 B : Nat} {w0 wr : World} {v : Value} {l : List UInt8} {c d e : UInt8} {p q r : Int} (hown : OwnB wr B v l) (hB : Below B0 w0 wr) (hp : (c.toNat : Int) = p) (hq : (d.toNat : Int) = q) (hr : (e.toNat : Int) = r) (hs : a.eval s = v)
    (hx : a.eval x = .slice (some ⟨wr.heap.size, 0, none⟩) 3 3) (hn : l.length ≤ 200000) (h0 : B0 ≤ B) (hle : B ≤ wr.heap.size)
    (h : ∀ v' w', OwnB w' B v' (l ++ [c, d, e]) → Below B0 w0 w' → wpList Tryz.prog ops Q rest (a.put o.dst v') w') :
    wpList Tryz.prog ops Q (o :: rest) a (wr.alloc (.cells #[.int .u8 p, .int .u8 q, .int .u8 r] 5)).drew :=
  wpApp5 (m := [c, d, e]) hgd s x ho (hown.alloc _).drew (hB.alloc (Nat.le_trans h0 hle) _).drew hs hx rfl (byte_three (w := (wr.alloc _).drew) hp hq hr (heap_alloc_new _ _)) (by simp; omega) h0 (by simp; omega) h
/-- The same at a step of a region that draws its order. -/
theorem stepApp5 {ops : Array Oper} {o : Oper} {a : Act} {K : Act → World → Prop} {Q : Exit → Act → World → Prop} {E : Prop} (hgd : o.guard = none) (s x : Operand)
    (ho : o.op = .call { callee := .builtin .append, args := #[s, x], argTypes := #[75, 75] })
    {B0 B : Nat} {w0 w : World} {v : Value} {l m : List UInt8} {g mm c : Nat} (hown : OwnB w B v l) (hB : Below B0 w0 w) (hs : a.eval s = v)
    (hx : a.eval x = .slice (some ⟨g, 0, none⟩) mm c) (hmm : mm = m.length) (hcell : ∀ j u, (Lib.byteCells m)[j]? = some u → w.cell? ⟨g, j, none⟩ = some u) (hn : l.length + m.length ≤ 1000000) (h0 : B0 ≤ B) (hle : B ≤ w.heap.size)
    (h : ∀ v' w', OwnB w' B v' (l ++ m) → Below B0 w0 w' → K (a.put o.dst v') w') :
    if Region.wanted o (yielded ops a.tmps) = true then Oper.wp Tryz.prog o a w K Q else E := by
  have hw : Region.wanted o (yielded ops a.tmps) = true := by simp [Region.wanted, hgd]
  rw [if_pos hw]
  subst hmm
  obtain ⟨i0, hi, hz0, hz1, hz2⟩ := info_parts info5b
  refine wp_append_own _ s x 75 ho B 5 i0 (.int .u8 0) 1 1 Tryz.underlying75 hi hz0 hz1 hz2 rfl (by decide) v l.length (Lib.byteCells l) hs hown ⟨g, 0, none⟩ m.length c (Lib.byteCells m) hx (by rw [Lib.byteCells_length, Nat.mul_one]) (fun j u hj => by
    have : (⟨g, 0, none⟩ : Addr).add j = ⟨g, j, none⟩ := by unfold Addr.add; split <;> simp_all
    rw [this]; exact hcell j u hj) (fun u hu => by simp only [Lib.byteCells, List.mem_map] at hu; obtain ⟨b, _, rfl⟩ := hu; rfl) (by unfold maxLen; omega) (by omega) (by omega) ?_
  intro v' w' hown' hg _
  refine h v' w' ?_ (hB.grown hg (Nat.le_trans h0 hle) fun k hk => ?_)
  · unfold OwnB; rw [byteCells_snoc, List.length_append]; exact hown'
  · have := (World.ownsRow.lt hown k hk).1
    omega
theorem stepApp5one {ops : Array Oper} {o : Oper} {a : Act} {K : Act → World → Prop} {Q : Exit → Act → World → Prop} {E : Prop} (hgd : o.guard = none) (s x : Operand)
    (ho : o.op = .call { callee := .builtin .append, args := #[s, x], argTypes := #[75, 75] })
    {B0 B : Nat} {w0 wr : World} {v : Value} {l : List UInt8} {c : UInt8} {y : Int} (hown : OwnB wr B v l) (hB : Below B0 w0 wr) (hy : (c.toNat : Int) = y) (hs : a.eval s = v)
    (hx : a.eval x = .slice (some ⟨wr.heap.size, 0, none⟩) 1 1) (hn : l.length ≤ 100000) (h0 : B0 ≤ B) (hle : B ≤ wr.heap.size)
    (h : ∀ v' w', OwnB w' B v' (l ++ [c]) → Below B0 w0 w' → K (a.put o.dst v') w') :
    if Region.wanted o (yielded ops a.tmps) = true then Oper.wp Tryz.prog o a (wr.alloc (.cells #[.int .u8 y] 5)).drew K Q else E :=
  stepApp5 (m := [c]) hgd s x ho (hown.alloc _).drew (hB.alloc (Nat.le_trans h0 hle) _).drew hs hx rfl (byte_one (w := (wr.alloc _).drew) hy (heap_alloc_new _ _)) (by simp; omega) h0 (by simp; omega) h
theorem stepApp5three {ops : Array Oper} {o : Oper} {a : Act} {K : Act → World → Prop} {Q : Exit → Act → World → Prop} {E : Prop} (hgd : o.guard = none) (s x : Operand)
    (ho : o.op = .call { callee := .builtin .append, args := #[s, x], argTypes := #[75, 75] })
    {B0 B : Nat} {w0 wr : World} {v : Value} {l : List UInt8} {c d e : UInt8} {p q r : Int} (hown : OwnB wr B v l) (hB : Below B0 w0 wr) (hp : (c.toNat : Int) = p) (hq : (d.toNat : Int) = q) (hr : (e.toNat : Int) = r) (hs : a.eval s = v)
    (hx : a.eval x = .slice (some ⟨wr.heap.size, 0, none⟩) 3 3) (hn : l.length ≤ 200000) (h0 : B0 ≤ B) (hle : B ≤ wr.heap.size)
    (h : ∀ v' w', OwnB w' B v' (l ++ [c, d, e]) → Below B0 w0 w' → K (a.put o.dst v') w') :
    if Region.wanted o (yielded ops a.tmps) = true then Oper.wp Tryz.prog o a (wr.alloc (.cells #[.int .u8 p, .int .u8 q, .int .u8 r] 5)).drew K Q else E :=
  stepApp5 (m := [c, d, e]) hgd s x ho (hown.alloc _).drew (hB.alloc (Nat.le_trans h0 hle) _).drew hs hx rfl (byte_three (w := (wr.alloc _).drew) hp hq hr (heap_alloc_new _ _)) (by simp; omega) h0 (by simp; omega) h
end Go.Proofs.YteigjobliflkdaaGreatDoor
/- Walks: waypostref02 (value, escape, step). -/
namespace Go.Proofs.YteigjobliflkdaaGreatDoor
open Go.RowKit

set_option maxRecDepth 100000 in
theorem value_ref (b : UInt8) (w : World) : Calls Tryz.prog 157 #[.int .u8 b.toNat] w fun e w' => e = .returned (.int .i64 (hexV b)) ∧ w = w' := by
  have hb := b.toNat_lt
  by_cases h1 : 48 ≤ b.toNat ∧ b.toNat ≤ 57
  · have HE := Lib.hid (show hexV b = b.toNat - 48 by unfold hexV; rw [if_pos h1])
    obtain ⟨ha, hc⟩ := h1
    go_enter Tryz.func157, Tryz.ntmps157
    go_wp2_with fail
    go_ret
    exact ⟨ret_int (by rw [HE.out]), rfl⟩
  by_cases h2 : 65 ≤ b.toNat ∧ b.toNat ≤ 70
  · have HE := Lib.hid (show hexV b = b.toNat - 55 by unfold hexV; rw [if_neg h1, if_pos h2])
    obtain ⟨ha, hc⟩ := h2
    clear h1
    go_enter Tryz.func157, Tryz.ntmps157
    go_wp2_with fail
    go_ret
    exact ⟨ret_int (by rw [HE.out]; omega), rfl⟩
  by_cases h3 : 97 ≤ b.toNat ∧ b.toNat ≤ 102
  · have HE := Lib.hid (show hexV b = b.toNat - 87 by unfold hexV; rw [if_neg h1, if_neg h2, if_pos h3])
    obtain ⟨ha, hc⟩ := h3
    clear h1 h2
    go_enter Tryz.func157, Tryz.ntmps157
    go_wp2_with fail
    go_ret
    exact ⟨ret_int (by rw [HE.out]; omega), rfl⟩
  · have HE := Lib.hid (show hexV b = -1 by unfold hexV; rw [if_neg h1, if_neg h2, if_neg h3])
    have hcl : b.toNat < 48 ∨ (57 < b.toNat ∧ b.toNat < 65) ∨ (70 < b.toNat ∧ b.toNat < 97) ∨ 102 < b.toNat := by omega
    clear h1 h2 h3
    rcases hcl with ha | ⟨ha, hc⟩ | ⟨ha, hc⟩ | ha
    all_goals
      go_enter Tryz.func157, Tryz.ntmps157
      go_wp2_with fail
      go_ret
      exact ⟨ret_int (by rw [HE.out]), rfl⟩

set_option maxRecDepth 100000 in
set_option maxHeartbeats 800000 in
theorem escape_ref (s : ByteArray) (i : Nat) (w : World) (hs : s.size ≤ 60000) (hi : i < s.size) :
    Calls Tryz.prog 156 #[.string s, .int .i64 i] w fun e w' => e = .returned (.bool (escB (s.data.toList.drop i))) ∧ w = w' := by
  have HD := Lib.hid (escB_drop s.data.toList i)
  rw [size_len] at HD
  by_cases h1 : i + 2 < s.size
  · have hg0 := sgetD s i (by omega)
    have hg1 := sgetD s (i + 1) (by omega)
    have hg2 := sgetD s (i + 2) h1
    have HD2 := Lib.hid (show escB (s.data.toList.drop i) = ((s[i] == 37) && decide (0 ≤ hexV s[i+1]) && decide (0 ≤ hexV s[i+2])) by rw [HD.out, hg0, hg1, hg2]; simp [h1])
    clear hg0 hg1 hg2
    have d1 : decide ((i : Int) + 2 < (s.size : Int)) = true := by simp; omega
    by_cases h2 : s[i].toNat = 37
    · have HD3 := Lib.hid (show escB (s.data.toList.drop i) = (decide (0 ≤ hexV s[i+1]) && decide (0 ≤ hexV s[i+2])) by
        rw [HD2.out, show (s[i] == 37) = true by rw [beq_iff_eq]; exact UInt8.toNat_inj.1 h2, Bool.true_and])
      have e2 : ((s[i].toNat : Int) == 37) = true := by simp; omega
      clear h2
      have V1 := Lib.hid (fun w => value_ref s[i+1] w)
      have V2 := Lib.hid (fun w => value_ref s[i+2] w)
      generalize hexV s[i+1] = v1 at V1 HD3
      generalize hexV s[i+2] = v2 at V2 HD3
      by_cases h3 : 0 ≤ v1
      · have d3 : decide (0 ≤ v1) = true := by simp; omega
        have HD4 := Lib.hid (show escB (s.data.toList.drop i) = decide (0 ≤ v2) by rw [HD3.out, d3, Bool.true_and])
        clear d3
        go_enter Tryz.func156, Tryz.ntmps156
        go_wp2_with fail
        refine (V1.out _).mono ?_
        rintro e w' ⟨rfl, rfl⟩
        go_wp2_with fail
        refine (V2.out _).mono ?_
        rintro e w' ⟨rfl, rfl⟩
        go_wp2_with fail
        go_ret
        exact ⟨ret_bool HD4.out.symm, rfl⟩
      · have d3 : decide (0 ≤ v1) = false := by simp; omega
        have HD4 := Lib.hid (show escB (s.data.toList.drop i) = false by rw [HD3.out, d3, Bool.false_and])
        go_enter Tryz.func156, Tryz.ntmps156
        go_wp2_with fail
        refine (V1.out _).mono ?_
        rintro e w' ⟨rfl, rfl⟩
        go_wp2_with fail
        go_ret
        exact ⟨ret_bool HD4.out.symm, rfl⟩
    · have HD3 := Lib.hid (show escB (s.data.toList.drop i) = false by
        rw [HD2.out, show (s[i] == 37) = false by rw [beq_eq_false_iff_ne]; intro e; rw [e] at h2; exact h2 rfl]; rfl)
      have e2 : ((s[i].toNat : Int) == 37) = false := by simp; omega
      clear h2
      go_enter Tryz.func156, Tryz.ntmps156
      go_wp2_with fail
      go_ret
      exact ⟨ret_bool HD3.out.symm, rfl⟩
  · have HF := Lib.hid (show escB (s.data.toList.drop i) = false by rw [HD.out, decide_eq_false h1]; rfl)
    have d1 : decide ((i : Int) + 2 < (s.size : Int)) = false := by simp; omega
    clear h1
    go_enter Tryz.func156, Tryz.ntmps156
    go_wp2_with fail
    go_ret
    exact ⟨ret_bool HF.out.symm, rfl⟩

theorem step_ref (s : ByteArray) (i : Nat) (w : World) (hs : s.size ≤ 60000) (hi : i < s.size) (c : Bool) (hc : escB (s.data.toList.drop i) = c) :
    Calls Tryz.prog 155 #[.string s, .int .i64 i] w fun e w' => e = .returned (.int .i64 (if c then 3 else 1)) ∧ w = w' := by
  have E := escape_ref s i w hs hi
  rw [hc] at E
  have E := Lib.hid E
  clear hc
  cases c
  all_goals
    go_enter Tryz.func155, Tryz.ntmps155
    go_wp2_with fail
    refine E.out.mono ?_
    rintro e w' ⟨rfl, rfl⟩
    go_wp2_with fail
    go_ret
    exact ⟨rfl, rfl⟩
end Go.Proofs.YteigjobliflkdaaGreatDoor
