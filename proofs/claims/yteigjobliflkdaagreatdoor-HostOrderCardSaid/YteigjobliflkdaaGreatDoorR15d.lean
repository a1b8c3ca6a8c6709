/- Walks: waypostref15's Under, Join, order. -/
import Derived.Test.YteigjobliflkdaaGreatDoorR15c
namespace Go.Proofs.YteigjobliflkdaaGreatDoor
open Go.RowKit

theorem suf_false_len {A B : List (List UInt8)} (h : A.length < B.length) : B.isSuffixOf A = false := by
  rw [Bool.eq_false_iff]; intro e
  have := (List.isSuffixOf_iff_suffix.1 e).length_le; omega
theorem suf_true {A B : List (List UInt8)} {D : Nat} (hl : A.length = D + B.length) (h : ∀ j, j < B.length → A[D + j]?.getD [] = B[j]?.getD []) : B.isSuffixOf A = true := by
  rw [List.isSuffixOf_iff_suffix, List.suffix_iff_eq_drop]
  apply List.ext_getElem?
  intro j
  rw [List.getElem?_drop, show A.length - B.length = D by omega]
  by_cases hj : j < B.length
  · have := h j hj
    rw [List.getElem?_eq_getElem hj, List.getElem?_eq_getElem (by omega)] at this ⊢
    simp at this; rw [this]
  · rw [List.getElem?_eq_none (by omega), List.getElem?_eq_none (by omega)]
theorem suf_false {A B : List (List UInt8)} {D k : Nat} (hl : A.length = D + B.length) (_hk : k < B.length) (h : A[D + k]?.getD [] ≠ B[k]?.getD []) : B.isSuffixOf A = false := by
  rw [Bool.eq_false_iff]; intro e
  have e' := List.suffix_iff_eq_drop.1 (List.isSuffixOf_iff_suffix.1 e)
  apply h
  have : B[k]? = (A.drop (A.length - B.length))[k]? := by rw [← e']
  rw [this, List.getElem?_drop, show A.length - B.length = D by omega]

/-- Labels' contract, at a function's number. -/
def LabelsC (f : Nat) : Prop := ∀ (s : ByteArray) (w : World), s.size ≤ 60000 → Calls Tryz.prog f #[.string s] w (RetLabels (hostLabels s.data.toList) w)
theorem LabelsC.ok {f : Nat} (H : LabelsC f) {s : ByteArray} {L : List (List UInt8)} (h : hostLabels s.data.toList = .ok L) (hs : s.size ≤ 60000) (w : World) :
    Calls Tryz.prog f #[.string s] w fun e w' => ∃ g cap, e = .returned (.tuple #[.slice (some ⟨g, 0, none⟩) L.length cap, .int .i64 0]) ∧ w'.ownsRow w.heap.size 9 1 (.slice (some ⟨g, 0, none⟩) L.length cap) L.length (L.map S) ∧ Below w.heap.size w w' := by
  have := H s w hs; rw [h] at this; exact this
theorem LabelsC.err {f : Nat} (H : LabelsC f) {s : ByteArray} {x : Int} (h : hostLabels s.data.toList = .error x) (hs : s.size ≤ 60000) (w : World) :
    Calls Tryz.prog f #[.string s] w fun e w' => e = .returned (.tuple #[.slice none 0 0, .int .i64 x]) ∧ Below w.heap.size w w' := by
  have := H s w hs; rw [h] at this; exact this
theorem labels_refC : LabelsC 33 := labels_refL
theorem hostLabels_ok {l n : List UInt8} {p : Int} (h : hostSplit l = .ok (n, p)) : hostLabels l = .ok (segs 46 n) := by unfold hostLabels; rw [h]
theorem hostLabels_err {l : List UInt8} {e : Int} (h : hostSplit l = .error e) : hostLabels l = .error e := by unfold hostLabels; rw [h]

set_option maxRecDepth 100000 in
set_option maxHeartbeats 800000 in
theorem under_ref (s t : ByteArray) (w : World) (hs : s.size ≤ 60000) (ht : t.size ≤ 60000) :
    Calls Tryz.prog 23 #[.string s, .string t] w (RetV (vBool (hostUnder s.data.toList t.data.toList)) w) := by
  cases hh : hostSplit s.data.toList with
  | error x =>
    have hx := (err_ne hh).1
    have HE := Lib.hid (show hostUnder s.data.toList t.data.toList = (false, x) by unfold hostUnder; rw [hh])
    have HH := Lib.hid (hostLabels_err hh)
    clear hh
    go_enter Tryz.func23, Tryz.ntmps23
    go_wp2_with (go_at_call 33; refine (labels_refC.err HH.out hs _).mono ?_; rintro e w1 ⟨rfl, HB⟩)
    go_ret2
    exact RetV.of (f := vBool) _ HE.out rfl HB
  | ok r =>
    obtain ⟨n, p⟩ := r
    have HH := Lib.hid (hostLabels_ok hh)
    have hn : n.length ≤ 64 := (hostSplit_ok hh).2.2.1
    cases hg : hostSplit t.data.toList with
    | error x =>
      have hx := (err_ne hg).1
      have HE := Lib.hid (show hostUnder s.data.toList t.data.toList = (false, x) by unfold hostUnder; rw [hh, hg])
      have HG := Lib.hid (hostLabels_err hg)
      clear hh hg
      go_enter Tryz.func23, Tryz.ntmps23
      go_wp2_with fail
      refine (labels_refC.ok HH.out hs _).mono ?_
      rintro e w1 ⟨g, cap, rfl, hown, HB⟩
      go_wp2_with fail
      refine (labels_refC.err HG.out ht _).mono ?_
      rintro e w2 ⟨rfl, HB2⟩
      go_wp2_with fail
      go_ret2
      exact RetV.of (f := vBool) _ HE.out rfl (HB.trans (HB2.mono HB.size))
    | ok r =>
      obtain ⟨m, q⟩ := r
      have HE := Lib.hid (show hostUnder s.data.toList t.data.toList = ((segs 46 m).isSuffixOf (segs 46 n), 0) by unfold hostUnder; rw [hh, hg])
      have HG := Lib.hid (hostLabels_ok hg)
      have hm : m.length ≤ 64 := (hostSplit_ok hg).2.2.1
      clear hh hg
      have hA := segs_le 46 n
      have hB := segs_le 46 m
      generalize segs 46 n = A at HH HE hA
      generalize segs 46 m = B at HG HE hB
      by_cases hlen : A.length < B.length
      · have HS := Lib.hid (suf_false_len hlen)
        have hd : decide ((A.length : Int) < (B.length : Int)) = true := by simp; omega
        go_enter Tryz.func23, Tryz.ntmps23
        go_wp2_with fail
        refine (labels_refC.ok HH.out hs _).mono ?_
        rintro e w1 ⟨g, cap, rfl, hown, HB⟩
        go_wp2_with fail
        refine (labels_refC.ok HG.out ht _).mono ?_
        rintro e w2 ⟨g2, cap2, rfl, hown2, HB2⟩
        go_wp2_with fail
        go_ret2
        exact RetV.of (f := vBool) _ HE.out (by rw [HS.out]; rfl) (HB.trans (HB2.mono HB.size))
      obtain ⟨D, hD⟩ : ∃ D, A.length = D + B.length := ⟨A.length - B.length, by omega⟩
      have hd : decide ((A.length : Int) < (B.length : Int)) = false := by simp; omega
      have HD := Lib.hid hD
      have hD1 : A.length ≤ D + B.length := by omega
      have hD2 : D + B.length ≤ A.length := by omega
      clear hD
      go_enter Tryz.func23, Tryz.ntmps23
      go_wp2_with fail
      refine (labels_refC.ok HH.out hs _).mono ?_
      rintro e w1 ⟨g, cap, rfl, hown, HB⟩
      go_wp2_with fail
      refine (labels_refC.ok HG.out ht _).mono ?_
      rintro e w2 ⟨g2, cap2, rfl, hown2, HB2⟩
      have hown1 := own_below hown HB2
      go_wp2_with fail
      go_loopw [9] (fun i wr => ∃ k d : Nat, k ≤ B.length ∧ i = .int .i64 k ∧ wr = w2.drewN d ∧ Hid (∀ j, j < k → A[D + j]?.getD [] = B[j]?.getD [])) (fun i _ => B.length - (intOf i).toNat)
      case atStart => exact ⟨0, 0, Nat.zero_le _, rfl, rfl, fun j hj => by omega⟩
      case round =>
        obtain ⟨k, d, hk, rfl, rfl, HA⟩ := hrel
        by_cases hlt : k < B.length
        · have ca := own_cell hown1 (D + k) (by omega) rfl
          have cb := own_cell hown2 k hlt rfl
          have e1 : IntKind.i64.wrap ((A.length : Int) - B.length) = D := by rw [HD.out, IntKind.wrap_i64]; omega
          have e2 : IntKind.i64.wrap ((D : Int) + k) = (D : Int) + k := by rw [IntKind.wrap_i64]; omega
          go_wp2_with fail
          go_quiet (fail)
          go_wp2_with fail
          · have h : (!A[D + k]?.getD [] == B[k]) = true := by assumption
            have hf := suf_false HD.out hlt (by rw [List.getElem?_eq_getElem hlt]; simpa using h)
            go_ret2
            exact RetV.of (f := vBool) _ HE.out (by rw [hf]; rfl) (below_drewN (below_drewN (HB.trans (HB2.mono HB.size)) _) _)
          · have h : (!A[D + k]?.getD [] == B[k]) = false := by assumption
            have HN := Lib.hid (show ∀ j, j < k + 1 → A[D + j]?.getD [] = B[j]?.getD [] by
              intro j hj
              by_cases e : j = k
              · subst e; rw [List.getElem?_eq_getElem hlt]; simpa using h
              · exact HA.out j (by omega))
            exact ⟨⟨k + 1, d + nq, by omega, by go_num, rfl, HN⟩, by (simp [intOf]; try omega)⟩
        · have hkB : k = B.length := by omega
          have hf := suf_true HD.out (by have := HA.out; rw [hkB] at this; exact this)
          have HF := Lib.hid hf
          clear hf hkB
          go_wp2_with fail
          go_ret2
          exact RetV.of (f := vBool) _ HE.out (by rw [HF.out]; rfl) (below_drewN (HB.trans (HB2.mono HB.size)) _)

set_option maxRecDepth 100000 in
set_option maxHeartbeats 800000 in
theorem join_ref (s : ByteArray) (p : Int) (w : World) (hs : s.size ≤ 60000) :
    Calls Tryz.prog 35 #[.string s, .int .i64 p] w (RetV (vStr (hostJoin s.data.toList p)) w) := by
  cases hh : hostSplit s.data.toList with
  | error x =>
    have hx := (err_ne hh).1
    have HE := Lib.hid (show hostJoin s.data.toList p = .error x by unfold hostJoin; rw [hh])
    have HH := Lib.hid hh
    clear hh
    go_enter Tryz.func35, Tryz.ntmps35
    go_wp2_with (go_at_call 27; refine (split_refC.err HH.out hs _).mono ?_; rintro e w1 ⟨rfl, HB⟩)
    go_ret2
    exact RetV.of (f := vStr) _ HE.out rfl HB
  | ok r =>
    obtain ⟨n, p0⟩ := r
    have hn : n.length ≤ 64 := (hostSplit_ok hh).2.2.1
    have HJ := Lib.hid (show hostJoin s.data.toList p = if n.length ≠ s.data.toList.length then .error 3 else if p < 1 ∨ 65535 < p then .error 2 else hostWritten n p by unfold hostJoin; rw [hh])
    have HH := Lib.hid hh
    clear hh
    by_cases hl : n.length ≠ s.size
    · have hl' : ((n.length : Int) != (s.size : Int)) = true := by rw [bne_iff_ne]; omega
      have HE := Lib.hid (show hostJoin s.data.toList p = .error 3 by rw [HJ.out, if_pos (by rw [size_len]; exact hl)])
      clear hl
      go_enter Tryz.func35, Tryz.ntmps35
      go_wp2_with (go_at_call 27; refine (split_refC.ok HH.out hs _).mono ?_; rintro e w1 ⟨rfl, HB⟩)
      go_ret2
      exact RetV.of (f := vStr) _ HE.out rfl HB
    have hl' : ((n.length : Int) != (s.size : Int)) = false := by simp; omega
    have HJ2 := Lib.hid (show hostJoin s.data.toList p = if p < 1 ∨ 65535 < p then .error 2 else hostWritten n p by rw [HJ.out, if_neg (by rw [size_len]; exact hl)])
    clear hl HJ
    by_cases hp1 : p < 1
    · have HE := Lib.hid (show hostJoin s.data.toList p = .error 2 by rw [HJ2.out, if_pos (Or.inl hp1)])
      have hp1' : decide (p < 1) = true := by simp; omega
      go_enter Tryz.func35, Tryz.ntmps35
      go_wp2_with (go_at_call 27; refine (split_refC.ok HH.out hs _).mono ?_; rintro e w1 ⟨rfl, HB⟩)
      go_ret2
      exact RetV.of (f := vStr) _ HE.out rfl HB
    have hp1' : decide (p < 1) = false := by simp; omega
    by_cases hp2 : 65535 < p
    · have HE := Lib.hid (show hostJoin s.data.toList p = .error 2 by rw [HJ2.out, if_pos (Or.inr hp2)])
      have hp2' : decide (65535 < p) = true := by simp; omega
      go_enter Tryz.func35, Tryz.ntmps35
      go_wp2_with (go_at_call 27; refine (split_refC.ok HH.out hs _).mono ?_; rintro e w1 ⟨rfl, HB⟩)
      go_ret2
      exact RetV.of (f := vStr) _ HE.out rfl HB
    have hp2' : decide (65535 < p) = false := by simp; omega
    rw [HJ2.out, if_neg (by omega)]
    cases hw : hostWritten n p with
    | error x =>
      have HW := Lib.hid hw
      clear hw
      go_enter Tryz.func35, Tryz.ntmps35
      go_wp2_with (first | (go_at_call 27; refine (split_refC.ok HH.out hs _).mono ?_; rintro e w1 ⟨rfl, HB⟩) | (go_at_call 99; refine (strErr (written_ref' _ (by omega) (by omega) (by omega)) HW.out).mono ?_; rintro e w2 ⟨rfl, HB2⟩))
      go_ret2
      exact RetV.mk rfl (HB.trans (HB2.mono HB.size))
    | ok m =>
      have HW := Lib.hid hw
      clear hw
      go_enter Tryz.func35, Tryz.ntmps35
      go_wp2_with (first | (go_at_call 27; refine (split_refC.ok HH.out hs _).mono ?_; rintro e w1 ⟨rfl, HB⟩) | (go_at_call 99; refine (strOk (written_ref' _ (by omega) (by omega) (by omega)) HW.out).mono ?_; rintro e w2 ⟨rfl, HB2⟩))
      go_ret2
      exact RetV.mk rfl (HB.trans (HB2.mono HB.size))

theorem order_ref (s t : ByteArray) (w : World) :
    Calls Tryz.prog 89 #[.string s, .string t] w fun e w' => e = .returned (.int .i64 (cmpB s.data.toList t.data.toList)) ∧ w = w' := by
  rw [← Lib.toList_data, ← Lib.toList_data]
  by_cases h1 : Op.bytesLess s.toList t.toList = true
  · have HE := Lib.hid (show cmpB s.toList t.toList = -1 by unfold cmpB; rw [if_pos h1])
    go_enter Tryz.func89, Tryz.ntmps89
    go_wp2_with fail
    go_ret
    exact ⟨ret_int HE.out.symm, rfl⟩
  have h1' : Op.bytesLess s.toList t.toList = false := by simpa using h1
  by_cases h2 : (s.toList == t.toList) = true
  · have HE := Lib.hid (show cmpB s.toList t.toList = 0 by unfold cmpB; rw [if_neg h1, if_pos h2])
    clear h1
    go_enter Tryz.func89, Tryz.ntmps89
    go_wp2_with fail
    go_ret
    exact ⟨ret_int HE.out.symm, rfl⟩
  · have h2' : (s.toList == t.toList) = false := by simpa using h2
    have HE := Lib.hid (show cmpB s.toList t.toList = 1 by unfold cmpB; rw [if_neg h1, if_neg h2])
    clear h1 h2
    go_enter Tryz.func89, Tryz.ntmps89
    go_wp2_with fail
    go_ret
    exact ⟨ret_int HE.out.symm, rfl⟩
end Go.Proofs.YteigjobliflkdaaGreatDoor
