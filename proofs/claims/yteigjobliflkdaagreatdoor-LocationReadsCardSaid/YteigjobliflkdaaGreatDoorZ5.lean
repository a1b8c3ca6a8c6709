/- Texts of this claim, joined in build order: L1, R15e. -/
import Derived.Test.YteigjobliflkdaaGreatDoorZ2
import Derived.Test.YteigjobliflkdaaGreatDoorZ4
import Derived.Deep.RegionWith
import Derived.Lib.SlBytesConst
/- Walks: location's Stay, query, Query; target's Chars. -/
namespace Go.Proofs.YteigjobliflkdaaGreatDoor
open Go.RowKit

def lo3 (j : Nat) : Nat := if j = 0 then 97 else if j = 1 then 65 else 48
def hi3 (j : Nat) : Nat := if j = 0 then 122 else if j = 1 then 90 else 57
def lo2 (j : Nat) : Nat := if j = 0 then 33 else 36
def hi2 (j : Nat) : Nat := if j = 0 then 34 else 126
theorem stay_sets : ∀ n : Nat, n < 256 → (rngN lo3 hi3 3 n || ofB stayL n) = stayN n := by decide +kernel
theorem char_sets : ∀ n : Nat, n < 256 → rngN lo2 hi2 2 n = charN n := by decide +kernel
theorem conv_const (W : World) (C : Array Value) (n c : Nat) : (convert 75 75 (.slice (some ⟨W.heap.size, 0, none⟩) n c)).run Tryz.prog (W.alloc (.cells C 5)).drew = .ok (.slice (some ⟨W.heap.size, 0, none⟩) n c) (W.alloc (.cells C 5 (C.size, C.size + 1))).drew :=
  Lib.run_convert_bytes_const (P := Tryz.prog) W.drew 75 5 C n c Tryz.underlying75 Tryz.underlying5
theorem ranges3 {w : World} {g cap : Nat} (h : w.heap[g]? = some (.cells #[.int .u8 97, .int .u8 122, .int .u8 65, .int .u8 90, .int .u8 48, .int .u8 57] 118 (0, 0))) :
    Calls Tryz.prog 114 #[.slice (some ⟨g, 0, none⟩) 3 cap] w (RetV (.tuple #[setV (rngN lo3 hi3 3), .int .i64 0]) w) := by
  refine ranges_any 3 lo3 hi3 g cap w (by decide) (fun j hj => ?_) (fun j hj => ?_)
  · match j, hj with
    | 0, _ => decide
    | 1, _ => decide
    | 2, _ => decide
  · rw [cell_of_row _ _ _ _ 118 _ h, cell_of_row _ _ _ _ 118 _ h]
    match j, hj with
    | 0, _ => exact ⟨rfl, rfl⟩
    | 1, _ => exact ⟨rfl, rfl⟩
    | 2, _ => exact ⟨rfl, rfl⟩
theorem ranges2 {w : World} {g cap : Nat} (h : w.heap[g]? = some (.cells #[.int .u8 33, .int .u8 34, .int .u8 36, .int .u8 126] 118 (0, 0))) :
    Calls Tryz.prog 114 #[.slice (some ⟨g, 0, none⟩) 2 cap] w (RetV (.tuple #[setV charN, .int .i64 0]) w) := by
  rw [← setV_congr char_sets]
  refine ranges_any 2 lo2 hi2 g cap w (by decide) (fun j hj => ?_) (fun j hj => ?_)
  · match j, hj with
    | 0, _ => decide
    | 1, _ => decide
  · rw [cell_of_row _ _ _ _ 118 _ h, cell_of_row _ _ _ _ 118 _ h]
    match j, hj with
    | 0, _ => exact ⟨rfl, rfl⟩
    | 1, _ => exact ⟨rfl, rfl⟩

set_option maxRecDepth 100000 in
set_option maxHeartbeats 4000000 in
theorem locStay_any (w : World) : Calls Tryz.prog 59 #[] w (RetV (setV stayN) w) := by
  have HW := Lib.hid union2_any
  go_enter Tryz.func59, Tryz.ntmps59
  go_wp2_with fail
  refine (ranges3 (heap_alloc2_new _ _ _)).mono ?_
  rintro e w1 ⟨rfl, HB1⟩
  unfold setV
  have HZ1 := Lib.hid (SetAt.below (SetAt.zero (heap_alloc2_old w _ _)) HB1)
  have hsz : w.heap.size + 2 ≤ w1.heap.size := by have := HB1.size; simpa using this
  have HBw : Below w.heap.size w w1 := below2 (((Below.refl _ _).alloc (Nat.le_refl _) _).alloc (by simp) _) HB1
  have hne : w.heap.size ≠ w1.heap.size := by omega
  have hcc := conv_const
  have HO := Lib.hid (fun (w2 : World) (g : Nat) h => of_any stayL g 18 w2 (by decide) (byte_cells (l := stayL) (fr := (18, 19)) h))
  have HE := Lib.hid (setV_congr stay_sets)
  go_wp2_with fail
  have HA0 : SetAt (w1.alloc (.cells #[.int .u64 (word (rngN lo3 hi3 3) 0), .int .u64 (word (rngN lo3 hi3 3) 1), .int .u64 (word (rngN lo3 hi3 3) 2), .int .u64 (word (rngN lo3 hi3 3) 3)] 60)) w1.heap.size (rngN lo3 hi3 3) := heap_alloc_new _ _
  have HZ0 := SetAt.alloc HZ1.out (.cells #[.int .u64 (word (rngN lo3 hi3 3) 0), .int .u64 (word (rngN lo3 hi3 3) 1), .int .u64 (word (rngN lo3 hi3 3) 2), .int .u64 (word (rngN lo3 hi3 3) 3)] 60)
  have HB0 := HBw.alloc HBw.size (.cells #[.int .u64 (word (rngN lo3 hi3 3) 0), .int .u64 (word (rngN lo3 hi3 3) 1), .int .u64 (word (rngN lo3 hi3 3) 2), .int .u64 (word (rngN lo3 hi3 3) 3)] 60)
  generalize w1.alloc (.cells #[.int .u64 (word (rngN lo3 hi3 3) 0), .int .u64 (word (rngN lo3 hi3 3) 1), .int .u64 (word (rngN lo3 hi3 3) 2), .int .u64 (word (rngN lo3 hi3 3) 3)] 60) = W0 at HA0 HZ0 HB0
  generalize rngN lo3 hi3 3 = P at HA0 HE
  generalize w1.heap.size = b1 at HA0 hne
  have HAh := Lib.hid HA0
  have HZh := Lib.hid HZ0
  have c0 := HA0.cell 0 (by decide)
  have c1 := HA0.cell 1 (by decide)
  have c2 := HA0.cell 2 (by decide)
  have c3 := HA0.cell 3 (by decide)
  have hb1 : b1 < W0.heap.size := (Array.getElem?_eq_some_iff.1 HA0).1
  have hb0 : w.heap.size < W0.heap.size := (Array.getElem?_eq_some_iff.1 HZ0).1
  clear HA0 HZ0 HZ1 HBw HB1 hsz
  go_region_with (first
    | (go_at_call 116; refine (HO.out _ _ (by exact heap_alloc_new _ _)).mono ?_; rintro e wx ⟨rfl, HBx⟩; unfold setV; (have HAx := Lib.hid (SetAt.below (SetAt.drew (SetAt.alloc HAh.out _)) HBx)); (have HZx := Lib.hid (SetAt.below (SetAt.drew (SetAt.alloc HZh.out _)) HBx)); (have e0 := HAx.out.cell 0 (by decide)); (have e1 := HAx.out.cell 1 (by decide)); (have e2 := HAx.out.cell 2 (by decide)); (have e3 := HAx.out.cell 3 (by decide)); (have hx1 : b1 < wx.heap.size := by have q1 := HBx.size; simp at q1; omega))
    | (go_at_call 115; refine (HW.out P (ofB stayL) _ _ (by exact heap_alloc_new _ _)).mono ?_; rintro e wy ⟨rfl, HBy⟩; unfold setV; (have HZy := Lib.hid (SetAt.below (SetAt.alloc HZx.out _) HBy)); (have HPy := Lib.hid (HZy.out.put (Q := fun n => P n || ofB stayL n))); (have g0 := HZy.out.cell 0 (by decide)); (have g1 := HZy.out.cell 1 (by decide)); (have g2 := HZy.out.cell 2 (by decide)); (have g3 := HZy.out.cell 3 (by decide)); (have y0 := HZy.out.frozen 0); (have y1 := HZy.out.frozen 1); (have y2 := HZy.out.frozen 2); (have y3 := HZy.out.frozen 3)))
  all_goals
    go_wp2_with fail
    exact bodyPost_ret (set_results Tryz.results59 rfl HPy.out) rfl (RetV.mk HE.out ((((below2 (below2 (HB0.alloc HB0.size _).drew HBx) (below2 ((Below.refl _ _).alloc (Nat.le_refl _) _) HBy)).setCell (Nat.le_refl _) _).setCell (Nat.le_refl _) _).setCell (Nat.le_refl _) _ |>.setCell (Nat.le_refl _) _))

theorem all_B {P : Nat → Bool} {s : ByteArray} {b : Bool} (h : (s.data.toList.all fun b => P b.toNat) = b) (hs : s.size ≤ 60000) (w : World) : Calls Tryz.prog 105 #[setV P, .string s] w (RetV (.bool b) w) := by
  have := all_any P s w hs; rwa [h] at this
set_option maxRecDepth 100000 in
theorem locquery_B {s : ByteArray} {b : Bool} (h : qryB s.data.toList = b) (hs : s.size ≤ 60000) (w : World) : Calls Tryz.prog 124 #[.string s] w (RetV (.bool b) w) := by
  have HQ := Lib.hid (all_B (P := charN) h hs)
  clear h
  unfold setV at HQ
  go_enter Tryz.func124, Tryz.ntmps124
  go_wp2_with fail
  refine (ranges2 (heap_alloc_new _ _)).mono ?_
  rintro e w1 ⟨rfl, HB1⟩
  unfold setV
  go_wp2_with fail
  refine (HQ.out _).mono ?_
  rintro e w2 ⟨rfl, HB2⟩
  go_wp2_with fail
  go_ret
  exact RetV.mk rfl (below2 (below2 ((Below.refl _ _).alloc (Nat.le_refl _) _) HB1) (below2 ((Below.refl _ _).alloc (Nat.le_refl _) _) HB2))
theorem locquery_any (s : ByteArray) (w : World) (hs : s.size ≤ 60000) : Calls Tryz.prog 124 #[.string s] w (RetV (.bool (qryB s.data.toList)) w) := locquery_B rfl hs w
set_option maxRecDepth 100000 in
theorem locQuery_any (s : ByteArray) (w : World) (hs : s.size ≤ 60000) : Calls Tryz.prog 63 #[.string s] w (RetV (vBool (locQuery s.data.toList)) w) := by
  by_cases h1 : 128 < s.size
  · have HE := Lib.hid (show locQuery s.data.toList = (false, 4) by unfold locQuery; rw [if_pos (by rw [size_len]; exact h1)])
    have d1 : decide ((128 : Int) < (s.size : Int)) = true := by simp; omega
    go_enter Tryz.func63, Tryz.ntmps63
    go_wp2_with fail
    go_ret2
    exact RetV.mk (by rw [HE.out]; rfl) (Below.refl _ _)
  · obtain ⟨b, hb⟩ : ∃ b, qryB s.data.toList = b := ⟨_, rfl⟩
    have HE := Lib.hid (show locQuery s.data.toList = (b, 0) by unfold locQuery; rw [if_neg (by rw [size_len]; exact h1), hb])
    have HQ := Lib.hid (locquery_B hb hs)
    clear hb
    have d1 : decide ((128 : Int) < (s.size : Int)) = false := by simp; omega
    go_enter Tryz.func63, Tryz.ntmps63
    go_wp2_with fail
    refine (HQ.out _).mono ?_
    rintro e w2 ⟨rfl, HB2⟩
    go_wp2_with fail
    go_ret2
    exact RetV.mk (by rw [HE.out]; rfl) HB2
end Go.Proofs.YteigjobliflkdaaGreatDoor
/- Walk: waypostref15.Compare. -/
namespace Go.Proofs.YteigjobliflkdaaGreatDoor
open Go.RowKit

theorem cmpL_step : ∀ (k : Nat) (A B : List (List UInt8)), (∀ j, j < k → cmpB (A[j]?.getD []) (B[j]?.getD []) = 0) → k ≤ A.length → k ≤ B.length → cmpL A B = cmpL (A.drop k) (B.drop k)
  | 0, A, B, _, _, _ => by simp
  | k + 1, [], B, _, h, _ => by simp at h
  | k + 1, _ :: _, [], _, _, h => by simp at h
  | k + 1, a :: A, b :: B, h, h1, h2 => by
    have h0 := h 0 (by omega)
    simp at h0
    rw [cmpL, if_pos h0, List.drop_succ_cons, List.drop_succ_cons]
    exact cmpL_step k A B (fun j hj => by simpa using h (j + 1) (by omega)) (by simpa using h1) (by simpa using h2)
theorem cmpL_hit {k : Nat} {A B : List (List UInt8)} (h : ∀ j, j < k → cmpB (A[j]?.getD []) (B[j]?.getD []) = 0) (h1 : k < A.length) (h2 : k < B.length) (hc : cmpB (A[k]?.getD []) (B[k]?.getD []) ≠ 0) :
    cmpL A B = cmpB (A[k]?.getD []) (B[k]?.getD []) := by
  rw [cmpL_step k A B h (by omega) (by omega), List.drop_eq_getElem_cons h1, List.drop_eq_getElem_cons h2, cmpL]
  rw [List.getElem?_eq_getElem h1, List.getElem?_eq_getElem h2] at hc ⊢
  simp only [Option.getD_some] at hc ⊢
  rw [if_neg hc]
theorem cmpL_end {A B : List (List UInt8)} (h : ∀ j, j < A.length → j < B.length → cmpB (A[j]?.getD []) (B[j]?.getD []) = 0) :
    cmpL A B = if A.length < B.length then -1 else if B.length < A.length then 1 else 0 := by
  rw [cmpL_step (min A.length B.length) A B (fun j hj => h j (by omega) (by omega)) (by omega) (by omega)]
  rcases Nat.lt_trichotomy A.length B.length with hl | hl | hl
  · rw [if_pos hl, Nat.min_eq_left (by omega), List.drop_length, List.drop_eq_getElem_cons hl]; rfl
  · rw [if_neg (by omega), if_neg (by omega), Nat.min_eq_left (by omega), List.drop_length, hl, List.drop_length]; rfl
  · rw [if_neg (by omega), if_pos hl, Nat.min_eq_right (by omega), List.drop_length, List.drop_eq_getElem_cons hl]; rfl
theorem rev_at {A : List (List UInt8)} {k : Nat} (h : k < A.length) : A.reverse[k]?.getD [] = A[A.length - 1 - k]?.getD [] := by
  rw [List.getElem?_reverse h]

theorem labels_ref1 {n : List UInt8} {A : List (List UInt8)} (h : segs 46 n = A) (hn : n.length ≤ 60000) (w : World) :
    Calls Tryz.prog 88 #[.string ⟨n.toArray⟩] w fun e w' => ∃ g cap, e = .returned (.slice (some ⟨g, 0, none⟩) A.length cap) ∧ w'.ownsRow w.heap.size 9 1 (.slice (some ⟨g, 0, none⟩) A.length cap) A.length (A.map S) ∧ Below w.heap.size w w' := by
  subst h
  refine (labels_ref ⟨n.toArray⟩ w (by rw [size_mk]; exact hn)).mono fun e w' h => ?_
  obtain ⟨g, cap, rfl, hown, HB⟩ := h.one (segs_ne _ _)
  exact ⟨g, cap, rfl, hown, HB⟩

theorem order_ref' (s t : ByteArray) (w : World) :
    Calls Tryz.prog 89 #[.string s, .string t] w fun e w' => e = .returned (.int .i64 (cmpB s.data.toList t.data.toList)) ∧ w' = w :=
  (order_ref s t w).mono fun _ _ ⟨h1, h2⟩ => ⟨h1, h2.symm⟩

/-- A number and an error. -/
def vInt (r : Int × Int) : Value := .tuple #[.int .i64 r.1, .int .i64 r.2]

set_option maxRecDepth 100000 in
set_option maxHeartbeats 1600000 in
theorem compare_ref (s t : ByteArray) (w : World) (hs : s.size ≤ 60000) (ht : t.size ≤ 60000) :
    Calls Tryz.prog 25 #[.string s, .string t] w (RetV (vInt (hostCompare s.data.toList t.data.toList)) w) := by
  cases hh : hostSplit s.data.toList with
  | error x =>
    have hx := (err_ne hh).1
    have HE := Lib.hid (show hostCompare s.data.toList t.data.toList = (0, x) by unfold hostCompare; rw [hh])
    have HH := Lib.hid hh
    clear hh
    go_enter Tryz.func25, Tryz.ntmps25
    go_wp2_with (go_at_call 27; refine (split_refC.err HH.out hs _).mono ?_; rintro e w1 ⟨rfl, HB⟩)
    go_ret2
    exact RetV.of (f := vInt) _ HE.out rfl HB
  | ok r =>
    obtain ⟨n, p⟩ := r
    have HH := Lib.hid hh
    have hn : n.length ≤ 64 := (hostSplit_ok hh).2.2.1
    cases hg : hostSplit t.data.toList with
    | error x =>
      have hx := (err_ne hg).1
      have HE := Lib.hid (show hostCompare s.data.toList t.data.toList = (0, x) by unfold hostCompare; rw [hh, hg])
      have HG := Lib.hid hg
      clear hh hg
      go_enter Tryz.func25, Tryz.ntmps25
      go_wp2_with fail
      refine (split_refC.ok HH.out hs _).mono ?_
      rintro e w1 ⟨rfl, HB⟩
      go_wp2_with fail
      refine (split_refC.err HG.out ht _).mono ?_
      rintro e w2 ⟨rfl, HB2⟩
      go_wp2_with fail
      go_ret2
      exact RetV.of (f := vInt) _ HE.out rfl (HB.trans (HB2.mono HB.size))
    | ok r =>
      obtain ⟨m, q⟩ := r
      have HE := Lib.hid (show hostCompare s.data.toList t.data.toList = (hostCmp (n, p) (m, q), 0) by unfold hostCompare; rw [hh, hg])
      have HG := Lib.hid hg
      have hm : m.length ≤ 64 := (hostSplit_ok hg).2.2.1
      clear hh hg
      have hA := segs_le 46 n
      have hB := segs_le 46 m
      have hAn := segs_ne 46 n
      have hBn := segs_ne 46 m
      generalize hA' : segs 46 n = A at hA hAn
      generalize hB' : segs 46 m = B at hB hBn
      have HC := Lib.hid (show hostCmp (n, p) (m, q) = if cmpL A.reverse B.reverse = 0 then cmpI p q else cmpL A.reverse B.reverse by unfold hostCmp; rw [hA', hB'])
      have HA := Lib.hid hA'
      have HBB := Lib.hid hB'
      clear hA' hB' hAn hBn
      go_enter Tryz.func25, Tryz.ntmps25
      go_wp2_with fail
      refine (split_refC.ok HH.out hs _).mono ?_
      rintro e w1 ⟨rfl, HB⟩
      go_wp2_with fail
      refine (split_refC.ok HG.out ht _).mono ?_
      rintro e w2 ⟨rfl, HB2⟩
      go_wp2_with fail
      refine (labels_ref1 HA.out (by omega) _).mono ?_
      rintro e w3 ⟨g, cap, rfl, hown, HB3⟩
      go_wp2_with fail
      refine (labels_ref1 HBB.out (by omega) _).mono ?_
      rintro e w4 ⟨g2, cap2, rfl, hown2, HB4⟩
      have hown1 := own_below hown HB4
      have HBW := (HB.trans (HB2.mono HB.size)).trans ((HB3.trans (HB4.mono HB3.size)).mono (Nat.le_trans HB.size HB2.size))
      clear hown HB HB2 HB3 HB4
      go_wp2_with fail
      go_loopw [13] (fun i wr => ∃ k : Nat, k ≤ A.length ∧ k ≤ B.length ∧ i = .int .i64 (k + 1 : Nat) ∧ Hid (wr.ownsRow w2.heap.size 9 1 (.slice (some ⟨g, 0, none⟩) A.length cap) A.length (A.map S)) ∧ Hid (wr.ownsRow w3.heap.size 9 1 (.slice (some ⟨g2, 0, none⟩) B.length cap2) B.length (B.map S)) ∧ Below w.heap.size w wr ∧ Hid (∀ j, j < k → cmpB (A.reverse[j]?.getD []) (B.reverse[j]?.getD []) = 0)) (fun i _ => A.length + 1 - (intOf i).toNat)
      case atStart => exact ⟨0, Nat.zero_le _, Nat.zero_le _, rfl, hown1, hown2, HBW, fun j hj => by omega⟩
      case round =>
        clear hown1 hown2 HBW
        obtain ⟨k, hkA, hkB, rfl, hown1, hown2, HBW, HL⟩ := hrel
        by_cases hlA : k < A.length
        · have d1 : decide ((k : Int) + 1 ≤ (A.length : Int)) = true := by simp; omega
          by_cases hlB : k < B.length
          · have d2 : decide ((k : Int) + 1 ≤ (B.length : Int)) = true := by simp; omega
            have ca := own_cell hown1.out (A.length - 1 - k) (by omega) rfl
            have cb := own_cell hown2.out (B.length - 1 - k) (by omega) rfl
            rw [← rev_at hlA] at ca
            rw [← rev_at hlB] at cb
            have e1 : IntKind.i64.wrap ((A.length : Int) - ((k : Int) + 1)) = ((A.length - 1 - k : Nat) : Int) := by rw [IntKind.wrap_i64]; omega
            have e2 : IntKind.i64.wrap ((B.length : Int) - ((k : Int) + 1)) = ((B.length - 1 - k : Nat) : Int) := by rw [IntKind.wrap_i64]; omega
            have b1 : A.length - 1 - k < A.length := by omega
            have b2 : B.length - 1 - k < B.length := by omega
            have HH1 := Lib.hid (show k < A.reverse.length by simpa using hlA)
            have HH2 := Lib.hid (show k < B.reverse.length by simpa using hlB)
            generalize hx : A.reverse[k]?.getD [] = x at ca
            generalize hy : B.reverse[k]?.getD [] = y at cb
            have HX := Lib.hid hx
            have HY := Lib.hid hy
            clear hx hy
            by_cases hc : cmpB x y = 0
            · have hc' : (cmpB x y != 0) = false := by simpa using hc
              go_wp2_with fail
              go_quiet ((go_at_call 89; exact Calls.quiet_of_same (order_ref' _ _ _)))
              go_wp2_with fail
              have HN := Lib.hid (show ∀ j, j < k + 1 → cmpB (A.reverse[j]?.getD []) (B.reverse[j]?.getD []) = 0 by
                intro j hj
                by_cases e : j = k
                · subst e; rw [HX.out, HY.out]; exact hc
                · exact HL.out j (by omega))
              exact ⟨⟨k + 1, by omega, by omega, by go_num, hown1, hown2, below_drewN HBW _, HN⟩, by (simp [intOf]; try omega)⟩
            · have hc' : (cmpB x y != 0) = true := by simpa using hc
              have HF := Lib.hid (show hostCmp (n, p) (m, q) = cmpB x y by
                have h := cmpL_hit HL.out HH1.out HH2.out (by rw [HX.out, HY.out]; exact hc)
                rw [HX.out, HY.out] at h
                rw [HC.out, h, if_neg hc])
              go_wp2_with fail
              go_quiet ((go_at_call 89; exact Calls.quiet_of_same (order_ref' _ _ _)))
              go_wp2_with fail
              go_ret2
              exact RetV.of (f := vInt) _ HE.out (by rw [HF.out]; rfl) (below_drewN HBW _)
          · have d2 : decide ((k : Int) + 1 ≤ (B.length : Int)) = false := by simp; omega
            have hgt : B.length < A.length := by omega
            have HF := Lib.hid (show hostCmp (n, p) (m, q) = 1 by
              have h := cmpL_end (A := A.reverse) (B := B.reverse) (fun j _ hj => HL.out j (by rw [List.length_reverse] at hj; omega))
              rw [List.length_reverse, List.length_reverse, if_neg (by omega), if_pos hgt] at h
              rw [HC.out, h]; rfl)
            have t1 : decide ((A.length : Int) < (B.length : Int)) = false := by simp; omega
            have t2 : ((A.length : Int) == (B.length : Int)) = false := by rw [beq_eq_false_iff_ne]; omega
            have t3 : decide ((B.length : Int) < (A.length : Int)) = true := by simp; omega
            go_wp2_with fail
            go_ret2
            exact RetV.of (f := vInt) _ HE.out (by rw [HF.out]; rfl) HBW
        · have hkk : k = A.length := by omega
          subst hkk
          have HL2 := Lib.hid (cmpL_end (A := A.reverse) (B := B.reverse) (fun j hj _ => HL.out j (by rw [List.length_reverse] at hj; omega)))
          by_cases hlt : A.length < B.length
          · have HF := Lib.hid (show hostCmp (n, p) (m, q) = -1 by
              have h := HL2.out
              rw [List.length_reverse, List.length_reverse, if_pos hlt] at h
              rw [HC.out, h]; rfl)
            have t1 : decide ((A.length : Int) < (B.length : Int)) = true := by simp; omega
            go_wp2_with fail
            go_ret2
            exact RetV.of (f := vInt) _ HE.out (by rw [HF.out]; rfl) HBW
          have HF0 := Lib.hid (show hostCmp (n, p) (m, q) = cmpI p q by
            have h := HL2.out
            rw [List.length_reverse, List.length_reverse, if_neg hlt, if_neg (by omega)] at h
            rw [HC.out, h]; rfl)
          have t1 : decide ((A.length : Int) < (B.length : Int)) = false := by simp; omega
          have t2 : ((A.length : Int) == (B.length : Int)) = true := by rw [beq_iff_eq]; omega
          have t3 : decide ((B.length : Int) < (A.length : Int)) = false := by simp; omega
          rcases Int.lt_trichotomy p q with hpq | hpq | hpq
          · have HF := Lib.hid (show hostCmp (n, p) (m, q) = -1 by rw [HF0.out]; unfold cmpI; rw [if_pos hpq])
            have u1 : decide (p < q) = true := by simpa using hpq
            go_wp2_with fail
            go_ret2
            exact RetV.of (f := vInt) _ HE.out (by rw [HF.out]; rfl) HBW
          · have HF := Lib.hid (show hostCmp (n, p) (m, q) = 0 by rw [HF0.out]; unfold cmpI; rw [if_neg (by omega), if_neg (by omega)])
            have u1 : decide (p < q) = false := by simp; omega
            have u2 : decide (q < p) = false := by simp; omega
            clear hpq
            go_wp2_with fail
            go_ret2
            exact RetV.of (f := vInt) _ HE.out (by rw [HF.out]; rfl) HBW
          · have HF := Lib.hid (show hostCmp (n, p) (m, q) = 1 by rw [HF0.out]; unfold cmpI; rw [if_neg (by omega), if_pos hpq])
            have u1 : decide (p < q) = false := by simp; omega
            have u2 : decide (q < p) = true := by simpa using hpq
            go_wp2_with fail
            go_ret2
            exact RetV.of (f := vInt) _ HE.out (by rw [HF.out]; rfl) HBW
end Go.Proofs.YteigjobliflkdaaGreatDoor
