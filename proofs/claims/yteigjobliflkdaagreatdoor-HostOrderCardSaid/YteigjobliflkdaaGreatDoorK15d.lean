import Derived.Test.YteigjobliflkdaaGreatDoorK15c
import Derived.Deep.RegionHeld3
namespace Go.Proofs.YteigjobliflkdaaGreatDoor
open Go.RowKit Go.Shelf

theorem keep4 {g : Nat} {v0 v1 v2 v3 : Value} {B : Nat} {W w w' : World}
    (h : w.cell? ⟨g, 0, none⟩ = some v0 ∧ w.cell? ⟨g, 1, none⟩ = some v1 ∧ w.cell? ⟨g, 2, none⟩ = some v2 ∧ w.cell? ⟨g, 3, none⟩ = some v3 ∧ Good w ∧ B ≤ w.heap.size ∧ Below B W w) (HB : Below w.heap.size w w') :
    w'.cell? ⟨g, 0, none⟩ = some v0 ∧ w'.cell? ⟨g, 1, none⟩ = some v1 ∧ w'.cell? ⟨g, 2, none⟩ = some v2 ∧ w'.cell? ⟨g, 3, none⟩ = some v3 ∧ Good w' ∧ B ≤ w'.heap.size ∧ Below B W w' := by
  obtain ⟨h0, h1, h2, h3, hG, hs, hB⟩ := h
  have hlt := World.block_lt_of_cell? w _ h0
  exact ⟨(HB.cell (p := ⟨g, 0, none⟩) hlt).trans h0, (HB.cell (p := ⟨g, 1, none⟩) hlt).trans h1, (HB.cell (p := ⟨g, 2, none⟩) hlt).trans h2, (HB.cell (p := ⟨g, 3, none⟩) hlt).trans h3, hG.next HB, Nat.le_trans hs HB.size, hB.trans (HB.mono hs)⟩

theorem backG {s : ByteArray} {A : List (List UInt8)} (hA : segs 46 s.data.toList = A) (hs : s.size ≤ 60000) (w : World) (hG : Good w) :
    Calls Tryz.prog 86 #[.string s] w fun e w' => ∃ g cap, e = .returned (.slice (some ⟨g, 0, none⟩) A.length cap) ∧ (∀ j, j < A.reverse.length → w'.cell? ⟨g, j, none⟩ = some (.string ⟨(A.reverse[j]?.getD []).toArray⟩)) ∧ g < w'.heap.size ∧ Below w.heap.size w w' := by
  refine (backwards_any hA w hG hs).mono fun e w' ⟨g, cap, he, hown, hB⟩ => ⟨g, cap, he, fun j hj => ?_, (own_below2 hown).2, hB⟩
  rw [List.length_reverse] at hj
  exact own_cell hown j hj (by simp)

theorem compareR_any {A B : List (List UInt8)} {g cap g2 cap2 : Nat} (w : World) (hA : A.length ≤ 60001) (hB : B.length ≤ 60001)
    (ca : ∀ j, j < A.reverse.length → w.cell? ⟨g, j, none⟩ = some (.string ⟨(A.reverse[j]?.getD []).toArray⟩)) (cb : ∀ j, j < B.reverse.length → w.cell? ⟨g2, j, none⟩ = some (.string ⟨(B.reverse[j]?.getD []).toArray⟩)) :
    Calls Tryz.prog 85 #[.slice (some ⟨g, 0, none⟩) A.length cap, .slice (some ⟨g2, 0, none⟩) B.length cap2] w fun e w' => e = .returned (.int .i64 (cmpL A.reverse B.reverse)) ∧ w' = w := by
  have h := compareS_any (A := A.reverse) (B := B.reverse) (cap := cap) (cap2 := cap2) w (by simpa using hA) (by simpa using hB) ca cb
  rwa [List.length_reverse, List.length_reverse] at h
theorem two_cellsI (w : World) (s t : Int) : (w.alloc (.cells #[.int .i64 s, .int .i64 t] 3)).cell? ⟨w.heap.size, 0, none⟩ = some (.int .i64 s) ∧ (w.alloc (.cells #[.int .i64 s, .int .i64 t] 3)).cell? ⟨w.heap.size, 1, none⟩ = some (.int .i64 t) := by
  constructor <;> rw [World.cell?_alloc_at _ _ _ _ rfl] <;> rfl

set_option maxRecDepth 100000 in
set_option maxHeartbeats 3200000 in
theorem compare_any (s t : ByteArray) (w : World) (hG : Good w) (hs : s.size ≤ 60000) (ht : t.size ≤ 60000) :
    Calls Tryz.prog 24 #[.string s, .string t] w (RetV (vInt (hostCompare s.data.toList t.data.toList)) w) := by
  have HC := Lib.hid (two_cells w s t)
  have hG1 := hG.next (one_below w (.cells #[.string s, .string t] 9))
  cases hh : hostSplit s.data.toList with
  | error x =>
    have hx := (err_ne hh).2
    have HE := Lib.hid (show hostCompare s.data.toList t.data.toList = (0, x) by unfold hostCompare; rw [hh])
    have HH := Lib.hid hh
    clear hh
    go_enter Tryz.func24, Tryz.ntmps24
    go_wp2_with fail
    refine (splits2_err1 HH.out _ hG1 hs ht (by simp) HC.out.1 HC.out.2).mono ?_
    rintro e w1 ⟨rfl, HB⟩
    go_wp2_with fail
    go_ret2
    exact RetV.of (f := vInt) _ HE.out rfl (below_of_alloc HB)
  | ok r =>
    obtain ⟨n, p⟩ := r
    have HH := Lib.hid hh
    have hn : n.length ≤ 64 := (hostSplit_ok hh).2.2.1
    cases hg : hostSplit t.data.toList with
    | error x =>
      have hx := (err_ne hg).2
      have HE := Lib.hid (show hostCompare s.data.toList t.data.toList = (0, x) by unfold hostCompare; rw [hh, hg])
      have HG := Lib.hid hg
      clear hh hg
      go_enter Tryz.func24, Tryz.ntmps24
      go_wp2_with fail
      refine (splits2_err2 HH.out HG.out _ hG1 hs ht (by simp) HC.out.1 HC.out.2).mono ?_
      rintro e w1 ⟨rfl, HB⟩
      go_wp2_with fail
      go_ret2
      exact RetV.of (f := vInt) _ HE.out rfl (below_of_alloc HB)
    | ok r =>
      obtain ⟨m, q⟩ := r
      have HE := Lib.hid (show hostCompare s.data.toList t.data.toList = (hostCmp (n, p) (m, q), 0) by unfold hostCompare; rw [hh, hg])
      have HG := Lib.hid hg
      have hm : m.length ≤ 64 := (hostSplit_ok hg).2.2.1
      clear hh hg
      go_enter Tryz.func24, Tryz.ntmps24
      go_wp2_with fail
      refine (splits2_ok HH.out HG.out _ hG1 hs ht (by simp) HC.out.1 HC.out.2).mono ?_
      rintro e w1 ⟨g, cap, rfl, hown, HB⟩
      have hG2 := hG1.next HB
      have hBB := below_of_alloc HB
      have c0 := own_at hown 0 _ rfl
      have c1 := own_at hown 1 _ rfl
      have c2 := own_at hown 2 _ rfl
      have c3 := own_at hown 3 _ rfl
      have hsz := hBB.size
      have hGd : Good w1.drew := hG2.next (Below.refl _ _).drew
      have hBd : Below w.heap.size w w1.drew := hBB.drew
      clear hown HB hG1 HC HG HH hG
      have hA := segs_le 46 n
      have hB := segs_le 46 m
      generalize hA' : segs 46 n = A at hA
      generalize hB' : segs 46 m = B at hB
      have BX := backG (s := ⟨n.toArray⟩) hA' (by rw [size_mk]; omega)
      have BY := backG (s := ⟨m.toArray⟩) hB' (by rw [size_mk]; omega)
      have HS := Lib.hid (show hostCmp (n, p) (m, q) = orI (cmpL A.reverse B.reverse) (Lib.compareInt p q) by unfold hostCmp orI cmpI Lib.compareInt; rw [hA', hB'])
      clear hA' hB'
      unfold S at c0 c2
      generalize (⟨n.toArray⟩ : ByteArray) = sn at c0 BX
      generalize (⟨m.toArray⟩ : ByteArray) = sm at c2 BY
      go_wp2_with fail
      go_region_held3 (fun w' => w'.cell? ⟨g, 0, none⟩ = some (.string sn) ∧ w'.cell? ⟨g, 1, none⟩ = some (.int .i64 p) ∧ w'.cell? ⟨g, 2, none⟩ = some (.string sm) ∧ w'.cell? ⟨g, 3, none⟩ = some (.int .i64 q) ∧ Good w' ∧ w.heap.size ≤ w'.heap.size ∧ Below w.heap.size w w')
        (first | assumption | (go_split_ands; refine ⟨?_, ?_, ?_, ?_, ?_, ?_, ?_⟩ <;> first | assumption | (simp; omega)) | (refine keep4 ?_ (one_below _ _); first | assumption | (go_split_ands; refine ⟨?_, ?_, ?_, ?_, ?_, ?_, ?_⟩ <;> assumption)) | (exact keep4 (by assumption) (by assumption)) | (go_split_ands; refine keep4 ⟨by assumption, by assumption, by assumption, by assumption, by assumption, by assumption, by assumption⟩ ?_; assumption) | go_keep)
        (first
          | (go_at_call 86; with_reducible show Calls Tryz.prog 86 #[.string sn] _ _; refine (BX _ (by go_split_ands; assumption)).mono ?_; rintro e wx ⟨gx, capx, rfl, cx, lx, HBx⟩)
          | (go_at_call 86; refine (BY _ (by go_split_ands; assumption)).mono ?_; rintro e wy ⟨gy, capy, rfl, cy, ly, HBy⟩)
          | (go_at_call 85; refine (compareR_any (A := A) (B := B) _ (by omega) (by omega) (fun j hj => (HBy.cell (p := ⟨gx, j, none⟩) lx).trans (cx j hj)) cy).mono ?_; rintro e wz ⟨rfl, rfl⟩)
          | (go_at_call 87; refine (Tryz.cmp_Compare_int p q _).mono ?_; rintro e wu ⟨rfl, rfl⟩)
          | (go_at_call 84; refine (or_any _ _ _ _ (two_cellsI _ _ _).1 (two_cellsI _ _ _).2).mono ?_; rintro e wv ⟨rfl, rfl⟩))
      go_wp2_with fail
      have hBelow : Below w.heap.size w (wu.alloc (.cells #[.int .i64 (cmpL A.reverse B.reverse), .int .i64 (Lib.compareInt p q)] 3)) := by
        go_split_ands
        assumption
      go_ret2
      exact RetV.of (f := vInt) _ HE.out (by rw [HS.out]; rfl) hBelow
end Go.Proofs.YteigjobliflkdaaGreatDoor
