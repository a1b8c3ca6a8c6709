/- Texts of this claim, joined in build order: K15c, K15d, H15h, V15a, V15b, V15c, V15d, S18. -/
import Derived.Test.YteigjobliflkdaaGreatDoorZ8
import Derived.Test.YteigjobliflkdaaGreatDoorZ5
import Derived.Deep.RegionHeld3
import Derived.Maps.Own
import Derived.Maps.Views
import Derived.Test.YteigjobliflkdaaGreatDoorZ2
import Derived.Test.YteigjobliflkdaaGreatDoorZ4
namespace Go.Proofs.YteigjobliflkdaaGreatDoor
open Go.RowKit Go.Shelf

theorem nan_any (s : ByteArray) (w : World) : Calls Tryz.prog 168 #[.string s] w fun e w' => e = .returned (.bool false) ∧ w' = w := by
  go_enter Tryz.func168, Tryz.ntmps168
  go_wp2_with fail
  go_ret
  exact ⟨rfl, rfl⟩

theorem cmpS_any (s t : ByteArray) (w : World) :
    Calls Tryz.prog 129 #[.string s, .string t] w fun e w' => e = .returned (.int .i64 (cmpB s.data.toList t.data.toList)) ∧ w = w' := by
  rw [← Lib.toList_data, ← Lib.toList_data]
  by_cases h1 : Op.bytesLess s.toList t.toList = true
  · have HE := Lib.hid (show cmpB s.toList t.toList = -1 by unfold cmpB; rw [if_pos h1])
    go_enter Tryz.func129, Tryz.ntmps129
    go_wp2_with (go_at_call 168; refine (nan_any _ _).mono ?_; rintro e w1 ⟨rfl, rfl⟩)
    go_ret
    exact ⟨ret_int HE.out.symm, rfl⟩
  have h1' : Op.bytesLess s.toList t.toList = false := by simpa using h1
  by_cases h2 : (s.toList == t.toList) = true
  · have HE := Lib.hid (show cmpB s.toList t.toList = 0 by unfold cmpB; rw [if_neg h1, if_pos h2])
    clear h1
    go_enter Tryz.func129, Tryz.ntmps129
    go_wp2_with (go_at_call 168; refine (nan_any _ _).mono ?_; rintro e w1 ⟨rfl, rfl⟩)
    go_ret
    exact ⟨ret_int HE.out.symm, rfl⟩
  · have h2' : (s.toList == t.toList) = false := by simpa using h2
    have HE := Lib.hid (show cmpB s.toList t.toList = 1 by unfold cmpB; rw [if_neg h1, if_neg h2])
    clear h1 h2
    go_enter Tryz.func129, Tryz.ntmps129
    go_wp2_with (go_at_call 168; refine (nan_any _ _).mono ?_; rintro e w1 ⟨rfl, rfl⟩)
    go_ret
    exact ⟨ret_int HE.out.symm, rfl⟩

/-- Or of two numbers. -/
def orI (x y : Int) : Int := if x = 0 then y else x
set_option maxRecDepth 100000 in
set_option maxHeartbeats 800000 in
theorem or_any (x y : Int) (g : Nat) (w : World) (c0 : w.cell? ⟨g, 0, none⟩ = some (.int .i64 x)) (c1 : w.cell? ⟨g, 1, none⟩ = some (.int .i64 y)) :
    Calls Tryz.prog 84 #[.slice (some ⟨g, 0, none⟩) 2 2] w fun e w' => e = .returned (.int .i64 (orI x y)) ∧ w' = w := by
  go_enter Tryz.func84, Tryz.ntmps84
  go_wp2_with fail
  go_loopw [2, 8] (fun a b wr => wr = w ∧ a = .int .i64 0 ∧ ∃ k : Nat, k ≤ 2 ∧ b = .int .i64 k ∧ Hid (0 < k → x = 0) ∧ Hid (1 < k → y = 0)) (fun _ b _ => 2 - (intOf b).toNat)
  case atStart => exact ⟨rfl, rfl, 0, by omega, rfl, fun h => by omega, fun h => by omega⟩
  case round =>
    obtain ⟨rfl, rfl, k, hk, rfl, H1, H2⟩ := hrel
    match k, hk, H1, H2 with
    | 0, _, H1, H2 =>
      by_cases hx : x = 0
      · subst hx
        have HE := Lib.hid (show orI 0 y = y from rfl)
        go_wp2_with fail
        go_round
        case rel => exact ⟨by simp, by simp, 1, by omega, by simp, fun _ => by simp, fun h => by omega⟩
        case measure => simp [intOf]
      · have hx' : (x != 0) = true := by simpa using hx
        have HE := Lib.hid (show orI x y = x by unfold orI; rw [if_neg hx])
        go_wp2_with fail
        go_ret
        exact ⟨ret_int HE.out.symm, rfl⟩
    | 1, _, H1, H2 =>
      have hx := H1.out (by omega)
      have HE := Lib.hid (show orI x y = y by unfold orI; rw [if_pos hx])
      clear hx
      by_cases hy : y = 0
      · have HY := Lib.hid hy
        have hy' : (y != 0) = false := by simpa using hy
        clear hy
        go_wp2_with fail
        go_round
        case rel => exact ⟨by simp, by simp, 2, by omega, by simp, fun _ => H1.out (by omega), fun _ => HY.out⟩
        case measure => simp [intOf]
      · have hy' : (y != 0) = true := by simpa using hy
        go_wp2_with fail
        go_ret
        exact ⟨ret_int HE.out.symm, rfl⟩
    | 2, _, H1, H2 =>
      have HE := Lib.hid (show orI x y = 0 by unfold orI; rw [if_pos (H1.out (by omega)), H2.out (by omega)])
      go_wp2_with fail
      go_ret
      exact ⟨ret_int HE.out.symm, rfl⟩

set_option maxRecDepth 100000 in
set_option maxHeartbeats 1600000 in
theorem compareS_any {A B : List (List UInt8)} {g cap g2 cap2 : Nat} (w : World) (hA : A.length ≤ 60001) (hB : B.length ≤ 60001)
    (ca : ∀ j, j < A.length → w.cell? ⟨g, j, none⟩ = some (.string ⟨(A[j]?.getD []).toArray⟩)) (cb : ∀ j, j < B.length → w.cell? ⟨g2, j, none⟩ = some (.string ⟨(B[j]?.getD []).toArray⟩)) :
    Calls Tryz.prog 85 #[.slice (some ⟨g, 0, none⟩) A.length cap, .slice (some ⟨g2, 0, none⟩) B.length cap2] w fun e w' => e = .returned (.int .i64 (cmpL A B)) ∧ w' = w := by
  have CA := Lib.hid ca
  have CB := Lib.hid cb
  clear ca cb
  go_enter Tryz.func85, Tryz.ntmps85
  go_wp2_with fail
  go_loopw [4, 11] (fun a b wr => wr = w ∧ a = .int .i64 0 ∧ ∃ k : Nat, k ≤ A.length ∧ k ≤ B.length ∧ b = .int .i64 k ∧ Hid (∀ j, j < k → cmpB (A[j]?.getD []) (B[j]?.getD []) = 0)) (fun _ b _ => A.length - (intOf b).toNat)
  case atStart => exact ⟨rfl, rfl, 0, by omega, by omega, rfl, fun j h => by omega⟩
  case round =>
    obtain ⟨rfl, rfl, k, hkA, hkB, rfl, HL⟩ := hrel
    by_cases hlA : k < A.length
    · have d1 : decide ((k : Int) < (A.length : Int)) = true := by simp; omega
      have a1 := CA.out k hlA
      by_cases hlB : k < B.length
      · have d2 : decide ((B.length : Int) ≤ (k : Int)) = false := by simp; omega
        have b1 := CB.out k hlB
        generalize hx : A[k]?.getD [] = x at a1
        generalize hy : B[k]?.getD [] = y at b1
        have HX := Lib.hid hx
        have HY := Lib.hid hy
        clear hx hy
        have hS := cmpS_any ⟨x.toArray⟩ ⟨y.toArray⟩ wr
        by_cases hc : cmpB x y = 0
        · have hc' : (cmpB x y != 0) = false := by simpa using hc
          have HC := Lib.hid hc
          clear hc
          go_wp2_with fail
          refine hS.mono ?_
          rintro e w1 ⟨rfl, rfl⟩
          go_wp2_with fail
          go_roundw
          case rel => exact ⟨by simp, by simp, k + 1, by omega, by omega, by go_num, fun j hj => by
            by_cases e : j = k
            · subst e; rw [HX.out, HY.out]; exact HC.out
            · exact HL.out j (by omega)⟩
          case measure => (simp [intOf]; try omega)
        · have hc' : (cmpB x y != 0) = true := by simpa using hc
          have HE := Lib.hid (show cmpL A B = cmpB x y by
            have h := cmpL_hit HL.out hlA hlB (by rw [HX.out, HY.out]; exact hc)
            rwa [HX.out, HY.out] at h)
          clear hc
          go_wp2_with fail
          refine hS.mono ?_
          rintro e w1 ⟨rfl, rfl⟩
          go_wp2_with fail
          go_ret
          exact ⟨ret_int HE.out.symm, rfl⟩
      · have d2 : decide ((B.length : Int) ≤ (k : Int)) = true := by simp; omega
        have HE := Lib.hid (show cmpL A B = 1 by
          rw [cmpL_end (A := A) (B := B) (fun j _ hj => HL.out j (by omega)), if_neg (by omega), if_pos (by omega)])
        go_wp2_with fail
        go_ret
        exact ⟨ret_int HE.out.symm, rfl⟩
    · have d1 : decide ((k : Int) < (A.length : Int)) = false := by simp; omega
      by_cases hlB : A.length < B.length
      · have d2 : decide ((A.length : Int) < (B.length : Int)) = true := by simp; omega
        have HE := Lib.hid (show cmpL A B = -1 by
          rw [cmpL_end (A := A) (B := B) (fun j hj _ => HL.out j (by omega)), if_pos hlB])
        go_wp2_with fail
        go_ret
        exact ⟨ret_int HE.out.symm, rfl⟩
      · have d2 : decide ((A.length : Int) < (B.length : Int)) = false := by simp; omega
        have HE := Lib.hid (show cmpL A B = 0 by
          rw [cmpL_end (A := A) (B := B) (fun j hj _ => HL.out j (by omega)), if_neg hlB, if_neg (by omega)])
        go_wp2_with fail
        go_ret
        exact ⟨ret_int HE.out.symm, rfl⟩
end Go.Proofs.YteigjobliflkdaaGreatDoor
namespace Go.Proofs.YteigjobliflkdaaGreatDoor
open Go.RowKit Go.Shelf

theorem keep4 {g : Nat} {v0 v1 v2 v3 : Value} {B : Nat} {W w w' : World}
    (h : w.cell? ⟨g, 0, none⟩ = some v0 ∧ w.cell? ⟨g, 1, none⟩ = some v1 ∧ w.cell? ⟨g, 2, none⟩ = some v2 ∧ w.cell? ⟨g, 3, none⟩ = some v3 ∧ Good w ∧ B ≤ w.heap.size ∧ Below B W w) (HB : Below w.heap.size w w') :
    w'.cell? ⟨g, 0, none⟩ = some v0 ∧ w'.cell? ⟨g, 1, none⟩ = some v1 ∧ w'.cell? ⟨g, 2, none⟩ = some v2 ∧ w'.cell? ⟨g, 3, none⟩ = some v3 ∧ Good w' ∧ B ≤ w'.heap.size ∧ Below B W w' := by
  obtain ⟨h0, h1, h2, h3, hG, hs, hB⟩ := h
  have hlt := World.block_lt_of_cell? w _ h0
  exact ⟨(HB.cell (p := ⟨g, 0, none⟩) hlt).trans h0, (HB.cell (p := ⟨g, 1, none⟩) hlt).trans h1, (HB.cell (p := ⟨g, 2, none⟩) hlt).trans h2, (HB.cell (p := ⟨g, 3, none⟩) hlt).trans h3, hG.next HB, Nat.le_trans hs HB.size, hB.trans (HB.mono hs)⟩

theorem backG {s : ByteArray} {A : List (List UInt8)} (hA : segs 46 s.data.toList = A) (hs : s.size ≤ 60000) (w : World) (hG : Good w) :
    Calls Tryz.prog 86 #[.string s] w fun e w' => ∃ g cap, e = .returned (.slice (some ⟨g, 0, none⟩) A.length cap) ∧ (∀ j, j < A.reverse.length → w'.cell? ⟨g, j, none⟩ = some (.string ⟨(A.reverse[j]?.getD []).toArray⟩)) ∧ g < w'.heap.size ∧ Below w.heap.size w w' := by
  refine (backwards_any hA w hG hs).mono fun e w' ⟨g, cap, he, hown, hB⟩ => ⟨g, cap, he, fun j hj => ?_, (own_below2 hown).2, hB⟩
  rw [List.length_reverse] at hj
  exact own_cell hown j hj (by simp)

theorem compareR_any {A B : List (List UInt8)} {g cap g2 cap2 : Nat} (w : World) (hA : A.length ≤ 60001) (hB : B.length ≤ 60001)
    (ca : ∀ j, j < A.reverse.length → w.cell? ⟨g, j, none⟩ = some (.string ⟨(A.reverse[j]?.getD []).toArray⟩)) (cb : ∀ j, j < B.reverse.length → w.cell? ⟨g2, j, none⟩ = some (.string ⟨(B.reverse[j]?.getD []).toArray⟩)) :
    Calls Tryz.prog 85 #[.slice (some ⟨g, 0, none⟩) A.length cap, .slice (some ⟨g2, 0, none⟩) B.length cap2] w fun e w' => e = .returned (.int .i64 (cmpL A.reverse B.reverse)) ∧ w' = w := by
  have h := compareS_any (A := A.reverse) (B := B.reverse) (cap := cap) (cap2 := cap2) w (by simpa using hA) (by simpa using hB) ca cb
  rwa [List.length_reverse, List.length_reverse] at h
theorem two_cellsI (w : World) (s t : Int) : (w.alloc (.cells #[.int .i64 s, .int .i64 t] 3)).cell? ⟨w.heap.size, 0, none⟩ = some (.int .i64 s) ∧ (w.alloc (.cells #[.int .i64 s, .int .i64 t] 3)).cell? ⟨w.heap.size, 1, none⟩ = some (.int .i64 t) := by
  constructor <;> rw [World.cell?_alloc_at _ _ _ _ rfl] <;> rfl

set_option maxRecDepth 100000 in
set_option maxHeartbeats 3200000 in
theorem compare_any (s t : ByteArray) (w : World) (hG : Good w) (hs : s.size ≤ 60000) (ht : t.size ≤ 60000) :
    Calls Tryz.prog 24 #[.string s, .string t] w (RetV (vInt (hostCompare s.data.toList t.data.toList)) w) := by
  have HC := Lib.hid (two_cells w s t)
  have hG1 := hG.next (one_below w (.cells #[.string s, .string t] 9))
  cases hh : hostSplit s.data.toList with
  | error x =>
    have hx := (err_ne hh).2
    have HE := Lib.hid (show hostCompare s.data.toList t.data.toList = (0, x) by unfold hostCompare; rw [hh])
    have HH := Lib.hid hh
    clear hh
    go_enter Tryz.func24, Tryz.ntmps24
    go_wp2_with fail
    refine (splits2_err1 HH.out _ hG1 hs ht (by simp) HC.out.1 HC.out.2).mono ?_
    rintro e w1 ⟨rfl, HB⟩
    go_wp2_with fail
    go_ret2
    exact RetV.of (f := vInt) _ HE.out rfl (below_of_alloc HB)
  | ok r =>
    obtain ⟨n, p⟩ := r
    have HH := Lib.hid hh
    have hn : n.length ≤ 64 := (hostSplit_ok hh).2.2.1
    cases hg : hostSplit t.data.toList with
    | error x =>
      have hx := (err_ne hg).2
      have HE := Lib.hid (show hostCompare s.data.toList t.data.toList = (0, x) by unfold hostCompare; rw [hh, hg])
      have HG := Lib.hid hg
      clear hh hg
      go_enter Tryz.func24, Tryz.ntmps24
      go_wp2_with fail
      refine (splits2_err2 HH.out HG.out _ hG1 hs ht (by simp) HC.out.1 HC.out.2).mono ?_
      rintro e w1 ⟨rfl, HB⟩
      go_wp2_with fail
      go_ret2
      exact RetV.of (f := vInt) _ HE.out rfl (below_of_alloc HB)
    | ok r =>
      obtain ⟨m, q⟩ := r
      have HE := Lib.hid (show hostCompare s.data.toList t.data.toList = (hostCmp (n, p) (m, q), 0) by unfold hostCompare; rw [hh, hg])
      have HG := Lib.hid hg
      have hm : m.length ≤ 64 := (hostSplit_ok hg).2.2.1
      clear hh hg
      go_enter Tryz.func24, Tryz.ntmps24
      go_wp2_with fail
      refine (splits2_ok HH.out HG.out _ hG1 hs ht (by simp) HC.out.1 HC.out.2).mono ?_
      rintro e w1 ⟨g, cap, rfl, hown, HB⟩
      have hG2 := hG1.next HB
      have hBB := below_of_alloc HB
      have c0 := own_at hown 0 _ rfl
      have c1 := own_at hown 1 _ rfl
      have c2 := own_at hown 2 _ rfl
      have c3 := own_at hown 3 _ rfl
      have hsz := hBB.size
      have hGd : Good w1.drew := hG2.next (Below.refl _ _).drew
      have hBd : Below w.heap.size w w1.drew := hBB.drew
      clear hown HB hG1 HC HG HH hG
      have hA := segs_le 46 n
      have hB := segs_le 46 m
      generalize hA' : segs 46 n = A at hA
      generalize hB' : segs 46 m = B at hB
      have BX := backG (s := ⟨n.toArray⟩) hA' (by rw [size_mk]; omega)
      have BY := backG (s := ⟨m.toArray⟩) hB' (by rw [size_mk]; omega)
      have HS := Lib.hid (show hostCmp (n, p) (m, q) = orI (cmpL A.reverse B.reverse) (Lib.compareInt p q) by unfold hostCmp orI cmpI Lib.compareInt; rw [hA', hB'])
      clear hA' hB'
      unfold S at c0 c2
      generalize (⟨n.toArray⟩ : ByteArray) = sn at c0 BX
      generalize (⟨m.toArray⟩ : ByteArray) = sm at c2 BY
      go_wp2_with fail
      go_region_held3 (fun w' => w'.cell? ⟨g, 0, none⟩ = some (.string sn) ∧ w'.cell? ⟨g, 1, none⟩ = some (.int .i64 p) ∧ w'.cell? ⟨g, 2, none⟩ = some (.string sm) ∧ w'.cell? ⟨g, 3, none⟩ = some (.int .i64 q) ∧ Good w' ∧ w.heap.size ≤ w'.heap.size ∧ Below w.heap.size w w')
        (first | assumption | (go_split_ands; refine ⟨?_, ?_, ?_, ?_, ?_, ?_, ?_⟩ <;> first | assumption | (simp; omega)) | (refine keep4 ?_ (one_below _ _); first | assumption | (go_split_ands; refine ⟨?_, ?_, ?_, ?_, ?_, ?_, ?_⟩ <;> assumption)) | (exact keep4 (by assumption) (by assumption)) | (go_split_ands; refine keep4 ⟨by assumption, by assumption, by assumption, by assumption, by assumption, by assumption, by assumption⟩ ?_; assumption) | go_keep)
        (first
          | (go_at_call 86; with_reducible show Calls Tryz.prog 86 #[.string sn] _ _; refine (BX _ (by go_split_ands; assumption)).mono ?_; rintro e wx ⟨gx, capx, rfl, cx, lx, HBx⟩)
          | (go_at_call 86; refine (BY _ (by go_split_ands; assumption)).mono ?_; rintro e wy ⟨gy, capy, rfl, cy, ly, HBy⟩)
          | (go_at_call 85; refine (compareR_any (A := A) (B := B) _ (by omega) (by omega) (fun j hj => (HBy.cell (p := ⟨gx, j, none⟩) lx).trans (cx j hj)) cy).mono ?_; rintro e wz ⟨rfl, rfl⟩)
          | (go_at_call 87; refine (Tryz.cmp_Compare_int p q _).mono ?_; rintro e wu ⟨rfl, rfl⟩)
          | (go_at_call 84; refine (or_any _ _ _ _ (two_cellsI _ _ _).1 (two_cellsI _ _ _).2).mono ?_; rintro e wv ⟨rfl, rfl⟩))
      go_wp2_with fail
      have hBelow : Below w.heap.size w (wu.alloc (.cells #[.int .i64 (cmpL A.reverse B.reverse), .int .i64 (Lib.compareInt p q)] 3)) := by
        go_split_ands
        assumption
      go_ret2
      exact RetV.of (f := vInt) _ HE.out (by rw [HS.out]; rfl) hBelow
end Go.Proofs.YteigjobliflkdaaGreatDoor
/- Walk: host.Under. -/
namespace Go.Proofs.YteigjobliflkdaaGreatDoor
open Go.RowKit

def joinS (c : UInt8) : List (List UInt8) → List UInt8
  | [] => []
  | [a] => a
  | a :: b :: t => a ++ c :: joinS c (b :: t)
theorem join_segs (c : UInt8) : ∀ l : List UInt8, joinS c (segs c l) = l
  | [] => rfl
  | b :: l => by
    have ih := join_segs c l
    unfold segs
    split
    · rename_i e; subst e
      cases h : segs b l with
      | nil => exact absurd h (segs_ne b l)
      | cons x t => rw [h] at ih; simp [joinS, ih]
    · split
      · rename_i h; exact absurd h (segs_ne c l)
      · rename_i x t h
        rw [h] at ih
        cases t with
        | nil => simp [joinS] at ih ⊢; exact ih
        | cons y t => simp [joinS] at ih ⊢; exact ih
theorem segs_inj (c : UInt8) {x y : List UInt8} (h : segs c x = segs c y) : x = y := by rw [← join_segs c x, h, join_segs]

/-- acc: the names that lie in the map; cur: the one at hand. -/
def UnderAt (A : List UInt8) (acc : List (List UInt8)) (cur : List UInt8) : Prop := ∀ x, (segs 46 x <:+ segs 46 A) ↔ (x ∈ acc ∨ segs 46 x <:+ segs 46 cur)
theorem UnderAt.start (A : List UInt8) : UnderAt A [] A := fun x => by simp
theorem UnderAt.next {A : List UInt8} {acc : List (List UInt8)} {cur : List UInt8} (h : UnderAt A acc cur) (hc : (cut1 46 cur).2.2 = true) : UnderAt A (acc ++ [cur]) (cut1 46 cur).2.1 := fun x => by
  have e : segs 46 cur = (cut1 46 cur).1 :: segs 46 (cut1 46 cur).2.1 := by rw [segs_cut 46 cur, hc]; simp
  rw [h x, List.mem_append, List.mem_singleton, e, List.suffix_cons_iff, ← e, or_assoc]
  constructor
  · rintro (h | h | h)
    · exact Or.inl h
    · exact Or.inr (Or.inl (segs_inj 46 h))
    · exact Or.inr (Or.inr h)
  · rintro (h | h | h)
    · exact Or.inl h
    · exact Or.inr (Or.inl (by rw [h]))
    · exact Or.inr (Or.inr h)
theorem UnderAt.last {A : List UInt8} {acc : List (List UInt8)} {cur : List UInt8} (h : UnderAt A acc cur) (hc : (cut1 46 cur).2.2 = false) (x : List UInt8) : (segs 46 x).isSuffixOf (segs 46 A) = decide (x ∈ acc ++ [cur]) := by
  have e : segs 46 cur = [cur] := by rw [segs_cut 46 cur, hc]; simp
  rw [Bool.eq_iff_iff, List.isSuffixOf_iff_suffix, decide_eq_true_eq, h x, List.mem_append, List.mem_singleton]
  constructor
  · rintro (h | h)
    · exact Or.inl h
    · refine Or.inr (segs_inj 46 ?_)
      rw [e] at h ⊢
      rcases List.suffix_cons_iff.1 h with h | h
      · exact h
      · exact absurd (List.suffix_nil.1 h) (segs_ne 46 x)
  · rintro (h | h)
    · exact Or.inl h
    · exact Or.inr (by rw [h]; exact List.suffix_refl _)

/-- The set of names in the map. -/
noncomputable def names (acc : List (List UInt8)) : DataW Unit := Maps.setOf (.lit (.bool true)) (acc.map Lit.string)
theorem names_snoc (acc : List (List UInt8)) (x : List UInt8) : names (acc ++ [x]) = (names acc).put (.string x) (.lit (.bool true)) := by
  unfold names; rw [List.map_append, List.map_singleton, Maps.setOf_snoc]
theorem names_map : ∀ (n : Nat) (acc : List (List UInt8)), acc.length = n → Maps.IsMap (names acc)
  | 0, acc, h => by
    have := List.length_eq_zero_iff.1 h
    subst this; exact ⟨[], rfl⟩
  | n + 1, acc, h => by
    rcases List.eq_nil_or_concat acc with rfl | ⟨acc, y, rfl⟩
    · simp at h
    · rw [List.concat_eq_append] at h ⊢
      rw [names_snoc]
      exact (names_map n acc (by simpa using h)).put _ _
theorem names_at (x : List UInt8) (z : DataW Unit) : ∀ (n : Nat) (acc : List (List UInt8)), acc.length = n → (names acc).atKey (.string x) z = if x ∈ acc then .lit (.bool true) else z
  | 0, acc, h => by
    have := List.length_eq_zero_iff.1 h
    subst this; rfl
  | n + 1, acc, h => by
    rcases List.eq_nil_or_concat acc with rfl | ⟨acc, y, rfl⟩
    · simp at h
    · rw [List.concat_eq_append] at h ⊢
      rw [names_snoc]
      by_cases e : y = x
      · subst e
        rw [Maps.atKey_put_same (names_map _ acc rfl) (by simp [WideAt.IsKeyLit]), if_pos (by simp)]
      · rw [Maps.atKey_put_other (by intro e'; injection e' with e'; exact e e'.symm), names_at x z n acc (by simpa using h)]
        simp [Ne.symm e]

theorem plainElem_bool_inv {P : Program} {e : TypeId} (he : P.underlying e = some .bool) {v : Value} {z : DataW Unit × List MemPlace} (h : plainElem P e v = some z) : ∃ a, v = .bool a ∧ z = (.lit (.bool a), []) := by
  unfold plainElem at h
  rw [he] at h
  cases v <;> simp at h
  subst h
  exact ⟨_, rfl, rfl⟩
theorem zero4 (w : World) : (zeroValue 4).run Tryz.prog w = .ok (.bool false) w := by kernel_rfl
theorem lookup_name {w : World} {b n : Nat} {acc : List (List UInt8)} (h : w.ownsMap Tryz.prog 9 (plainElem Tryz.prog 4) b n (names acc)) (s : ByteArray) (hs : s.size ≤ 60000) :
    (Instr.lookup 81 (.map (some b)) (.string s) false).run Tryz.prog w = .ok (.bool (decide (s.data.toList ∈ acc))) w := by
  obtain ⟨v, ps, hrun, hv⟩ := h.lookup (Maps.string_keyed Tryz.underlying9) Tryz.underlying81 (zero4 w) (plainElem_bool Tryz.underlying4 false) (WideMaps.keyOf_string_mk Tryz.underlying9 (s := s) (by unfold maxLen; omega))
  rw [names_at _ _ _ acc rfl] at hv
  rw [hrun]
  obtain ⟨a, rfl, hz⟩ := plainElem_bool_inv Tryz.underlying4 hv
  by_cases hm : s.data.toList ∈ acc
  · rw [if_pos hm] at hz; simp at hz; rw [hz.1]; simp [hm]
  · rw [if_neg hm] at hz; simp at hz; rw [hz.1]; simp [hm]

theorem map_below {w w' : World} {b n : Nat} {D : DataW Unit} (h : w.ownsMap Tryz.prog 9 (plainElem Tryz.prog 4) b n D) (hB : Below w.heap.size w w') : w'.ownsMap Tryz.prog 9 (plainElem Tryz.prog 4) b n D := by
  have hl := h.lt
  obtain ⟨es, clock, hb, r⟩ := h
  exact ⟨es, clock, by rw [hB.block b hl]; exact hb, r⟩

def strLen : Value → Nat
  | .string s => s.size
  | _ => 0

set_option maxRecDepth 100000 in
set_option maxHeartbeats 1600000 in
theorem under_any (s t : ByteArray) (w : World) (hG : Good w) (hs : s.size ≤ 60000) (ht : t.size ≤ 60000) :
    Calls Tryz.prog 22 #[.string s, .string t] w (RetV (vBool (hostUnder s.data.toList t.data.toList)) w) := by
  have HC := Lib.hid (two_cells w s t)
  have hG1 := hG.next (one_below w (.cells #[.string s, .string t] 9))
  have hmm := @run_makeMap Tryz.prog
  cases hh : hostSplit s.data.toList with
  | error x =>
    have hx := (err_ne hh).1
    have HE := Lib.hid (show hostUnder s.data.toList t.data.toList = (false, x) by unfold hostUnder; rw [hh])
    have HH := Lib.hid hh
    clear hh
    go_enter Tryz.func22, Tryz.ntmps22
    go_wp2_with fail
    refine (splits2_err1 HH.out _ hG1 hs ht (by simp) HC.out.1 HC.out.2).mono ?_
    rintro e w1 ⟨rfl, HB⟩
    go_wp2_with fail
    go_ret2
    exact RetV.of (f := vBool) _ HE.out rfl (below_of_alloc HB)
  | ok a =>
    cases hg : hostSplit t.data.toList with
    | error x =>
      have hx := (err_ne hg).1
      have HE := Lib.hid (show hostUnder s.data.toList t.data.toList = (false, x) by unfold hostUnder; rw [hh, hg])
      have HH := Lib.hid hh
      have HG := Lib.hid hg
      clear hh hg
      go_enter Tryz.func22, Tryz.ntmps22
      go_wp2_with fail
      refine (splits2_err2 HH.out HG.out _ hG1 hs ht (by simp) HC.out.1 HC.out.2).mono ?_
      rintro e w1 ⟨rfl, HB⟩
      go_wp2_with fail
      go_ret2
      exact RetV.of (f := vBool) _ HE.out rfl (below_of_alloc HB)
    | ok b =>
      obtain ⟨n, p⟩ := a
      obtain ⟨m, q⟩ := b
      have HE := Lib.hid (show hostUnder s.data.toList t.data.toList = ((segs 46 m).isSuffixOf (segs 46 n), 0) by unfold hostUnder; rw [hh, hg])
      have hn : n.length ≤ 64 := (hostSplit_ok hh).2.2.1
      have hm : m.length ≤ 64 := (hostSplit_ok hg).2.2.1
      have HH := Lib.hid hh
      have HG := Lib.hid hg
      clear hh hg
      go_enter Tryz.func22, Tryz.ntmps22
      go_wp2_with fail
      refine (splits2_ok HH.out HG.out _ hG1 hs ht (by simp) HC.out.1 HC.out.2).mono ?_
      rintro e w1 ⟨g, cap, rfl, hown, HB⟩
      have HB1 := below_of_alloc HB
      have hown1 := own_below hown (one_below w1 (.map #[] 0))
      have hmap := World.ownsMap_made w1 Tryz.prog 9 (plainElem (H := Unit) Tryz.prog 4)
      have HB2 := HB1.alloc HB1.size (.map #[] 0)
      have hG2 := hG.next HB2
      have c0 := own_at hown1 0 (.string ⟨n.toArray⟩) rfl
      have hgz := hG.size
      clear HB
      go_wp2_with fail
      go_loopw [9] (fun nm wr => ∃ (cur : List UInt8) (acc : List (List UInt8)), nm = .string ⟨cur.toArray⟩ ∧ cur.length + acc.length ≤ 64 ∧ Hid (UnderAt n acc cur) ∧ Hid (wr.ownsMap Tryz.prog 9 (plainElem Tryz.prog 4) w1.heap.size acc.length (names acc)) ∧ Hid (wr.ownsRow (w.alloc (.cells #[.string s, .string t] 9)).heap.size 80 2 (.slice (some ⟨g, 0, none⟩) 2 cap) 2 [S n, .int .i64 p, S m, .int .i64 q]) ∧ Good wr ∧ Below w.heap.size w wr) (fun nm _ => strLen nm)
      case atStart => exact ⟨n, [], rfl, by simpa using hn, UnderAt.start n, hmap, hown1, hG2, HB2⟩
      case round =>
        clear hmap hown1 hG2 c0
        obtain ⟨cur, acc, rfl, hle, HU, HM, hown2, hG3, HB3⟩ := hrel
        go_wp2_with (at_mapUpdate; refine wpList_mapUpdate_own _ rfl _ _ _ 81 rfl 9 4 (Maps.string_keyed Tryz.underlying9) Tryz.underlying81 _ w1.heap.size acc.length _ rfl HM.out (by unfold maxLen; omega) _ _ _ rfl rfl (WideMaps.keyOf_string_mk Tryz.underlying9 (s := ⟨cur.toArray⟩) (by rw [size_mk]; unfold maxLen; omega)) _ [] (plainElem_bool Tryz.underlying4 true) ?_)
        intro w4 hm4 hg4
        have hgl : g < w1.heap.size := (hown.lt g rfl).2
        have HB4 := HB3.grown hg4 HB3.size (fun k hk => by cases hk; exact HB1.size)
        have hown4 := hown2.out.kept hg4 (Or.inr (by simp [Value.ownBlock]; omega))
        rw [← names_snoc] at hm4
        have hG4 := hG.next HB4
        clear hown2 HB3 HM hG3 hg4
        go_wp2_with fail
        refine (cut_any 46 ⟨cur.toArray⟩ w4 hG4 (by rw [size_mk]; omega)).mono ?_
        rintro e w5 ⟨rfl, HB5⟩
        have hm5 := map_below hm4 HB5
        have hown5 := own_below hown4 HB5
        have HB6 := HB4.trans (HB5.mono HB4.size)
        have hG5 := hG4.next HB5
        clear hown4 HB4 hm4 hG4 HB5
        have hlc := (cut1_len 46 cur).2.2
        cases hc : (cut1 46 cur).2.2 with
        | true =>
          have HUN := Lib.hid (HU.out.next hc)
          have hl := hlc hc
          clear hlc
          generalize cut1 46 cur = r at HUN hl
          clear hc
          go_wp2_with fail
          refine ⟨⟨r.2.1, acc ++ [cur], rfl, by rw [List.length_append]; simp; omega, HUN, by rw [List.length_append]; exact hm5, hown5, hG5, HB6⟩, by simp only [strLen, size_mk]; omega⟩
        | false =>
          have HUL := Lib.hid (HU.out.last hc m)
          clear hlc
          have hlk := lookup_name hm5 ⟨m.toArray⟩ (by rw [size_mk]; omega)
          rw [show (⟨m.toArray⟩ : ByteArray).data.toList = m from rfl] at hlk
          generalize decide (m ∈ acc ++ [cur]) = b at hlk HUL
          have c2 := own_at hown5 2 (.string ⟨m.toArray⟩) rfl
          clear hc hm5
          go_wp2_with fail
          go_ret2
          exact RetV.of (f := vBool) _ HE.out (by rw [HUL.out]; rfl) HB6
end Go.Proofs.YteigjobliflkdaaGreatDoor
namespace Go.Proofs.YteigjobliflkdaaGreatDoor
open Go.RowKit

theorem split_okB {s n : ByteArray} {p : Int} (h : hostSplit s.data.toList = .ok (n.data.toList, p)) (w : World) (hG : Good w) (hs : s.size ≤ 60000) :
    Calls Tryz.prog 26 #[.string s] w fun e w' => e = .returned (.tuple #[.string n, .int .i64 p, .int .i64 0]) ∧ Below w.heap.size w w' := by
  have := split_ok h w hG hs; rwa [bs_mk] at this

set_option maxRecDepth 100000 in
set_option maxHeartbeats 800000 in
theorem splits_t {s n : ByteArray} {p : Int} (h : hostSplit s.data.toList = .ok (n.data.toList, p)) (w : World) (hG : Good w) (hs : s.size ≤ 60000) :
    Calls Tryz.prog 37 #[.string s, .string n, .int .i64 p] w (RetV (.bool true) w) := by
  have HH := Lib.hid h
  clear h
  go_enter Tryz.func37, Tryz.ntmps37
  go_wp2_with fail
  refine (split_okB HH.out _ hG hs).mono ?_
  rintro e w1 ⟨rfl, HB⟩
  go_wp2_with fail
  go_ret
  exact RetV.mk (by simp) HB

set_option maxRecDepth 100000 in
set_option maxHeartbeats 800000 in
theorem fails_t {s : ByteArray} {x : Int} (h : hostSplit s.data.toList = .error x) (w : World) (hG : Good w) (hs : s.size ≤ 60000) :
    Calls Tryz.prog 38 #[.string s, .int .i64 x] w (RetV (.bool true) w) := by
  have HH := Lib.hid h
  clear h
  go_enter Tryz.func38, Tryz.ntmps38
  go_wp2_with fail
  refine (split_err HH.out _ hG hs).mono ?_
  rintro e w1 ⟨rfl, HB⟩
  go_wp2_with fail
  go_ret
  exact RetV.mk (by simp) HB

theorem normal_okB {s n : ByteArray} (h : hostNormal s.data.toList = .ok n.data.toList) (w : World) (hG : Good w) (hs : s.size ≤ 60000) :
    Calls Tryz.prog 28 #[.string s] w fun e w' => e = .returned (.tuple #[.string n, .int .i64 0]) ∧ Below w.heap.size w w' := by
  have := normal_any s w hG hs; rw [h] at this
  have h2 : vStr (.ok n.data.toList) = .tuple #[.string n, .int .i64 0] := by show Value.tuple #[.string ⟨n.data.toList.toArray⟩, .int .i64 0] = _; rw [bs_mk]
  rw [h2] at this; exact this

set_option maxRecDepth 100000 in
set_option maxHeartbeats 800000 in
theorem normal_t {s n : ByteArray} (h : hostNormal s.data.toList = .ok n.data.toList) (w : World) (hG : Good w) (hs : s.size ≤ 60000) :
    Calls Tryz.prog 39 #[.string s, .string n] w (RetV (.bool true) w) := by
  have HH := Lib.hid h
  clear h
  go_enter Tryz.func39, Tryz.ntmps39
  go_wp2_with fail
  refine (normal_okB HH.out _ hG hs).mono ?_
  rintro e w1 ⟨rfl, HB⟩
  go_wp2_with fail
  go_ret
  exact RetV.mk (by simp) HB

/-- Is a under b, and is that known? -/
def underB (a b : List UInt8) : Bool := (hostUnder a b).2 == 0 && (hostUnder a b).1

theorem under_okB {s t : ByteArray} {r : Bool × Int} (h : hostUnder s.data.toList t.data.toList = r) (w : World) (hG : Good w) (hs : s.size ≤ 60000) (ht : t.size ≤ 60000) :
    Calls Tryz.prog 22 #[.string s, .string t] w fun e w' => e = .returned (.tuple #[.bool r.1, .int .i64 r.2]) ∧ Below w.heap.size w w' := by
  subst h; exact under_any s t w hG hs ht

set_option maxRecDepth 100000 in
set_option maxHeartbeats 800000 in
theorem under_t (s t : ByteArray) (w : World) (hG : Good w) (hs : s.size ≤ 60000) (ht : t.size ≤ 60000) :
    Calls Tryz.prog 40 #[.string s, .string t] w (RetV (.bool (underB s.data.toList t.data.toList)) w) := by
  have HE := Lib.hid (show underB s.data.toList t.data.toList = ((hostUnder s.data.toList t.data.toList).2 == 0 && (hostUnder s.data.toList t.data.toList).1) from rfl)
  generalize hh : hostUnder s.data.toList t.data.toList = r at HE
  have HH := Lib.hid hh
  clear hh
  obtain ⟨x, y⟩ := r
  by_cases hy : y = 0
  · have hy' : (y == 0) = true := by simpa using hy
    have HF := Lib.hid (show underB s.data.toList t.data.toList = x by rw [HE.out]; simp [hy])
    clear hy
    go_enter Tryz.func40, Tryz.ntmps40
    go_wp2_with fail
    refine (under_okB HH.out _ hG hs ht).mono ?_
    rintro e w1 ⟨rfl, HB⟩
    go_wp2_with fail
    go_ret
    exact RetV.mk (by rw [HF.out]; rfl) HB
  · have hy' : (y == 0) = false := by simpa using hy
    have HF := Lib.hid (show underB s.data.toList t.data.toList = false by rw [HE.out]; simp [hy])
    clear hy
    go_enter Tryz.func40, Tryz.ntmps40
    go_wp2_with fail
    refine (under_okB HH.out _ hG hs ht).mono ?_
    rintro e w1 ⟨rfl, HB⟩
    go_wp2_with fail
    go_ret
    exact RetV.mk (by rw [HF.out]; rfl) HB

theorem compare_okB {s t : ByteArray} {r : Int × Int} (h : hostCompare s.data.toList t.data.toList = r) (w : World) (hG : Good w) (hs : s.size ≤ 60000) (ht : t.size ≤ 60000) :
    Calls Tryz.prog 24 #[.string s, .string t] w fun e w' => e = .returned (.tuple #[.int .i64 r.1, .int .i64 r.2]) ∧ Below w.heap.size w w' := by
  subst h; exact compare_any s t w hG hs ht

set_option maxRecDepth 100000 in
set_option maxHeartbeats 800000 in
theorem compares_t {s t : ByteArray} {x : Int} (h : hostCompare s.data.toList t.data.toList = (x, 0)) (w : World) (hG : Good w) (hs : s.size ≤ 60000) (ht : t.size ≤ 60000) :
    Calls Tryz.prog 41 #[.string s, .string t, .int .i64 x] w (RetV (.bool true) w) := by
  have HH := Lib.hid h
  clear h
  go_enter Tryz.func41, Tryz.ntmps41
  go_wp2_with fail
  refine (compare_okB HH.out _ hG hs ht).mono ?_
  rintro e w1 ⟨rfl, HB⟩
  go_wp2_with fail
  go_ret
  exact RetV.mk (by simp) HB

set_option maxRecDepth 100000 in
set_option maxHeartbeats 1600000 in
theorem awake_t (w : World) (hG : Good w) : Calls Tryz.prog 19 #[] w (RetV (.bool true) w) := by
  have C1 := fun w hG => splits_t (s := ⟨#[87, 87, 87, 46, 97, 46, 79, 114, 103, 58, 48, 48, 56, 48]⟩) (n := ⟨#[119, 119, 119, 46, 97, 46, 111, 114, 103]⟩) (p := 80) (by kernel_rfl) w hG (by decide)
  have C2 := fun w hG => fails_t (s := ⟨#[97, 58, 48]⟩) (x := 2) (by kernel_rfl) w hG (by decide)
  have C3 := fun w hG => normal_t (s := ⟨#[65, 46, 66, 58, 56, 48, 56, 48]⟩) (n := ⟨#[97, 46, 98, 58, 56, 48, 56, 48]⟩) (by kernel_rfl) w hG (by decide)
  have C4 := fun w hG => under_t ⟨#[120, 46, 97, 46, 111, 114, 103]⟩ ⟨#[65, 46, 111, 114, 103, 58, 57, 57]⟩ w hG (by decide) (by decide)
  rw [show underB (⟨#[120, 46, 97, 46, 111, 114, 103]⟩ : ByteArray).data.toList (⟨#[65, 46, 111, 114, 103, 58, 57, 57]⟩ : ByteArray).data.toList = true by kernel_rfl] at C4
  have C5 := fun w hG => compares_t (s := ⟨#[97, 46, 111, 114, 103]⟩) (t := ⟨#[98, 46, 111, 114, 103]⟩) (x := -1) (by kernel_rfl) w hG (by decide) (by decide)
  go_enter Tryz.func19, Tryz.ntmps19
  go_wp2_with fail
  refine (C1 _ hG).mono ?_
  rintro e w1 ⟨rfl, HB1⟩
  have hG1 := hG.next HB1
  go_wp2_with fail
  refine (C2 _ hG1).mono ?_
  rintro e w2 ⟨rfl, HB2⟩
  have hG2 := hG1.next HB2
  go_wp2_with fail
  refine (C3 _ hG2).mono ?_
  rintro e w3 ⟨rfl, HB3⟩
  have hG3 := hG2.next HB3
  go_wp2_with fail
  refine (C4 _ hG3).mono ?_
  rintro e w4 ⟨rfl, HB4⟩
  have hG4 := hG3.next HB4
  go_wp2_with fail
  refine (C5 _ hG4).mono ?_
  rintro e w5 ⟨rfl, HB5⟩
  have z1 := HB1.size
  have z2 := HB2.size
  have z3 := HB3.size
  have z4 := HB4.size
  have HB : Below w.heap.size w w5 := (((HB1.trans (HB2.mono z1)).trans (HB3.mono (by omega))).trans (HB4.mono (by omega))).trans (HB5.mono (by omega))
  go_wp2_with fail
  go_ret
  exact RetV.mk rfl HB
end Go.Proofs.YteigjobliflkdaaGreatDoor
namespace Go.Proofs.YteigjobliflkdaaGreatDoor
open Go.RowKit

theorem same_okB {s t : ByteArray} {r : Bool × Int} (h : hostSame s.data.toList t.data.toList = r) (w : World) (hG : Good w) (hs : s.size ≤ 60000) (ht : t.size ≤ 60000) :
    Calls Tryz.prog 20 #[.string s, .string t] w fun e w' => e = .returned (.tuple #[.bool r.1, .int .i64 r.2]) ∧ Below w.heap.size w w' := by
  subst h; exact same_any s t w hG hs ht
theorem same_refB {s t : ByteArray} {r : Bool × Int} (h : hostSame s.data.toList t.data.toList = r) (w : World) (hs : s.size ≤ 60000) (ht : t.size ≤ 60000) :
    Calls Tryz.prog 21 #[.string s, .string t] w fun e w' => e = .returned (.tuple #[.bool r.1, .int .i64 r.2]) ∧ Below w.heap.size w w' := by
  subst h; exact same_ref s t w hs ht
theorem under_refB {s t : ByteArray} {r : Bool × Int} (h : hostUnder s.data.toList t.data.toList = r) (w : World) (hs : s.size ≤ 60000) (ht : t.size ≤ 60000) :
    Calls Tryz.prog 23 #[.string s, .string t] w fun e w' => e = .returned (.tuple #[.bool r.1, .int .i64 r.2]) ∧ Below w.heap.size w w' := by
  subst h; exact under_ref s t w hs ht
theorem compare_refB {s t : ByteArray} {r : Int × Int} (h : hostCompare s.data.toList t.data.toList = r) (w : World) (hs : s.size ≤ 60000) (ht : t.size ≤ 60000) :
    Calls Tryz.prog 25 #[.string s, .string t] w fun e w' => e = .returned (.tuple #[.int .i64 r.1, .int .i64 r.2]) ∧ Below w.heap.size w w' := by
  subst h; exact compare_ref s t w hs ht

set_option maxRecDepth 100000 in
set_option maxHeartbeats 1600000 in
theorem twos_t (s t : ByteArray) (w : World) (hG : Good w) : Calls Tryz.prog 3 #[.string s, .string t] w (RetV (.bool true) w) := by
  by_cases h1 : 140 < s.size
  · have d1 : decide ((140 : Int) < (s.size : Int)) = true := by simp; omega
    go_enter Tryz.func3, Tryz.ntmps3
    go_wp2_with fail
    refine (awake_t _ hG).mono ?_
    rintro e w1 ⟨rfl, HB⟩
    go_wp2_with fail
    go_ret
    exact RetV.mk rfl HB
  have d1 : decide ((140 : Int) < (s.size : Int)) = false := by simp; omega
  by_cases h2 : 140 < t.size
  · have d2 : decide ((140 : Int) < (t.size : Int)) = true := by simp; omega
    go_enter Tryz.func3, Tryz.ntmps3
    go_wp2_with fail
    refine (awake_t _ hG).mono ?_
    rintro e w1 ⟨rfl, HB⟩
    go_wp2_with fail
    go_ret
    exact RetV.mk rfl HB
  have d2 : decide ((140 : Int) < (t.size : Int)) = false := by simp; omega
  have hs : s.size ≤ 60000 := by omega
  have ht : t.size ≤ 60000 := by omega
  obtain ⟨r1, R1⟩ : ∃ r, hostSame s.data.toList t.data.toList = r := ⟨_, rfl⟩
  obtain ⟨r2, R2⟩ : ∃ r, hostUnder s.data.toList t.data.toList = r := ⟨_, rfl⟩
  obtain ⟨r3, R3⟩ : ∃ r, hostCompare s.data.toList t.data.toList = r := ⟨_, rfl⟩
  obtain ⟨a1, b1⟩ := r1
  obtain ⟨a2, b2⟩ := r2
  obtain ⟨a3, b3⟩ := r3
  have R1 := Lib.hid R1
  have R2 := Lib.hid R2
  have R3 := Lib.hid R3
  clear h1 h2
  go_enter Tryz.func3, Tryz.ntmps3
  go_wp2_with fail
  refine (same_okB R1.out _ hG hs ht).mono ?_
  rintro e w1 ⟨rfl, HB1⟩
  have hG1 := hG.next HB1
  go_wp2_with fail
  refine (same_refB R1.out _ hs ht).mono ?_
  rintro e w2 ⟨rfl, HB2⟩
  have hG2 := hG1.next HB2
  go_wp2_with fail
  refine (under_okB R2.out _ hG2 hs ht).mono ?_
  rintro e w3 ⟨rfl, HB3⟩
  have hG3 := hG2.next HB3
  go_wp2_with fail
  refine (under_refB R2.out _ hs ht).mono ?_
  rintro e w4 ⟨rfl, HB4⟩
  have hG4 := hG3.next HB4
  go_wp2_with fail
  refine (compare_okB R3.out _ hG4 hs ht).mono ?_
  rintro e w5 ⟨rfl, HB5⟩
  have hG5 := hG4.next HB5
  go_wp2_with fail
  refine (compare_refB R3.out _ hs ht).mono ?_
  rintro e w6 ⟨rfl, HB6⟩
  have hG6 := hG5.next HB6
  go_wp2_with fail
  refine (awake_t _ hG6).mono ?_
  rintro e w7 ⟨rfl, HB7⟩
  have HB : Below w.heap.size w w7 := below7 HB1 HB2 HB3 HB4 HB5 HB6 HB7
  go_wp2_with fail
  go_ret
  exact RetV.mk rfl HB
end Go.Proofs.YteigjobliflkdaaGreatDoor
namespace Go.Proofs.YteigjobliflkdaaGreatDoor
open Go.RowKit

/-- Both rows hold the same texts. -/
def sameB (A B : List (List UInt8)) : Bool := A == B

theorem getD_S (A : List (List UInt8)) (j : Nat) (h : j < A.length) : A[j]?.getD [] = A[j] := by rw [List.getElem?_eq_getElem h]; rfl

set_option maxRecDepth 100000 in
set_option maxHeartbeats 800000 in
theorem sameTexts_any {A B : List (List UInt8)} {g cap g2 cap2 : Nat} (w : World) (hA : A.length ≤ 60001) (hB : B.length ≤ 60001)
    (ca : ∀ j, j < A.length → w.cell? ⟨g, j, none⟩ = some (.string ⟨(A[j]?.getD []).toArray⟩)) (cb : ∀ j, j < B.length → w.cell? ⟨g2, j, none⟩ = some (.string ⟨(B[j]?.getD []).toArray⟩)) :
    Calls Tryz.prog 36 #[.slice (some ⟨g, 0, none⟩) A.length cap, .slice (some ⟨g2, 0, none⟩) B.length cap2] w (RetV (.bool (sameB A B)) w) := by
  have CA := Lib.hid ca
  have CB := Lib.hid cb
  clear ca cb
  by_cases hl : A.length = B.length
  · have HL := Lib.hid hl
    have d0 : ((A.length : Int) != (B.length : Int)) = false := by simp; omega
    clear hl
    go_enter Tryz.func36, Tryz.ntmps36
    go_wp2_with fail
    go_loopw [4, 5] (fun a b wr => Below w.heap.size w wr ∧ a = .bool false ∧ ∃ k : Nat, k ≤ A.length ∧ b = .int .i64 k ∧ Hid (∀ j, j < k → A[j]?.getD [] = B[j]?.getD [])) (fun _ b _ => A.length - (intOf b).toNat)
    case atStart => exact ⟨Below.refl _ _, rfl, 0, by omega, rfl, fun j h => by omega⟩
    case round =>
      obtain ⟨HBW, rfl, k, hkA, rfl, HK⟩ := hrel
      by_cases hlt : k < A.length
      · have d1 : decide ((k : Int) < (A.length : Int)) = true := by simp; omega
        have a1 := (HBW.cell (p := ⟨g, k, none⟩) (World.block_lt_of_cell? w _ (CA.out k hlt))).trans (CA.out k hlt)
        have hkB : k < B.length := by have := HL.out; omega
        have b1 := (HBW.cell (p := ⟨g2, k, none⟩) (World.block_lt_of_cell? w _ (CB.out k hkB))).trans (CB.out k hkB)
        generalize hx : A[k]?.getD [] = x at a1
        generalize hy : B[k]?.getD [] = y at b1
        have HX := Lib.hid hx
        have HY := Lib.hid hy
        have HkB := Lib.hid hkB
        clear hx hy
        by_cases hc : x = y
        · have hc' : (!(x == y)) = false := by simp [hc]
          have HC := Lib.hid hc
          clear hc
          go_wp2_with fail
          go_quiet (fail)
          go_wp2_with fail
          exact ⟨⟨below_drewN HBW _, rfl, k + 1, by omega, by go_num, fun j hj => by
            by_cases e : j = k
            · subst e; rw [HX.out, HY.out]; exact HC.out
            · exact HK.out j (by omega)⟩, by (simp [intOf]; try omega)⟩
        · have hc' : (!(x == y)) = true := by simp [hc]
          have HE := Lib.hid (show sameB A B = false by
            unfold sameB; rw [beq_eq_false_iff_ne]; intro e; subst e; exact hc (HX.out.symm.trans HY.out))
          clear hc
          go_wp2_with fail
          go_quiet (fail)
          go_wp2_with fail
          go_ret
          exact RetV.mk (by rw [HE.out]; rfl) (below_drewN HBW _)
      · have d1 : decide ((k : Int) < (A.length : Int)) = false := by simp; omega
        have HE := Lib.hid (show sameB A B = true by
          unfold sameB; rw [beq_iff_eq]
          apply List.ext_getElem HL.out
          intro j h1 h2
          have := HK.out j (by omega)
          rwa [getD_S A j h1, getD_S B j h2] at this)
        go_wp2_with fail
        go_ret
        exact RetV.mk (by rw [HE.out]; rfl) HBW
  · have HE := Lib.hid (show sameB A B = false by unfold sameB; rw [beq_eq_false_iff_ne]; intro e; exact hl (by rw [e]))
    have d0 : ((A.length : Int) != (B.length : Int)) = true := by simp; omega
    go_enter Tryz.func36, Tryz.ntmps36
    go_wp2_with fail
    go_ret
    exact RetV.mk (by rw [HE.out]; rfl) (Below.refl _ _)
end Go.Proofs.YteigjobliflkdaaGreatDoor
namespace Go.Proofs.YteigjobliflkdaaGreatDoor
open Go.RowKit

set_option maxRecDepth 100000 in
set_option maxHeartbeats 800000 in
theorem sameTexts_nil (w : World) : Calls Tryz.prog 36 #[.slice none 0 0, .slice none 0 0] w (RetV (.bool true) w) := by
  go_enter Tryz.func36, Tryz.ntmps36
  go_wp2_with fail
  go_loopw [4, 5] (fun a b wr => wr = w ∧ a = .bool false ∧ b = .int .i64 0) (fun _ _ _ => 0)
  case atStart => exact ⟨rfl, rfl, rfl⟩
  case round =>
    obtain ⟨rfl, rfl, rfl⟩ := hrel
    go_wp2_with fail
    go_ret
    exact RetV.mk rfl (Below.refl _ _)

/-- What Split hands back, as three values. -/
def splitT (r : Except Int (List UInt8 × Int)) : ByteArray × Int × Int := match r with
  | .error e => (⟨#[]⟩, 0, e)
  | .ok x => (⟨x.1.toArray⟩, x.2, 0)
def strT (r : Except Int (List UInt8)) : ByteArray × Int := match r with
  | .error e => (⟨#[]⟩, e)
  | .ok x => (⟨x.toArray⟩, 0)
theorem vSplit_T (r : Except Int (List UInt8 × Int)) : vSplit r = .tuple #[.string (splitT r).1, .int .i64 (splitT r).2.1, .int .i64 (splitT r).2.2] := by cases r <;> rfl
theorem vStr_T (r : Except Int (List UInt8)) : vStr r = .tuple #[.string (strT r).1, .int .i64 (strT r).2] := by cases r <;> rfl

theorem split_anyT {s a : ByteArray} {n x : Int} (h : splitT (hostSplit s.data.toList) = (a, n, x)) (w : World) (hG : Good w) (hs : s.size ≤ 60000) :
    Calls Tryz.prog 26 #[.string s] w fun e w' => e = .returned (.tuple #[.string a, .int .i64 n, .int .i64 x]) ∧ Below w.heap.size w w' := by
  have := split_any s w hG hs; rw [vSplit_T, h] at this; exact this
theorem split_refT {s a : ByteArray} {n x : Int} (h : splitT (hostSplit s.data.toList) = (a, n, x)) (w : World) (hs : s.size ≤ 60000) :
    Calls Tryz.prog 27 #[.string s] w fun e w' => e = .returned (.tuple #[.string a, .int .i64 n, .int .i64 x]) ∧ Below w.heap.size w w' := by
  have := split_ref s w hs; rw [vSplit_T, h] at this; exact this
theorem normal_anyT {s a : ByteArray} {x : Int} (h : strT (hostNormal s.data.toList) = (a, x)) (w : World) (hG : Good w) (hs : s.size ≤ 60000) :
    Calls Tryz.prog 28 #[.string s] w fun e w' => e = .returned (.tuple #[.string a, .int .i64 x]) ∧ Below w.heap.size w w' := by
  have := normal_any s w hG hs; rw [vStr_T, h] at this; exact this
theorem normal_refT {s a : ByteArray} {x : Int} (h : strT (hostNormal s.data.toList) = (a, x)) (w : World) (hs : s.size ≤ 60000) :
    Calls Tryz.prog 29 #[.string s] w fun e w' => e = .returned (.tuple #[.string a, .int .i64 x]) ∧ Below w.heap.size w w' := by
  have := normal_ref s w hs; rw [vStr_T, h] at this; exact this
theorem join_anyT {s a : ByteArray} {p x : Int} (h : strT (hostJoin s.data.toList p) = (a, x)) (w : World) (hG : Good w) (hs : s.size ≤ 50000) :
    Calls Tryz.prog 34 #[.string s, .int .i64 p] w fun e w' => e = .returned (.tuple #[.string a, .int .i64 x]) ∧ Below w.heap.size w w' := by
  have := join_any s p w hG hs; rw [vStr_T, h] at this; exact this
theorem join_refT {s a : ByteArray} {p x : Int} (h : strT (hostJoin s.data.toList p) = (a, x)) (w : World) (hs : s.size ≤ 60000) :
    Calls Tryz.prog 35 #[.string s, .int .i64 p] w fun e w' => e = .returned (.tuple #[.string a, .int .i64 x]) ∧ Below w.heap.size w w' := by
  have := join_ref s p w hs; rw [vStr_T, h] at this; exact this
theorem is_anyT {s : ByteArray} {b : Bool} (h : hostIs s.data.toList = b) (w : World) (hG : Good w) (hs : s.size ≤ 60000) :
    Calls Tryz.prog 30 #[.string s] w fun e w' => e = .returned (.bool b) ∧ Below w.heap.size w w' := by
  have := is_any s w hG hs; rw [h] at this; exact this
theorem is_refT {s : ByteArray} {b : Bool} (h : hostIs s.data.toList = b) (w : World) (hs : s.size ≤ 60000) :
    Calls Tryz.prog 31 #[.string s] w fun e w' => e = .returned (.bool b) ∧ Below w.heap.size w w' := by
  have := is_ref s w hs; rw [h] at this; exact this

theorem labels_anyE {s : ByteArray} {x : Int} (h : hostLabels s.data.toList = .error x) (w : World) (hG : Good w) (hs : s.size ≤ 60000) :
    Calls Tryz.prog 32 #[.string s] w fun e w' => e = .returned (.tuple #[.slice none 0 0, .int .i64 x]) ∧ Below w.heap.size w w' := by
  have := labels_any s w hG hs; rw [h] at this; exact this
theorem labels_refE {s : ByteArray} {x : Int} (h : hostLabels s.data.toList = .error x) (w : World) (hs : s.size ≤ 60000) :
    Calls Tryz.prog 33 #[.string s] w fun e w' => e = .returned (.tuple #[.slice none 0 0, .int .i64 x]) ∧ Below w.heap.size w w' := by
  have := labels_refL s w hs; rw [h] at this; exact this
/-- A row of texts whose cells are known, in a block that is there. -/
def TextsAt (w : World) (g : Nat) (L : List (List UInt8)) : Prop := g < w.heap.size ∧ ∀ j, j < L.length → w.cell? ⟨g, j, none⟩ = some (.string ⟨(L[j]?.getD []).toArray⟩)
theorem TextsAt.of {w : World} {B g cap : Nat} {L : List (List UInt8)} (h : w.ownsRow B 9 1 (.slice (some ⟨g, 0, none⟩) L.length cap) L.length (L.map S)) : TextsAt w g L :=
  ⟨(own_below2 h).2, fun j hj => own_cell h j hj rfl⟩
theorem TextsAt.next {w w' : World} {g : Nat} {L : List (List UInt8)} (h : TextsAt w g L) (hB : Below w.heap.size w w') : TextsAt w' g L :=
  ⟨Nat.lt_of_lt_of_le h.1 hB.size, fun j hj => (hB.cell (p := ⟨g, j, none⟩) h.1).trans (h.2 j hj)⟩
theorem labels_anyK {s : ByteArray} {L : List (List UInt8)} (h : hostLabels s.data.toList = .ok L) (w : World) (hG : Good w) (hs : s.size ≤ 60000) :
    Calls Tryz.prog 32 #[.string s] w fun e w' => ∃ g cap, e = .returned (.tuple #[.slice (some ⟨g, 0, none⟩) L.length cap, .int .i64 0]) ∧ TextsAt w' g L ∧ Below w.heap.size w w' := by
  have := labels_any s w hG hs; rw [h] at this
  exact this.mono fun e w' ⟨g, cap, he, ho, hB⟩ => ⟨g, cap, he, .of ho, hB⟩
theorem labels_refK {s : ByteArray} {L : List (List UInt8)} (h : hostLabels s.data.toList = .ok L) (w : World) (hs : s.size ≤ 60000) :
    Calls Tryz.prog 33 #[.string s] w fun e w' => ∃ g cap, e = .returned (.tuple #[.slice (some ⟨g, 0, none⟩) L.length cap, .int .i64 0]) ∧ TextsAt w' g L ∧ Below w.heap.size w w' := by
  have := labels_refL s w hs; rw [h] at this
  exact this.mono fun e w' ⟨g, cap, he, ho, hB⟩ => ⟨g, cap, he, .of ho, hB⟩
theorem sameTexts_self {L : List (List UInt8)} {g cap g2 cap2 : Nat} (w : World) (hL : L.length ≤ 60001) (ca : TextsAt w g L) (cb : TextsAt w g2 L) :
    Calls Tryz.prog 36 #[.slice (some ⟨g, 0, none⟩) L.length cap, .slice (some ⟨g2, 0, none⟩) L.length cap2] w (RetV (.bool true) w) := by
  have := sameTexts_any (cap := cap) (cap2 := cap2) w hL hL ca.2 cb.2
  rwa [show sameB L L = true by simp [sameB]] at this

set_option maxRecDepth 100000 in
set_option maxHeartbeats 3200000 in
theorem ones_t (s : ByteArray) (p : Int) (w : World) (hG : Good w) : Calls Tryz.prog 4 #[.string s, .int .i64 p] w (RetV (.bool true) w) := by
  by_cases h1 : 140 < s.size
  · have d1 : decide ((140 : Int) < (s.size : Int)) = true := by simp; omega
    go_enter Tryz.func4, Tryz.ntmps4
    go_wp2_with fail
    refine (awake_t _ hG).mono ?_
    rintro e w1 ⟨rfl, HB⟩
    go_wp2_with fail
    go_ret
    exact RetV.mk rfl HB
  have d1 : decide ((140 : Int) < (s.size : Int)) = false := by simp; omega
  have hs : s.size ≤ 50000 := by omega
  have hs' : s.size ≤ 60000 := by omega
  obtain ⟨⟨a, n, x⟩, R1⟩ : ∃ r, splitT (hostSplit s.data.toList) = r := ⟨_, rfl⟩
  obtain ⟨⟨b, y⟩, R2⟩ : ∃ r, strT (hostNormal s.data.toList) = r := ⟨_, rfl⟩
  obtain ⟨c, R3⟩ : ∃ r, hostIs s.data.toList = r := ⟨_, rfl⟩
  obtain ⟨⟨d, z⟩, R4⟩ : ∃ r, strT (hostJoin s.data.toList p) = r := ⟨_, rfl⟩
  have R1 := Lib.hid R1
  have R2 := Lib.hid R2
  have R3 := Lib.hid R3
  have R4 := Lib.hid R4
  clear h1
  cases hl : hostLabels s.data.toList with
  | error q =>
    have R5 := Lib.hid hl
    clear hl
    go_enter Tryz.func4, Tryz.ntmps4
    go_wp2_with fail
    refine (split_anyT R1.out _ hG hs').mono ?_
    rintro e w1 ⟨rfl, HB1⟩
    have hG1 := hG.next HB1
    go_wp2_with fail
    refine (split_refT R1.out _ hs').mono ?_
    rintro e w2 ⟨rfl, HB2⟩
    have hG2 := hG1.next HB2
    go_wp2_with fail
    refine (normal_anyT R2.out _ hG2 hs').mono ?_
    rintro e w3 ⟨rfl, HB3⟩
    have hG3 := hG2.next HB3
    go_wp2_with fail
    refine (normal_refT R2.out _ hs').mono ?_
    rintro e w4 ⟨rfl, HB4⟩
    have hG4 := hG3.next HB4
    go_wp2_with fail
    refine (is_anyT R3.out _ hG4 hs').mono ?_
    rintro e w5 ⟨rfl, HB5⟩
    have hG5 := hG4.next HB5
    go_wp2_with fail
    refine (is_refT R3.out _ hs').mono ?_
    rintro e w6 ⟨rfl, HB6⟩
    have hG6 := hG5.next HB6
    go_wp2_with fail
    refine (labels_anyE R5.out _ hG6 hs').mono ?_
    rintro e w7 ⟨rfl, HB7⟩
    have hG7 := hG6.next HB7
    go_wp2_with fail
    refine (labels_refE R5.out _ hs').mono ?_
    rintro e w8 ⟨rfl, HB8⟩
    have hG8 := hG7.next HB8
    go_wp2_with fail
    refine (join_anyT R4.out _ hG8 hs).mono ?_
    rintro e w9 ⟨rfl, HB9⟩
    have hG9 := hG8.next HB9
    go_wp2_with fail
    refine (join_refT R4.out _ hs').mono ?_
    rintro e w10 ⟨rfl, HB10⟩
    have hG10 := hG9.next HB10
    go_wp2_with fail
    refine (sameTexts_nil _).mono ?_
    rintro e w11 ⟨rfl, HB11⟩
    have hG11 := hG10.next HB11
    go_wp2_with fail
    refine (awake_t _ hG11).mono ?_
    rintro e w12 ⟨rfl, HB12⟩
    have HB := below2 (below2 (below2 (below2 (below2 (below7 HB1 HB2 HB3 HB4 HB5 HB6 HB7) HB8) HB9) HB10) HB11) HB12
    go_wp2_with fail
    go_ret
    exact RetV.mk rfl HB
  | ok L =>
    have hLl : L.length ≤ 60001 := by
      unfold hostLabels at hl
      split at hl
      · cases hl
      · rename_i v hv
        cases hl
        have hn : v.1.length ≤ 64 := (hostSplit_ok (n := v.1) (p := v.2) hv).2.2.1
        have := segs_le 46 v.1
        omega
    have R5 := Lib.hid hl
    clear hl
    go_enter Tryz.func4, Tryz.ntmps4
    go_wp2_with fail
    refine (split_anyT R1.out _ hG hs').mono ?_
    rintro e w1 ⟨rfl, HB1⟩
    have hG1 := hG.next HB1
    go_wp2_with fail
    refine (split_refT R1.out _ hs').mono ?_
    rintro e w2 ⟨rfl, HB2⟩
    have hG2 := hG1.next HB2
    go_wp2_with fail
    refine (normal_anyT R2.out _ hG2 hs').mono ?_
    rintro e w3 ⟨rfl, HB3⟩
    have hG3 := hG2.next HB3
    go_wp2_with fail
    refine (normal_refT R2.out _ hs').mono ?_
    rintro e w4 ⟨rfl, HB4⟩
    have hG4 := hG3.next HB4
    go_wp2_with fail
    refine (is_anyT R3.out _ hG4 hs').mono ?_
    rintro e w5 ⟨rfl, HB5⟩
    have hG5 := hG4.next HB5
    go_wp2_with fail
    refine (is_refT R3.out _ hs').mono ?_
    rintro e w6 ⟨rfl, HB6⟩
    have hG6 := hG5.next HB6
    go_wp2_with fail
    refine (labels_anyK R5.out _ hG6 hs').mono ?_
    rintro e w7 ⟨g, cap, rfl, T1, HB7⟩
    have hG7 := hG6.next HB7
    go_wp2_with fail
    refine (labels_refK R5.out _ hs').mono ?_
    rintro e w8 ⟨g2, cap2, rfl, T2, HB8⟩
    have hG8 := hG7.next HB8
    go_wp2_with fail
    refine (join_anyT R4.out _ hG8 hs).mono ?_
    rintro e w9 ⟨rfl, HB9⟩
    have hG9 := hG8.next HB9
    go_wp2_with fail
    refine (join_refT R4.out _ hs').mono ?_
    rintro e w10 ⟨rfl, HB10⟩
    have hG10 := hG9.next HB10
    go_wp2_with fail
    refine (sameTexts_self _ hLl (((T1.next HB8).next HB9).next HB10) ((T2.next HB9).next HB10)).mono ?_
    rintro e w11 ⟨rfl, HB11⟩
    have hG11 := hG10.next HB11
    go_wp2_with fail
    refine (awake_t _ hG11).mono ?_
    rintro e w12 ⟨rfl, HB12⟩
    have HB := below2 (below2 (below2 (below2 (below2 (below7 HB1 HB2 HB3 HB4 HB5 HB6 HB7) HB8) HB9) HB10) HB11) HB12
    go_wp2_with fail
    go_ret
    exact RetV.mk rfl HB
end Go.Proofs.YteigjobliflkdaaGreatDoor
/- Plain: reading targets, case by case. No program stands here. -/
namespace Go.Proofs.YteigjobliflkdaaGreatDoor
open Go

theorem tgtSplit_err {l : List UInt8} {e : Int} (h : tgtSplit l = .error e) : e = 3 ∨ e = 4 := by
  unfold tgtSplit at h
  split at h
  · injection h with h; exact .inr h.symm
  · split at h
    · injection h with h; exact .inl h.symm
    · cases h
theorem tgtSplit_ok {l : List UInt8} {x : List UInt8 × List UInt8} (h : tgtSplit l = .ok x) : l.length ≤ 1024 ∧ l.head? = some 47 ∧ qryB l = true ∧ x = ((cut1 63 l).1, (cut1 63 l).2.1) ∧ x.1.length ≤ l.length ∧ x.2.length ≤ l.length := by
  unfold tgtSplit at h
  split at h
  · cases h
  · split at h
    · cases h
    · rename_i h1 h2
      injection h with h
      have h2 : (l.head? == some 47 && qryB l) = true := by simpa using h2
      rw [Bool.and_eq_true] at h2
      have hl := cut1_len 63 l
      refine ⟨by omega, by simpa using h2.1, h2.2, h.symm, ?_, ?_⟩
      · rw [← h]; exact hl.1
      · rw [← h]; exact hl.2.1
theorem cut1_head {l : List UInt8} (h : l.head? = some 47) : (cut1 63 l).1.head? = some 47 := by
  cases l with
  | nil => cases h
  | cons a l =>
    have ha : a = 47 := by simpa using h
    subst ha
    rw [cut1, if_neg (by decide)]; rfl
theorem pctDec_head {l d : List UInt8} (h : l.head? = some 47) (hd : pctDec l = some d) : d.head? = some 47 := by
  cases l with
  | nil => cases h
  | cons a l =>
    have ha : a = 47 := by simpa using h
    subst ha
    rw [pctDec_cons] at hd
    have he : escB (47 :: l) = false := by
      match l with
      | [] => rfl
      | [_] => rfl
      | _ :: _ :: _ => simp [escB]
    rw [he, if_neg (by decide), if_neg (by decide)] at hd
    cases hx : pctDec l with
    | none => rw [hx] at hd; cases hd
    | some x => rw [hx] at hd; injection hd with hd; rw [← hd]; rfl
theorem dClean_head {d : List UInt8} (h : d.head? = some 47) : dClean d = .error 18 ∨ ∃ p, dClean d = .ok p ∧ p.length ≤ d.length + 1 := by
  unfold dClean
  rw [h]
  simp only [BEq.rfl, if_true]
  cases hg : cleanGo (segs 47 d.tail) [] false with
  | none => exact .inl rfl
  | some x =>
    refine .inr ⟨_, rfl, ?_⟩
    have key : ∀ (L : List (List UInt8)) (kept : List (List UInt8)) (op : Bool) (y : List (List UInt8) × Bool), cleanGo L kept op = some y → (slashes y.1).length ≤ (slashes kept).length + (slashes L).length := by
      intro L
      induction L with
      | nil => intro kept op y hy; simp only [cleanGo] at hy; injection hy with hy; rw [← hy]; simp
      | cons s r ih =>
        intro kept op y hy
        rw [cleanGo_cons] at hy
        cases ho : cleanOne s kept with
        | none => rw [ho] at hy; cases hy
        | some z =>
          rw [ho] at hy
          have h1 := ih z.1 z.2 y hy
          have h2 : (slashes z.1).length ≤ (slashes kept).length + 1 + s.length := by
            unfold cleanOne at ho
            split at ho
            · split at ho
              · cases ho
              · injection ho with ho; rw [← ho]; have := slashes_dropLast kept; simp only; omega
            · split at ho <;> injection ho with ho <;> rw [← ho]
              · simp only; omega
              · rw [show slashes (kept ++ [s]) = slashes kept ++ 47 :: s by simp [slashes]]; simp; omega
          rw [slashes_cons]; simp only [List.length_cons, List.length_append]; omega
    have h1 := key _ _ _ _ hg
    rw [segs_slashes] at h1
    have h2 : d.length = d.tail.length + 1 := by
      cases d with
      | nil => cases h
      | cons a d => simp
    rw [dPut_eq, List.length_append]
    have h3 : (if x.2 || x.1 == [] then ([47] : List UInt8) else []).length ≤ 1 := by split <;> simp
    simp only [slashes, List.flatMap_nil, List.length_nil] at h1
    unfold slashes
    omega
/-- What reading hands back, as four values. -/
def readT (r : Except (Int × Int) (List UInt8 × List UInt8)) : List UInt8 × List UInt8 × Int × Int := match r with
  | .error e => ([], [], e.1, e.2)
  | .ok x => (x.1, x.2, 0, 200)
theorem tgtRead_range {l : List UInt8} {L : Int} (h : L < 1 ∨ 128 < L) : tgtRead l L = .error (2, 0) := by unfold tgtRead; rw [if_pos h]
theorem tgtRead_split {l : List UInt8} {L e : Int} (h : ¬ (L < 1 ∨ 128 < L)) (hs : tgtSplit l = .error e) : tgtRead l L = .error (e, if e = 4 then 414 else 400) := by unfold tgtRead; rw [if_neg h, hs]
theorem tgtRead_none {l : List UInt8} {L : Int} {x : List UInt8 × List UInt8} (h : ¬ (L < 1 ∨ 128 < L)) (hs : tgtSplit l = .ok x) (hd : pctDec x.1 = none) : tgtRead l L = .error (3, 400) := by unfold tgtRead; rw [if_neg h, hs]; simp only [hd]
theorem tgtRead_bytes {l d : List UInt8} {L : Int} {x : List UInt8 × List UInt8} (h : ¬ (L < 1 ∨ 128 < L)) (hs : tgtSplit l = .ok x) (hd : pctDec x.1 = some d) (hb : safeB d = false) : tgtRead l L = .error (3, 400) := by unfold tgtRead; rw [if_neg h, hs]; simp only [hd]; rw [if_pos hb]
theorem tgtRead_dots {l d : List UInt8} {L : Int} {x : List UInt8 × List UInt8} (h : ¬ (L < 1 ∨ 128 < L)) (hs : tgtSplit l = .ok x) (hd : pctDec x.1 = some d) (hb : safeB d = true) (hc : dClean d = .error 18) : tgtRead l L = .error (18, 400) := by
  unfold tgtRead; rw [if_neg h, hs]; simp only [hd]; rw [if_neg (by rw [hb]; decide), hc]
theorem tgtRead_long {l d p : List UInt8} {L : Int} {x : List UInt8 × List UInt8} (h : ¬ (L < 1 ∨ 128 < L)) (hs : tgtSplit l = .ok x) (hd : pctDec x.1 = some d) (hb : safeB d = true) (hc : dClean d = .ok p) (hl : L < p.length ∨ 128 < x.2.length) : tgtRead l L = .error (4, 414) := by
  unfold tgtRead; rw [if_neg h, hs]; simp only [hd]; rw [if_neg (by rw [hb]; decide), hc]; simp only; rw [if_pos hl]
theorem tgtRead_ok {l d p : List UInt8} {L : Int} {x : List UInt8 × List UInt8} (h : ¬ (L < 1 ∨ 128 < L)) (hs : tgtSplit l = .ok x) (hd : pctDec x.1 = some d) (hb : safeB d = true) (hc : dClean d = .ok p) (hl : ¬ (L < p.length ∨ 128 < x.2.length)) : tgtRead l L = .ok (p, x.2) := by
  unfold tgtRead; rw [if_neg h, hs]; simp only [hd]; rw [if_neg (by rw [hb]; decide), hc]; simp only; rw [if_neg hl]
end Go.Proofs.YteigjobliflkdaaGreatDoor
