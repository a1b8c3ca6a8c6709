/- Walks: Mod, hosts made of numbers, HostKnown. -/
import Derived.Test.YteigjobliflkdaaGreatDoorV15d
import Derived.Test.YteigjobliflkdaaGreatDoorP15
namespace Go.Proofs.YteigjobliflkdaaGreatDoor
open Go.RowKit

theorem under_tB {s t : ByteArray} {b : Bool} (h : underB s.data.toList t.data.toList = b) (w : World) (hG : Good w) (hs : s.size ≤ 60000) (ht : t.size ≤ 60000) :
    Calls Tryz.prog 40 #[.string s, .string t] w (RetV (.bool b) w) := by
  have := under_t s t w hG hs ht; rwa [h] at this
theorem texts_row {w : World} {g : Nat} {L : List (List UInt8)} {fr : Nat × Nat} (h : w.heap[g]? = some (.cells (L.map S).toArray 9 fr)) : TextsAt w g L := by
  refine ⟨(Array.getElem?_eq_some_iff.1 h).1, fun j hj => ?_⟩
  rw [cell_of_row _ _ _ _ 9 fr h]
  simp [List.getElem?_eq_getElem hj, S]

theorem mod_any (n m : Int) (w : World) (h1 : 1 ≤ m) (h2 : m ≤ 2147483648) : Calls Tryz.prog 47 #[.int .i64 n, .int .i64 m] w fun e w' => e = .returned (.int .i64 (n % m)) ∧ w = w' := by
  have a1 := Int.tmod_lt_of_pos n (show 0 < m by omega)
  have a2 := Int.lt_tmod_of_pos n (show 0 < m by omega)
  have a3 : n % m = if n.tmod m < 0 then n.tmod m + m else n.tmod m := by
    have e := Int.tmod_eq_emod (a := n) (b := m)
    have em : (m.natAbs : Int) = m := Int.natAbs_of_nonneg (by omega)
    have e1 := Int.emod_nonneg n (show m ≠ 0 by omega)
    have e2 := Int.emod_lt_of_pos n (show 0 < m by omega)
    split at e
    · rw [if_neg (by omega)]; omega
    · rw [if_pos (by omega)]; omega
  have hm0 : (m == 0) = false := by rw [beq_eq_false_iff_ne]; omega
  have hd : decide (m < 1) = false := by simp; omega
  generalize hr : n.tmod m = r at a1 a2 a3
  by_cases hn : r < 0
  · have HE := Lib.hid (show n % m = r + m by rw [a3, if_pos hn])
    have d : decide (r < 0) = true := by simpa using hn
    clear a3
    go_enter Tryz.func47, Tryz.ntmps47
    go_wp2_with fail
    go_ret
    exact ⟨ret_int (by rw [HE.out]), rfl⟩
  · have HE := Lib.hid (show n % m = r by rw [a3, if_neg hn])
    have d : decide (r < 0) = false := by simpa using hn
    clear a3
    go_enter Tryz.func47, Tryz.ntmps47
    go_wp2_with fail
    go_ret
    exact ⟨ret_int (by rw [HE.out]), rfl⟩

set_option maxRecDepth 100000 in
set_option maxHeartbeats 8000000 in
theorem known_t (w : World) (hG : Good w) : Calls Tryz.prog 5 #[] w (RetV (.bool true) w) := by
  have HBc := Below.refl w.heap.size w
  go_enter Tryz.func5, Tryz.ntmps5
  go_wp2_with fail
  refine (splits_t (s := ⟨#[97]⟩) (n := ⟨#[97]⟩) (p := 80) (by kernel_rfl) _ hG (by decide)).mono ?_
  rintro e w1 ⟨rfl, HB⟩
  replace HBc := below2 HBc HB
  replace hG := hG.next HB
  clear HB
  go_wp2_with fail
  refine (fails_t (s := ⟨#[97, 58]⟩) (x := 3) (by kernel_rfl) _ hG (by decide)).mono ?_
  rintro e w1 ⟨rfl, HB⟩
  replace HBc := below2 HBc HB
  replace hG := hG.next HB
  clear HB
  go_wp2_with fail
  refine (fails_t (s := ⟨#[97, 46, 46, 98]⟩) (x := 3) (by kernel_rfl) _ hG (by decide)).mono ?_
  rintro e w1 ⟨rfl, HB⟩
  replace HBc := below2 HBc HB
  replace hG := hG.next HB
  clear HB
  go_wp2_with fail
  refine (fails_t (s := ⟨#[45, 97]⟩) (x := 3) (by kernel_rfl) _ hG (by decide)).mono ?_
  rintro e w1 ⟨rfl, HB⟩
  replace HBc := below2 HBc HB
  replace hG := hG.next HB
  clear HB
  go_wp2_with fail
  refine (fails_t (s := ⟨#[97, 58, 54, 53, 53, 51, 54]⟩) (x := 2) (by kernel_rfl) _ hG (by decide)).mono ?_
  rintro e w1 ⟨rfl, HB⟩
  replace HBc := below2 HBc HB
  replace hG := hG.next HB
  clear HB
  go_wp2_with fail
  refine (fails_t (s := ⟨#[97, 58, 49, 50, 51, 52, 53, 54]⟩) (x := 3) (by kernel_rfl) _ hG (by decide)).mono ?_
  rintro e w1 ⟨rfl, HB⟩
  replace HBc := below2 HBc HB
  replace hG := hG.next HB
  clear HB
  go_wp2_with fail
  refine (fails_t (s := ⟨#[97, 95, 98]⟩) (x := 3) (by kernel_rfl) _ hG (by decide)).mono ?_
  rintro e w1 ⟨rfl, HB⟩
  replace HBc := below2 HBc HB
  replace hG := hG.next HB
  clear HB
  go_wp2_with fail
  refine (normal_t (s := ⟨#[65, 46, 66, 58, 48, 56, 48]⟩) (n := ⟨#[97, 46, 98]⟩) (by kernel_rfl) _ hG (by decide)).mono ?_
  rintro e w1 ⟨rfl, HB⟩
  replace HBc := below2 HBc HB
  replace hG := hG.next HB
  clear HB
  go_wp2_with fail
  refine (normal_t (s := ⟨#[49, 46, 50, 46, 51, 46, 52, 58, 48, 56]⟩) (n := ⟨#[49, 46, 50, 46, 51, 46, 52, 58, 56]⟩) (by kernel_rfl) _ hG (by decide)).mono ?_
  rintro e w1 ⟨rfl, HB⟩
  replace HBc := below2 HBc HB
  replace hG := hG.next HB
  clear HB
  go_wp2_with fail
  refine (is_anyT (s := ⟨#[97, 46, 98, 58, 56, 48]⟩) (b := false) (by kernel_rfl) _ hG (by decide)).mono ?_
  rintro e w1 ⟨rfl, HB⟩
  replace HBc := below2 HBc HB
  replace hG := hG.next HB
  clear HB
  go_wp2_with fail
  refine (is_anyT (s := ⟨#[97, 46, 98, 58, 56, 49]⟩) (b := true) (by kernel_rfl) _ hG (by decide)).mono ?_
  rintro e w1 ⟨rfl, HB⟩
  replace HBc := below2 HBc HB
  replace hG := hG.next HB
  clear HB
  go_wp2_with fail
  refine (is_anyT (s := ⟨#[65]⟩) (b := false) (by kernel_rfl) _ hG (by decide)).mono ?_
  rintro e w1 ⟨rfl, HB⟩
  replace HBc := below2 HBc HB
  replace hG := hG.next HB
  clear HB
  go_wp2_with fail
  refine (under_tB (s := ⟨#[120, 97, 46, 111, 114, 103]⟩) (t := ⟨#[97, 46, 111, 114, 103]⟩) (b := false) (by kernel_rfl) _ hG (by decide) (by decide)).mono ?_
  rintro e w1 ⟨rfl, HB⟩
  replace HBc := below2 HBc HB
  replace hG := hG.next HB
  clear HB
  go_wp2_with fail
  refine (under_tB (s := ⟨#[97]⟩) (t := ⟨#[97]⟩) (b := true) (by kernel_rfl) _ hG (by decide) (by decide)).mono ?_
  rintro e w1 ⟨rfl, HB⟩
  replace HBc := below2 HBc HB
  replace hG := hG.next HB
  clear HB
  go_wp2_with fail
  refine (compares_t (s := ⟨#[97, 46, 111, 114, 103]⟩) (t := ⟨#[120, 46, 97, 46, 111, 114, 103]⟩) (x := -1) (by kernel_rfl) _ hG (by decide) (by decide)).mono ?_
  rintro e w1 ⟨rfl, HB⟩
  replace HBc := below2 HBc HB
  replace hG := hG.next HB
  clear HB
  go_wp2_with fail
  refine (compares_t (s := ⟨#[97, 46, 111, 114, 103, 58, 56, 49]⟩) (t := ⟨#[97, 46, 111, 114, 103]⟩) (x := 1) (by kernel_rfl) _ hG (by decide) (by decide)).mono ?_
  rintro e w1 ⟨rfl, HB⟩
  replace HBc := below2 HBc HB
  replace hG := hG.next HB
  clear HB
  go_wp2_with fail
  refine (compares_t (s := ⟨#[122, 46, 99, 111, 109]⟩) (t := ⟨#[97, 46, 111, 114, 103]⟩) (x := -1) (by kernel_rfl) _ hG (by decide) (by decide)).mono ?_
  rintro e w1 ⟨rfl, HB⟩
  replace HBc := below2 HBc HB
  replace hG := hG.next HB
  clear HB
  go_wp2_with fail
  refine (join_anyT (s := ⟨#[65, 46, 98]⟩) (p := 81) (a := ⟨#[97, 46, 98, 58, 56, 49]⟩) (x := 0) (by kernel_rfl) _ hG (by decide)).mono ?_
  rintro e w1 ⟨rfl, HB⟩
  replace HBc := below2 HBc HB
  replace hG := hG.next HB
  clear HB
  go_wp2_with fail
  refine (join_anyT (s := ⟨#[97]⟩) (p := 0) (a := ⟨#[]⟩) (x := 2) (by kernel_rfl) _ hG (by decide)).mono ?_
  rintro e w1 ⟨rfl, HB⟩
  replace HBc := below2 HBc HB
  replace hG := hG.next HB
  clear HB
  go_wp2_with fail
  refine (join_anyT (s := ⟨#[97, 58, 53]⟩) (p := 80) (a := ⟨#[]⟩) (x := 3) (by kernel_rfl) _ hG (by decide)).mono ?_
  rintro e w1 ⟨rfl, HB⟩
  replace HBc := below2 HBc HB
  replace hG := hG.next HB
  clear HB
  go_wp2_with fail
  refine (labels_anyK (s := ⟨#[88, 46, 97, 46, 79, 114, 103, 58, 53]⟩) (L := [[120], [97], [111, 114, 103]]) (by kernel_rfl) _ hG (by decide)).mono ?_
  rintro e w1 ⟨g, cap, rfl, T1, HB⟩
  replace HBc := below2 HBc HB
  replace hG := hG.next HB
  clear HB
  go_wp2_with fail
  refine (awake_t _ hG).mono ?_
  rintro e w2 ⟨rfl, HB⟩
  replace T1 := T1.next HB
  replace HBc := below2 HBc HB
  clear HB
  go_wp2_with fail
  refine (sameTexts_self (L := [[120], [97], [111, 114, 103]]) _ (by decide) (T1.next ((Below.refl _ _).alloc (Nat.le_refl _) _)) (texts_row (fr := (0, 0)) (heap_alloc_new _ _))).mono ?_
  rintro e w3 ⟨rfl, HB⟩
  replace HBc := below2 (HBc.alloc HBc.size _) HB
  clear HB
  go_wp2_with fail
  go_ret
  exact RetV.mk rfl HBc
end Go.Proofs.YteigjobliflkdaaGreatDoor
