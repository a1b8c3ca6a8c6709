/- Walk: hosts made of numbers. -/
import Derived.Test.YteigjobliflkdaaGreatDoorV15e

import Derived.IntWalk
namespace Go.Proofs.YteigjobliflkdaaGreatDoor
open Go.RowKit

/-- A host made of a number. -/
def RetMade (w : World) (e : Ending) (w' : World) : Prop := ∃ i j, i < 10 ∧ j < 7 ∧ e = .returned (S (madeN i ++ madeP j)) ∧ Below w.heap.size w w'
theorem mod_anyR {n m : Int} {r : Nat} (h : n % m = (r : Int)) (h1 : 1 ≤ m) (h2 : m ≤ 2147483648) (w : World) : Calls Tryz.prog 47 #[.int .i64 n, .int .i64 m] w fun e w' => e = .returned (.int .i64 r) ∧ w = w' := by
  have := mod_any n m w h1 h2; rwa [h] at this
theorem names_row (w : World) (i : Nat) (hi : i < 10) : (w.alloc (.cells (madeNames.map S).toArray 9)).cell? ⟨w.heap.size, i, none⟩ = some (.string ⟨(madeN i).toArray⟩) := by
  rw [cell_of_row _ _ _ _ 9 (0, 0) (heap_alloc_new _ _)]
  have : i < madeNames.length := hi
  simp [madeN, List.getElem?_eq_getElem this, S]
theorem ports_row (w : World) (j : Nat) (hj : j < 7) : (w.alloc (.cells (madePorts.map S).toArray 9)).cell? ⟨w.heap.size, j, none⟩ = some (.string ⟨(madeP j).toArray⟩) := by
  rw [cell_of_row _ _ _ _ 9 (0, 0) (heap_alloc_new _ _)]
  have : j < madePorts.length := hj
  simp [madeP, List.getElem?_eq_getElem this, S]

set_option maxRecDepth 100000 in
set_option maxHeartbeats 1600000 in
theorem made_any (n : Int) (w : World) : Calls Tryz.prog 42 #[.int .i64 n] w (RetMade w) := by
  obtain ⟨r, hr⟩ := Int.eq_ofNat_of_zero_le (Int.emod_nonneg n (show (1073741824 : Int) ≠ 0 by decide))
  have hr2 : r < 1073741824 := by have := Int.emod_lt_of_pos n (show (0 : Int) < 1073741824 by decide); omega
  have HR := Lib.hid hr
  clear hr
  obtain ⟨i, hi'⟩ : ∃ i, r % 10 = i := ⟨_, rfl⟩
  obtain ⟨q, hq'⟩ : ∃ q, r / 10 = q := ⟨_, rfl⟩
  obtain ⟨j, hj'⟩ : ∃ j, q % 7 = j := ⟨_, rfl⟩
  have hi : i < 10 := by omega
  have hj : j < 7 := by omega
  have e1 : (r : Int).tmod 10 = (i : Int) := by rw [Int.tmod_eq_emod_of_nonneg (by omega)]; omega
  have e2 : (r : Int).tdiv 10 = (q : Int) := by rw [Int.tdiv_eq_ediv_of_nonneg (by omega)]; omega
  have e3 : (q : Int).tmod 7 = (j : Int) := by rw [Int.tmod_eq_emod_of_nonneg (by omega)]; omega
  have e4 : (r : Int) / 10 = (q : Int) := by omega
  have e5 : (r : Int) % 10 = (i : Int) := by omega
  have e6 : (q : Int) % 7 = (j : Int) := by omega
  have w1 : IntKind.i64.wrap (q : Int) = (q : Int) := IntWalk.i64_in _ (by omega)
  have b1 : (i : Int) < 10 := by omega
  have b2 : (0 : Int) ≤ i := by omega
  have b3 : (j : Int) < 7 := by omega
  have b4 : (0 : Int) ≤ j := by omega
  have C1 := ((names_row w i hi : _))
  have C2 := (ports_row (w.alloc (.cells (madeNames.map S).toArray 9)) j hj)
  have C3 : ((w.alloc (.cells (madeNames.map S).toArray 9)).alloc (.cells (madePorts.map S).toArray 9)).cell? ⟨w.heap.size, i, none⟩ = some (.string ⟨(madeN i).toArray⟩) := by
    rw [World.cell?_alloc_past _ _ _ (by simp)]; exact C1
  rw [show (w.alloc (.cells (madeNames.map S).toArray 9)).heap.size = w.heap.size + 1 by simp] at C2
  have HBB := Lib.hid (((Below.refl w.heap.size w).alloc (Nat.le_refl _) (.cells (madeNames.map S).toArray 9)).alloc (by simp) (.cells (madePorts.map S).toArray 9))
  clear C1 hi' hq' hj'
  have hsz := made_len i j hi hj
  have hrun := run_string_add_sum (P := Tryz.prog) (w := w) ⟨(madeN i).toArray⟩ ⟨(madeP j).toArray⟩ (by rw [size_mk, size_mk]; simp at hsz; omega)
  have hsum : (⟨(madeN i).toArray⟩ : ByteArray).size + (⟨(madeP j).toArray⟩ : ByteArray).size ≤ 9223372036854775807 := by rw [size_mk, size_mk]; simp at hsz; omega
  have HE := Lib.hid (show Value.string (⟨(madeN i).toArray⟩ ++ ⟨(madeP j).toArray⟩) = S (madeN i ++ madeP j) by rw [ByteArray.mk_append_mk]; rfl)
  clear hrun
  generalize (⟨(madeN i).toArray⟩ : ByteArray) = sa at C3 hsum HE
  generalize (⟨(madeP j).toArray⟩ : ByteArray) = sb at C2 hsum HE
  go_enter Tryz.func42, Tryz.ntmps42
  go_wp2_with fail
  refine (mod_anyR HR.out (by decide) (by decide) _).mono ?_
  rintro e w' ⟨rfl, rfl⟩
  go_wp2_with fail
  change Code.wp _ _ _ _ ((w.alloc (.cells (madeNames.map S).toArray 9)).alloc (.cells (madePorts.map S).toArray 9))
  generalize ((w.alloc (.cells (madeNames.map S).toArray 9)).alloc (.cells (madePorts.map S).toArray 9)) = W at C2 C3 HBB
  go_quiet (fail)
  go_wp2_with fail
  go_ret
  exact ⟨i, j, hi, hj, congrArg Ending.returned HE.out, below_drewN HBB.out _⟩
end Go.Proofs.YteigjobliflkdaaGreatDoor
