/- Texts of this claim, joined in build order: N1. -/
import Derived.Test.YteigjobliflkdaaGreatDoorZ12
import Derived.WalkKit
import Derived.ProofKit
import Derived.OpenShut
import Derived.ChangeSlices
/- A slice of numbers that came in: what it holds; it is handed back as it came. -/
namespace Go.Proofs.YteigjobliflkdaaGreatDoor
open Go.ChangeShapes Go.WideShapes Go.ChangeAt Go.RowKit

theorem cells3 : Tryz.prog.cellsOf 3 = 1 := by kernel_rfl
set_option maxRecDepth 100000 in
theorem open_nums {H : Type} {enc : TypeId × Value → H} {W : World} {base : Nat} {v : Value} {d : DataW H} {p : List MemPlace}
    (hval : Value.okWide Tryz.prog W .any base 44 v) (hd : DataW.Trod enc Tryz.prog W 0 (fun _ => true) true 44 v d p) :
    ∃ zs, NumsAt W v zs ∧ ∀ W' : World, Below W.heap.size W W' → DataW.Trod enc Tryz.prog W' 0 (fun b => decide (b < W.heap.size)) true 44 v d p := by
  obtain ⟨a0, len, cap, rfl⟩ := okWide_slice Tryz.underlying44 hval
  obtain ⟨fuel, hf⟩ := hd
  rcases open_ints Tryz.underlying44 Tryz.underlying3 cells3 hf with ⟨hcs, hx⟩ | ⟨a, len', cap', zs, hcs, _, hl, hm, hz, hx, hcell, hwz⟩
  · simp [Value.cells] at hcs
    obtain ⟨rfl, rfl, rfl⟩ := hcs
    simp only [Prod.mk.injEq] at hx
    obtain ⟨rfl, rfl⟩ := hx
    exact ⟨[], ⟨none, 0, rfl, Nat.zero_le _, fun i hi => by simp at hi⟩, fun W' _ => shut_slice_nil Tryz.underlying44⟩
  · simp [Value.cells] at hcs
    obtain ⟨rfl, rfl, rfl⟩ := hcs
    simp only [Prod.mk.injEq] at hx
    obtain ⟨rfl, rfl⟩ := hx
    simp only [if_true] at hz
    have hlen : (zs.take len).length = len := by rw [List.length_take]; omega
    refine ⟨zs.take len, ⟨some a, cap, by rw [hlen], by rw [hlen]; unfold maxLen at hm; omega, fun i hi => ?_⟩, fun W' hB => ?_⟩
    · rw [hlen] at hi
      have hc := hcell i (by omega)
      obtain ⟨b, off, spot⟩ := a
      have hspot : spot = none := by
        have hc0 := hcell 0 (by omega)
        simpa [Addr.add] using World.cell?_spot hc0
      subst hspot
      refine ⟨b, off, rfl, ?_⟩
      have hadd : (⟨b, off, none⟩ : Addr).add i = ⟨b, off + i, none⟩ := by unfold Addr.add; split <;> simp_all
      rw [hadd] at hc
      rw [hc, List.getElem?_take, if_pos hi]
      rfl
    · have hcell' : ∀ i, i < zs.length → W'.cell? (a.add i) = some (.int .i64 (zs.getD i 0)) := fun i hi => by
        have hc := hcell i hi
        rw [hB.cell (World.block_lt_of_cell? W _ hc)]; exact hc
      by_cases hz0 : zs.length = 0
      · have hc0 : cap = 0 := by omega
        have hl0 : len = 0 := by omega
        subst hc0; subst hl0
        have t0 := shut_ints (enc := enc) (w := W') (base := 0) (spare := fun b => decide (b < W.heap.size)) (held := true) (a := a) (len := 0) (cap := 0) (zs := zs) 0 Tryz.underlying44 Tryz.underlying3 cells3 (Nat.zero_le _) (Nat.le_refl _) hm (by simp [hz0]) hcell' hwz
        exact ⟨2, by simpa [Value.cells] using t0⟩
      · have hspb : decide (a.block < W.heap.size) = true := by
          have hc := World.block_lt_of_cell? W _ (hcell 0 (by omega))
          rw [block_add] at hc
          exact decide_eq_true hc
        have t0 := shut_ints (enc := enc) (w := W') (base := 0) (spare := fun b => decide (b < W.heap.size)) (held := true) (a := a) (len := len) (cap := cap) (zs := zs) 0 Tryz.underlying44 Tryz.underlying3 cells3 (Nat.zero_le _) hl hm (by simp [hspb, hz]) hcell' hwz
        exact ⟨2, by simpa [Value.cells] using t0⟩
end Go.Proofs.YteigjobliflkdaaGreatDoor
