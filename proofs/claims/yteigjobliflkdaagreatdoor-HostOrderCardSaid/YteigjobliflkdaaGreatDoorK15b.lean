import Derived.Test.YteigjobliflkdaaGreatDoorK15
namespace Go.Proofs.YteigjobliflkdaaGreatDoor
open Go.RowKit Go.Shelf
attribute [local go_sem] Oper.semAt_some

theorem grown_two {W w1 : World} {o : Obj} {row : Option Nat} {b Bs B : Nat} {v : Value} (hg : (W.alloc o).grownBy w1 row) (hb : b < W.heap.size) (hs : Bs < W.heap.size) (h1 : some b ≠ row) (h2 : some Bs ≠ row) (h3 : b ≠ B) (h4 : Bs ≠ B) :
    Two b Bs W (w1.setCell ⟨B, 0, none⟩ v) := by
  refine ⟨?_, ?_⟩
  · rw [Below.heap_setCell _ _ _ b (by simpa using h3), hg.block b (by simp; omega) h1]
    exact Below.heap_alloc _ _ _ (by omega)
  · rw [Below.heap_setCell _ _ _ Bs (by simpa using h4), hg.block Bs (by simp; omega) h2]
    exact Below.heap_alloc _ _ _ (by omega)

theorem row_ne {W : World} {B e size : Nat} {v : Value} {k : Nat} {xs : List Value} (h : W.ownsRow B e size v k xs) {b : Nat} (hb : b < B) : some b ≠ v.ownBlock := by
  rcases h.2 with ⟨rfl, _⟩ | ⟨g, cap, cur, rfl, hg, _, _⟩
  · simp [Value.ownBlock]
  · intro e; simp [Value.ownBlock] at e; omega

theorem own_below2 {w : World} {B e size g n cap : Nat} {xs : List Value} (h : w.ownsRow B e size (.slice (some ⟨g, 0, none⟩) n cap) n xs) : B ≤ g ∧ g < w.heap.size := by
  rcases h.2 with ⟨h0, _⟩ | ⟨g', cap', cur, h0, hg, hb, _⟩
  · cases h0
  · cases h0; exact ⟨hg, (Array.getElem?_eq_some_iff.1 hb).1⟩
theorem own_size {β : Type} {B m : Nat} : OwnFrom B (fun (_ : β) W => m ≤ W.heap.size) := fun _ _ _ _ hs hg _ => Nat.le_trans hs hg.size
theorem und34 : Tryz.prog.underlying 34 = some (.slice 9) := by kernel_rfl
theorem upto_len2 (xs : List (List UInt8)) : (outOf (upto (backAt xs) xs.length)).length = xs.length := by simp [outOf, upto]

set_option maxRecDepth 100000 in
set_option maxHeartbeats 3000000 in
theorem backwards_in (s : ByteArray) (w : World) (hG : Good w) (hs : s.size ≤ 60000) :
    CallsIn Fence.wide 3 Tryz.prog 86 #[.string s] w fun e W' => ∃ v, e = .returned v ∧ W'.ownsRow w.heap.size 9 1 v (segs 46 s.data.toList).length ((segs 46 s.data.toList).reverse.map S) ∧ Below w.heap.size w W' := by
  obtain ⟨xs, hxs⟩ : ∃ xs, segs 46 s.data.toList = xs := ⟨_, rfl⟩
  have hxl : xs.length ≤ 60001 := by rw [← hxs]; have := segs_le 46 s.data.toList; rw [size_len] at this; omega
  rw [hxs]
  obtain ⟨i0, hi, hz0, hz1, hz2⟩ := info_parts info9
  have hB00 : Below w.heap.size w (w.alloc (.cells #[.slice none 0 0] 34)) := (Below.refl _ w).alloc (Nat.le_refl _) _
  have bO0 := Boxed.new w 34 (.slice none 0 0)
  have hs0 : w.heap.size < (w.alloc (.cells #[.slice none 0 0] 34)).heap.size := by simp
  refine callsIn_of_wp_marks Tryz.func86 rfl trivial ?_ rfl
  simp only [Tryz.ntmps86, List.size_toArray, List.length_cons, List.length_nil, Nat.reduceAdd, Nat.reduceSub, Array.replicate_succ, Array.replicate_zero, List.push_toArray, List.append_toArray, List.nil_append, List.cons_append]
  obtain ⟨w0, hw0⟩ : ∃ w0, w.alloc (.cells #[.slice none 0 0] 34) = w0 := ⟨_, rfl⟩
  have hG0 : Good w0 := by rw [← hw0]; exact hG.next hB00
  rw [hw0] at hs0 hB00 bO0
  have h92 : Fence.wide.fn 92 := trivial
  have h130 : Fence.wide.fn 130 := trivial
  have h169 : Fence.wide.fn 169 := trivial
  have hS := split_lib1 (n := s.data.toList) hxs (by rw [size_len]; exact hs) w0 hG0
  rw [bs_mk] at hS
  gi_wp2_with (first | (gi_at_call 92; refine (callsIn_wide.2 hS).mono ?_; rintro e w1 ⟨gg, cap, rfl, hown, hB1⟩) | (gi_at_call 130; refine (back_in Fence.wide 2 h130 rfl _ _ _ _).mono ?_; rintro e w2 ⟨rfl, hw2⟩))
  obtain ⟨hgl, hgh⟩ := own_below2 hown
  have hsz2 : w2.heap.size = w1.heap.size + 1 := by rw [hw2]; simp
  have bN : Boxed w2 w1.heap.size 34 (.slice (some ⟨gg, 0, none⟩) xs.length cap) := by rw [hw2]; exact Boxed.new w1 34 _
  have hB12 : Below w1.heap.size w1 w2 := by rw [hw2]; exact one_below _ _
  have h01 : w0.heap.size ≤ w1.heap.size := hB1.size
  have h00 : w0.heap.size = w.heap.size + 1 := by rw [← hw0]; simp
  have hB02 : Below w.heap.size w w2 := (hB00.trans (hB1.mono (by omega))).trans (hB12.mono (by omega))
  have bO2 : Boxed w2 w.heap.size 34 (.slice none 0 0) := by
    unfold Boxed at bO0 ⊢
    rw [hB12.block _ (by omega), hB1.block _ (by omega)]; exact bO0
  have hcells : ∀ j, j < xs.length → w2.cell? ⟨gg, j, none⟩ = some (.string ⟨(xs[j]?.getD []).toArray⟩) := fun j hj => (hB12.cell (p := ⟨gg, j, none⟩) (by exact hgh)).trans (own_cell hown j hj rfl)
  have hgg : gg < w2.heap.size := by omega
  have hbs : w1.heap.size < w2.heap.size := by omega
  rw [← hw2]
  refine wpIn_rangeFunc_ownG rfl (by omega) (gf := 169) (lb := #[.pointer (some ⟨w1.heap.size, 0, none⟩)]) rfl h169 (enters_of Tryz.func169 (by kernel_rfl) rfl)
    (back_stops Fence.wide 2 h169 rfl (by omega) w1.heap.size gg cap xs (by omega) w2 hgg hbs bN.cell hcells) Two.trans (Two.put hgg hbs) (Below.refl _ _) (fun _ => rfl)
    (fun pre W => (∃ v, Boxed W w.heap.size 34 v ∧ W.ownsRow w2.heap.size 9 1 v (outOf pre).length (outOf pre) ∧ True) ∧ Below w.heap.size w W ∧ w2.heap.size ≤ W.heap.size)
    (fun _ _ _ => False)
    (OwnFrom.and (Own.from (holdsRow_own w2.heap.size w.heap.size 34 9 1 (fun pre => (outOf pre).length) (fun pre => outOf pre) (fun _ _ => True)) _) (OwnFrom.and (ownFrom_below (Nat.le_refl _) (by omega)) own_size))
    (fun _ _ _ _ _ hs _ _ => hs)
    ⟨⟨_, bO2, World.ownsRow_nil _ _ _ _, trivial⟩, hB02, Nat.le_refl _⟩
    (fun x => { tmps := #[.string s, undef, .slice none 0 0, .pointer (some ⟨w.heap.size, 0, none⟩), undef, .string x.2, .string s, .slice (some ⟨gg, 0, none⟩) xs.length cap, .func (.func 169) #[] #[.pointer (some ⟨w1.heap.size, 0, none⟩)], .int .i64 x.1, .string x.2, undef, undef, undef, undef, undef], defers := [] }) ?assign ?body ?done ?stop
  case assign =>
    intro l x W K hK
    gi_wp2
    exact hK
  case body =>
    rintro l pre x W ⟨⟨v, hv, hrow, _⟩, hB, hWs⟩ hlt
    have hc := hv.cell
    have hpl : (outOf pre).length = pre.length := by simp [outOf]
    have hmx : (outOf pre).length + 1 ≤ maxLen := Nat.le_trans (show (outOf pre).length + 1 ≤ 60001 by omega) (by decide)
    have hmy : ((outOf pre).length + 1) * 16 ≤ 140737488355328 := by omega
    clear hpl
    gi_wp2_with (gi_at_builtin; refine wpListIn_append_own _ rfl _ _ 34 rfl w2.heap.size 9 i0 (.string ByteArray.empty) 1 16 und34 hi hz0 hz1 hz2 rfl (by decide) _ _ _ rfl (hrow.alloc _) ⟨W.heap.size, 0, none⟩ 1 1 [.string x.2] rfl rfl (cell_one_new _ _ _) (by simp [Value.oneCell']) hmx hmy (by have := hB.size; simp; omega) ?_; intro v' w3 hown' hgrow _; obtain ⟨g', cap', rfl⟩ := ownsRow_succ hown'; obtain ⟨hv1, hv2, hr2, hk2, hb2⟩ := hv.appended (by decide) (own_mono hrow (by omega)) (by omega) (Nat.le_refl _) (own_mono hown' (by omega)) hgrow; have hr3 := hown'.kept (grownBy_setCell' w3 w.heap.size (.slice (some ⟨g', 0, none⟩) ((outOf pre).length + 1) cap')) (.inr (hv1.not_row (by decide) hown').symm); have hc1 := hv1.cell; have hf1 := hv1.frozen)
    exact ⟨hk2.from _, grown_two hgrow (by omega) (by omega) (row_ne hrow (by omega)) (row_ne hrow (by omega)) (by omega) (by omega), ⟨⟨_, hv2, by rw [show outOf (pre ++ [x]) = outOf pre ++ [.string x.2] by simp [outOf]]; simpa using hr3, trivial⟩, hB.trans hb2, Nat.le_trans hWs hb2.size⟩⟩
  case done =>
    rintro D ys W hD rfl ⟨⟨v, hv, hrow, _⟩, hB, hWs⟩ hK
    have hc := hv.cell
    gi_wp2
    refine ⟨by simp, .inl ⟨_, _, rfl, run_takeDeferred hK, ?_⟩⟩
    rw [upto_len2, outOf_all] at hrow
    exact ⟨_, results_tmp rfl _ _ _, v, rfl, ownsRow_putObj (own_mono hrow (by omega)) _ hK rfl, hB.trans (belowK_b (w := w) (Nat.le_refl _) W D _ _ (by omega) hK rfl rfl)⟩
  case stop =>
    rintro D c pre W _ _ h _
    exact h.elim

/-- backwards: the labels, the last one first, in a slice of its own. -/
theorem backwards_any {s : ByteArray} {A : List (List UInt8)} (hA : segs 46 s.data.toList = A) (w : World) (hG : Good w) (hs : s.size ≤ 60000) :
    Calls Tryz.prog 86 #[.string s] w fun e w' => ∃ g cap, e = .returned (.slice (some ⟨g, 0, none⟩) A.length cap) ∧ w'.ownsRow w.heap.size 9 1 (.slice (some ⟨g, 0, none⟩) A.length cap) A.length (A.reverse.map S) ∧ Below w.heap.size w w' := by
  subst hA
  refine (callsIn_wide.1 (backwards_in s w hG hs)).mono fun e w' ⟨v, he, hown, hB⟩ => ?_
  rcases hown.2 with ⟨_, h0⟩ | ⟨g, cap, _, rfl, _⟩
  · have := segs_ne 46 s.data.toList
    exact absurd (List.length_eq_zero_iff.1 h0) this
  · exact ⟨g, cap, he, hown, hB⟩
end Go.Proofs.YteigjobliflkdaaGreatDoor
