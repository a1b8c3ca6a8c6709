/- Texts of this claim, joined in build order: T4, T5, T6, T7. -/
import Derived.Test.YteigjobliflkdaaGreatDoorZ16
import Derived.Test.YteigjobliflkdaaGreatDoorZ12
import Derived.Test.YteigjobliflkdaaGreatDoorZ13
/- Walk: target's Same. -/
namespace Go.Proofs.YteigjobliflkdaaGreatDoor
open Go.RowKit

/-- Two readings in a variable. -/
def PairAt (w : World) (g : Nat) (p q : ByteArray) (e s : Int) (p' q' : ByteArray) (e' s' : Int) : Prop := w.heap[g]? = some (.cells #[.string p, .string q, .int .i64 e, .int .i64 s, .string p', .string q', .int .i64 e', .int .i64 s'] 130 (0, 0))
theorem PairAt.cells {w : World} {g : Nat} {p q : ByteArray} {e s : Int} {p' q' : ByteArray} {e' s' : Int} (h : PairAt w g p q e s p' q' e' s') : (w.cell? ⟨g, 0, none⟩ = some (.string p) ∧ w.cell? ⟨g, 1, none⟩ = some (.string q) ∧ w.cell? ⟨g, 2, none⟩ = some (.int .i64 e) ∧ w.cell? ⟨g, 3, none⟩ = some (.int .i64 s)) ∧ (w.cell? ⟨g, 4, none⟩ = some (.string p') ∧ w.cell? ⟨g, 5, none⟩ = some (.string q') ∧ w.cell? ⟨g, 6, none⟩ = some (.int .i64 e') ∧ w.cell? ⟨g, 7, none⟩ = some (.int .i64 s')) := by
  refine ⟨⟨?_, ?_, ?_, ?_⟩, ?_, ?_, ?_, ?_⟩
  all_goals (rw [cell_of_row w g _ _ 130 _ h]; rfl)
theorem PairAt.frozen {w : World} {g : Nat} {p q : ByteArray} {e s : Int} {p' q' : ByteArray} {e' s' : Int} (h : PairAt w g p q e s p' q' e' s') (i : Nat) : w.frozen? ⟨g, i, none⟩ = false := by
  have h' : w.heap[g]? = _ := h
  unfold World.frozen?; simp only [h']; simp
theorem PairAt.below {w w' : World} {g : Nat} {p q : ByteArray} {e s : Int} {p' q' : ByteArray} {e' s' : Int} (h : PairAt w g p q e s p' q' e' s') (hB : Below w.heap.size w w') : PairAt w' g p q e s p' q' e' s' := (hB.block g (Array.getElem?_eq_some_iff.1 h).1).trans h
theorem PairAt.put0 {w : World} {g : Nat} {p q : ByteArray} {e s : Int} {p' q' : ByteArray} {e' s' : Int} (h : PairAt w g p q e s p' q' e' s') (a b : ByteArray) (x y : Int) : PairAt ((((w.setCell ⟨g, 0, none⟩ (.string a)).setCell ⟨g, 1, none⟩ (.string b)).setCell ⟨g, 2, none⟩ (.int .i64 x)).setCell ⟨g, 3, none⟩ (.int .i64 y)) g a b x y p' q' e' s' := by
  have h0 := Lib.heap_setCell_same (i := 0) h (.string a)
  have h1 := Lib.heap_setCell_same (i := 1) h0 (.string b)
  have h2 := Lib.heap_setCell_same (i := 2) h1 (.int .i64 x)
  have h3 := Lib.heap_setCell_same (i := 3) h2 (.int .i64 y)
  exact h3
theorem PairAt.put1 {w : World} {g : Nat} {p q : ByteArray} {e s : Int} {p' q' : ByteArray} {e' s' : Int} (h : PairAt w g p q e s p' q' e' s') (a b : ByteArray) (x y : Int) : PairAt ((((w.setCell ⟨g, 4, none⟩ (.string a)).setCell ⟨g, 5, none⟩ (.string b)).setCell ⟨g, 6, none⟩ (.int .i64 x)).setCell ⟨g, 7, none⟩ (.int .i64 y)) g p q e s a b x y := by
  have h0 := Lib.heap_setCell_same (i := 4) h (.string a)
  have h1 := Lib.heap_setCell_same (i := 5) h0 (.string b)
  have h2 := Lib.heap_setCell_same (i := 6) h1 (.int .i64 x)
  have h3 := Lib.heap_setCell_same (i := 7) h2 (.int .i64 y)
  exact h3
theorem below4i {B : Nat} {w w' : World} (h : Below B w w') (v0 v1 v2 v3 : Value) (i0 i1 i2 i3 : Nat) : Below B w ((((w'.setCell ⟨B, i0, none⟩ v0).setCell ⟨B, i1, none⟩ v1).setCell ⟨B, i2, none⟩ v2).setCell ⟨B, i3, none⟩ v3) :=
  ((((h.setCell (p := ⟨B, i0, none⟩) (Nat.le_refl _) _).setCell (p := ⟨B, i1, none⟩) (Nat.le_refl _) _).setCell (p := ⟨B, i2, none⟩) (Nat.le_refl _) _).setCell (p := ⟨B, i3, none⟩) (Nat.le_refl _) _)

theorem idx131_0 (s t : ByteArray) (w : World) : (Instr.index 131 (.agg #[.string s, .string t]) (.int .i64 0)).run Tryz.prog w = .ok (.string s) w := by kernel_rfl
theorem idx131_1 (s t : ByteArray) (w : World) : (Instr.index 131 (.agg #[.string s, .string t]) (.int .i64 1)).run Tryz.prog w = .ok (.string t) w := by kernel_rfl
set_option maxRecDepth 100000 in
set_option maxHeartbeats 16000000 in
theorem sameT_any (s t : ByteArray) (w : World) (hG : Good w) (hs : s.size ≤ 50000) (ht : t.size ≤ 50000) : Calls Tryz.prog 77 #[.string s, .string t] w (RetV (vBool (tgtSame s.data.toList t.data.toList)) w) := by
  have hz0 : PairAt (w.alloc (.cells #[.string ⟨#[]⟩, .string ⟨#[]⟩, .int .i64 0, .int .i64 0, .string ⟨#[]⟩, .string ⟨#[]⟩, .int .i64 0, .int .i64 0] 130)) w.heap.size ⟨#[]⟩ ⟨#[]⟩ 0 0 ⟨#[]⟩ ⟨#[]⟩ 0 0 := heap_alloc_new _ _
  have HZ0 := Lib.hid hz0
  have HB0 := Lib.hid (one_below w (.cells #[.string ⟨#[]⟩, .string ⟨#[]⟩, .int .i64 0, .int .i64 0, .string ⟨#[]⟩, .string ⟨#[]⟩, .int .i64 0, .int .i64 0] 130))
  have HG := Lib.hid hG
  clear hz0
  have ix0 := idx131_0 s t
  have ix1 := idx131_1 s t
  cases hr : tgtRead s.data.toList 128 with
  | error e =>
    have HF := Lib.hid (show tgtSame s.data.toList t.data.toList = (false, e.1) by unfold tgtSame; rw [hr])
    have H := Lib.hid (readT_E hr hs)
    have he := tgtRead_err hr
    obtain ⟨e1, e2⟩ := e
    clear hr
    have x1 : (e1 != 0) = true := by rcases he with h | h | h | h <;> (simp only at h; subst h; decide)
    clear he
    go_enter Tryz.func77, Tryz.ntmps77
    go_wp2_with fail
    go_loopw [12] (fun i wr => i = .int .i64 0 ∧ Hid (PairAt wr w.heap.size ⟨#[]⟩ ⟨#[]⟩ 0 0 ⟨#[]⟩ ⟨#[]⟩ 0 0 ∧ Below w.heap.size w wr)) (fun i _ => 2 - (intOf i).toNat)
    case atStart => exact ⟨rfl, HZ0.out, HB0.out⟩
    case round =>
      obtain ⟨rfl, HP⟩ := hrel
      go_wp2_with fail
      refine (H.out _ (HG.out.next HP.out.2)).mono ?_
      rintro e w1 ⟨rfl, HB1⟩
      have HP1 := Lib.hid (HP.out.1.below HB1)
      have HPp := HP1.out.put0 ⟨#[]⟩ ⟨#[]⟩ e1 e2
      obtain ⟨⟨c0, c1, c2, c3⟩, c4, c5, c6, c7⟩ := HP1.out.cells
      have y0 := HP1.out.frozen 0
      have y1 := HP1.out.frozen 1
      have y2 := HP1.out.frozen 2
      have y3 := HP1.out.frozen 3
      obtain ⟨⟨d0, d1, d2, d3⟩, d4, d5, d6, d7⟩ := HPp.cells
      have HBB := Lib.hid (below4i (below2 HP.out.2 HB1) (.string ⟨#[]⟩) (.string ⟨#[]⟩) (.int .i64 e1) (.int .i64 e2) 0 1 2 3)
      clear HPp HB1
      go_wp2_with fail
      go_quiet (fail)
      go_wp2_with fail
      go_ret2
      exact RetV.mk (by rw [HF.out]; rfl) (below_drewN HBB.out _)
  | ok x =>
    obtain ⟨x1, x2⟩ := x
    obtain ⟨a, rfl⟩ : ∃ a : ByteArray, x1 = a.data.toList := ⟨⟨x1.toArray⟩, rfl⟩
    obtain ⟨b, rfl⟩ : ∃ b : ByteArray, x2 = b.data.toList := ⟨⟨x2.toArray⟩, rfl⟩
    have H := Lib.hid (readT_S hr hs)
    cases hr2 : tgtRead t.data.toList 128 with
    | error e =>
      have HF := Lib.hid (show tgtSame s.data.toList t.data.toList = (false, e.1) by unfold tgtSame; rw [hr, hr2])
      have H2 := Lib.hid (readT_E hr2 ht)
      have he := tgtRead_err hr2
      obtain ⟨e1, e2⟩ := e
      clear hr hr2
      have x1 : (e1 != 0) = true := by rcases he with h | h | h | h <;> (simp only at h; subst h; decide)
      clear he
      go_enter Tryz.func77, Tryz.ntmps77
      go_wp2_with fail
      go_loopw [12] (fun i wr => (i = .int .i64 0 ∧ Hid (PairAt wr w.heap.size ⟨#[]⟩ ⟨#[]⟩ 0 0 ⟨#[]⟩ ⟨#[]⟩ 0 0 ∧ Below w.heap.size w wr)) ∨ (i = .int .i64 1 ∧ Hid (PairAt wr w.heap.size a b 0 200 ⟨#[]⟩ ⟨#[]⟩ 0 0 ∧ Below w.heap.size w wr))) (fun i _ => 2 - (intOf i).toNat)
      case atStart => exact .inl ⟨rfl, HZ0.out, HB0.out⟩
      case round =>
        rcases hrel with hrel | hrel
        · obtain ⟨rfl, HP⟩ := hrel
          go_wp2_with fail
          refine (H.out _ (HG.out.next HP.out.2)).mono ?_
          rintro e w1 ⟨rfl, HB1⟩
          have HP1 := Lib.hid (HP.out.1.below HB1)
          have HPp := Lib.hid (HP1.out.put0 a b 0 200)
          obtain ⟨⟨c0, c1, c2, c3⟩, c4, c5, c6, c7⟩ := HP1.out.cells
          have y0 := HP1.out.frozen 0
          have y1 := HP1.out.frozen 1
          have y2 := HP1.out.frozen 2
          have y3 := HP1.out.frozen 3
          obtain ⟨⟨d0, d1, d2, d3⟩, d4, d5, d6, d7⟩ := HPp.out.cells
          have HBB := Lib.hid (below4i (below2 HP.out.2 HB1) (.string a) (.string b) (.int .i64 0) (.int .i64 200) 0 1 2 3)
          clear HB1
          go_wp2_with fail
          go_roundw
          case rel => exact .inr (⟨by go_num, HPp.out, HBB.out⟩)
          case measure => (simp [intOf]; try omega)
        · obtain ⟨rfl, HP⟩ := hrel
          go_wp2_with fail
          refine (H2.out _ (HG.out.next HP.out.2)).mono ?_
          rintro e w1 ⟨rfl, HB1⟩
          have HP1 := Lib.hid (HP.out.1.below HB1)
          have HPp := HP1.out.put1 ⟨#[]⟩ ⟨#[]⟩ e1 e2
          obtain ⟨⟨c0, c1, c2, c3⟩, c4, c5, c6, c7⟩ := HP1.out.cells
          have y0 := HP1.out.frozen 4
          have y1 := HP1.out.frozen 5
          have y2 := HP1.out.frozen 6
          have y3 := HP1.out.frozen 7
          obtain ⟨⟨d0, d1, d2, d3⟩, d4, d5, d6, d7⟩ := HPp.cells
          have HBB := Lib.hid (below4i (below2 HP.out.2 HB1) (.string ⟨#[]⟩) (.string ⟨#[]⟩) (.int .i64 e1) (.int .i64 e2) 4 5 6 7)
          clear HPp HB1
          go_wp2_with fail
          go_quiet (fail)
          go_wp2_with fail
          go_ret2
          exact RetV.mk (by rw [HF.out]; rfl) (below_drewN HBB.out _)
    | ok y =>
      obtain ⟨y1, y2⟩ := y
      obtain ⟨c, rfl⟩ : ∃ c : ByteArray, y1 = c.data.toList := ⟨⟨y1.toArray⟩, rfl⟩
      obtain ⟨d, rfl⟩ : ∃ d : ByteArray, y2 = d.data.toList := ⟨⟨y2.toArray⟩, rfl⟩
      have H2 := Lib.hid (readT_S hr2 ht)
      have HF := Lib.hid (show tgtSame s.data.toList t.data.toList = ((a.toList == c.toList) && (b.toList == d.toList), 0) by unfold tgtSame; rw [hr, hr2]; simp only [Lib.toList_data])
      clear hr hr2
      go_enter Tryz.func77, Tryz.ntmps77
      go_wp2_with fail
      go_loopw [12] (fun i wr => (i = .int .i64 0 ∧ Hid (PairAt wr w.heap.size ⟨#[]⟩ ⟨#[]⟩ 0 0 ⟨#[]⟩ ⟨#[]⟩ 0 0 ∧ Below w.heap.size w wr)) ∨ (i = .int .i64 1 ∧ Hid (PairAt wr w.heap.size a b 0 200 ⟨#[]⟩ ⟨#[]⟩ 0 0 ∧ Below w.heap.size w wr)) ∨ (i = .int .i64 2 ∧ Hid (PairAt wr w.heap.size a b 0 200 c d 0 200 ∧ Below w.heap.size w wr))) (fun i _ => 2 - (intOf i).toNat)
      case atStart => exact .inl ⟨rfl, HZ0.out, HB0.out⟩
      case round =>
        rcases hrel with hrel | hrel | hrel
        · obtain ⟨rfl, HP⟩ := hrel
          go_wp2_with fail
          refine (H.out _ (HG.out.next HP.out.2)).mono ?_
          rintro e w1 ⟨rfl, HB1⟩
          have HP1 := Lib.hid (HP.out.1.below HB1)
          have HPp := Lib.hid (HP1.out.put0 a b 0 200)
          obtain ⟨⟨c0, c1, c2, c3⟩, c4, c5, c6, c7⟩ := HP1.out.cells
          have y0 := HP1.out.frozen 0
          have y1 := HP1.out.frozen 1
          have y2 := HP1.out.frozen 2
          have y3 := HP1.out.frozen 3
          obtain ⟨⟨g0, g1, g2, g3⟩, g4, g5, g6, g7⟩ := HPp.out.cells
          have HBB := Lib.hid (below4i (below2 HP.out.2 HB1) (.string a) (.string b) (.int .i64 0) (.int .i64 200) 0 1 2 3)
          clear HB1
          go_wp2_with fail
          go_roundw
          case rel => exact .inr (.inl ⟨by go_num, HPp.out, HBB.out⟩)
          case measure => (simp [intOf]; try omega)
        · obtain ⟨rfl, HP⟩ := hrel
          go_wp2_with fail
          refine (H2.out _ (HG.out.next HP.out.2)).mono ?_
          rintro e w1 ⟨rfl, HB1⟩
          have HP1 := Lib.hid (HP.out.1.below HB1)
          have HPp := Lib.hid (HP1.out.put1 c d 0 200)
          obtain ⟨⟨c0, c1, c2, c3⟩, c4, c5, c6, c7⟩ := HP1.out.cells
          have y0 := HP1.out.frozen 4
          have y1 := HP1.out.frozen 5
          have y2 := HP1.out.frozen 6
          have y3 := HP1.out.frozen 7
          obtain ⟨⟨g0, g1, g2, g3⟩, g4, g5, g6, g7⟩ := HPp.out.cells
          have HBB := Lib.hid (below4i (below2 HP.out.2 HB1) (.string c) (.string d) (.int .i64 0) (.int .i64 200) 4 5 6 7)
          clear HB1
          go_wp2_with fail
          go_roundw
          case rel => exact .inr (.inr ⟨by go_num, HPp.out, HBB.out⟩)
          case measure => (simp [intOf]; try omega)
        · obtain ⟨rfl, HP⟩ := hrel
          obtain ⟨⟨c0, c1, c2, c3⟩, c4, c5, c6, c7⟩ := HP.out.1.cells
          by_cases h1 : a = c
          · by_cases h2 : b = d
            · subst h1
              subst h2
              have HF2 := Lib.hid (show tgtSame s.data.toList t.data.toList = (true, 0) by rw [HF.out]; simp)
              go_wp2_with fail
              go_ret2
              exact RetV.mk (by rw [HF2.out]; rfl) HP.out.2
            · subst h1
              have e2 : (b.toList == d.toList) = false := by rw [Lib.toList_data, Lib.toList_data, beq_eq_false_iff_ne]; exact fun e => h2 (bs_ext e)
              have HF2 := Lib.hid (show tgtSame s.data.toList t.data.toList = (false, 0) by rw [HF.out, e2]; simp)
              go_wp2_with fail
              go_ret2
              exact RetV.mk (by rw [HF2.out]; rfl) HP.out.2
          · have e1 : (a.toList == c.toList) = false := by rw [Lib.toList_data, Lib.toList_data, beq_eq_false_iff_ne]; exact fun e => h1 (bs_ext e)
            have HF2 := Lib.hid (show tgtSame s.data.toList t.data.toList = (false, 0) by rw [HF.out, e1]; simp)
            go_wp2_with fail
            go_ret2
            exact RetV.mk (by rw [HF2.out]; rfl) HP.out.2
end Go.Proofs.YteigjobliflkdaaGreatDoor
/- Walks: layer 18's parses, refused, awake; TargetReads, TargetWrites. -/
namespace Go.Proofs.YteigjobliflkdaaGreatDoor
open Go.RowKit

theorem vRead_ok {l : List UInt8} {L : Int} {p q : ByteArray} (h : tgtRead l L = .ok (p.data.toList, q.data.toList)) : vRead (tgtRead l L) = .tuple #[.string p, .string q, .int .i64 0, .int .i64 200] := by
  rw [h]; show Value.tuple #[.string ⟨p.data.toList.toArray⟩, .string ⟨q.data.toList.toArray⟩, .int .i64 0, .int .i64 200] = _; rw [bs_mk, bs_mk]
theorem vRead_err {l : List UInt8} {L e st : Int} (h : tgtRead l L = .error (e, st)) : vRead (tgtRead l L) = .tuple #[.string ⟨#[]⟩, .string ⟨#[]⟩, .int .i64 e, .int .i64 st] := by rw [h]; rfl
set_option maxRecDepth 100000 in
set_option maxHeartbeats 1000000 in
theorem parses18_t {s p q : ByteArray} {L : Int} (h : tgtRead s.data.toList L = .ok (p.data.toList, q.data.toList)) (hs : s.size ≤ 50000) (w : World) (hG : Good w) :
    Calls Tryz.prog 46 #[.string s, .int .i64 L, .string p, .string q] w (RetV (.bool true) w) := by
  have H := Lib.hid (parseT_T (vRead_ok h) hs)
  clear h
  go_enter Tryz.func46, Tryz.ntmps46
  go_wp2_with fail
  refine (H.out _ hG).mono ?_
  rintro e w1 ⟨rfl, HB⟩
  go_wp2_with fail
  go_ret
  exact RetV.mk rfl HB
set_option maxRecDepth 100000 in
set_option maxHeartbeats 1000000 in
theorem refused18_t {s : ByteArray} {L e st : Int} (h : tgtRead s.data.toList L = .error (e, st)) (hs : s.size ≤ 50000) (w : World) (hG : Good w) :
    Calls Tryz.prog 81 #[.string s, .int .i64 L, .int .i64 st] w (RetV (.bool true) w) := by
  have H := Lib.hid (parseT_T (vRead_err h) hs)
  clear h
  go_enter Tryz.func81, Tryz.ntmps81
  go_wp2_with fail
  refine (H.out _ hG).mono ?_
  rintro e w1 ⟨rfl, HB⟩
  go_wp2_with fail
  go_ret
  exact RetV.mk rfl HB
theorem textT_B {p q t : ByteArray} (h : tgtText p.data.toList q.data.toList = .ok t.data.toList) (hp : p.size ≤ 60000) (hq : q.size ≤ 60000) (w : World) (hG : Good w) :
    Calls Tryz.prog 44 #[.string p, .string q] w fun e w' => e = .returned (.tuple #[.string t, .int .i64 0]) ∧ Below w.heap.size w w' :=
  textT_T (by rw [h]; show Value.tuple #[.string ⟨t.data.toList.toArray⟩, .int .i64 0] = _; rw [bs_mk]) hp hq w hG
theorem canonT_B {s t : ByteArray} (h : tgtCanon s.data.toList = .ok t.data.toList) (hs : s.size ≤ 50000) (w : World) (hG : Good w) :
    Calls Tryz.prog 45 #[.string s] w fun e w' => e = .returned (.tuple #[.string t, .int .i64 0]) ∧ Below w.heap.size w w' := by
  have := canonT_any s w hG hs
  rw [h, show vStr (.ok t.data.toList) = .tuple #[.string t, .int .i64 0] by show Value.tuple #[.string ⟨t.data.toList.toArray⟩, .int .i64 0] = _; rw [bs_mk]] at this
  exact this
theorem sameT_B {s t : ByteArray} {b : Bool} {x : Int} (h : tgtSame s.data.toList t.data.toList = (b, x)) (hs : s.size ≤ 50000) (ht : t.size ≤ 50000) (w : World) (hG : Good w) :
    Calls Tryz.prog 77 #[.string s, .string t] w fun e w' => e = .returned (.tuple #[.bool b, .int .i64 x]) ∧ Below w.heap.size w w' := by
  have := sameT_any s t w hG hs ht; rw [h] at this; exact this

set_option maxRecDepth 100000 in
set_option maxHeartbeats 8000000 in
theorem awake18_t (w : World) (hG : Good w) : Calls Tryz.prog 70 #[] w (RetV (.bool true) w) := by
  have HBc := Below.refl w.heap.size w
  go_enter Tryz.func70, Tryz.ntmps70
  go_wp2_with fail
  refine (textT_B (p := ⟨#[47, 97, 32, 98]⟩) (q := ⟨#[113]⟩) (t := ⟨#[47, 97, 37, 50, 48, 98, 63, 113]⟩) (by kernel_rfl) (by decide) (by decide) _ hG).mono ?_
  rintro e w1 ⟨rfl, HB⟩
  replace HBc := below2 HBc HB
  replace hG := hG.next HB
  clear HB
  go_wp2_with fail
  refine (sameT_B (s := ⟨#[47, 97, 47, 46, 47, 98]⟩) (t := ⟨#[47, 97, 47, 37, 54, 50]⟩) (b := true) (x := 0) (by kernel_rfl) (by decide) (by decide) _ hG).mono ?_
  rintro e w1 ⟨rfl, HB⟩
  replace HBc := below2 HBc HB
  replace hG := hG.next HB
  clear HB
  go_wp2_with fail
  refine (parses18_t (s := ⟨#[47, 97, 37, 50, 48, 98, 63, 120, 61, 49, 63, 121]⟩) (L := 128) (p := ⟨#[47, 97, 32, 98]⟩) (q := ⟨#[120, 61, 49, 63, 121]⟩) (by kernel_rfl) (by decide) _ hG).mono ?_
  rintro e w1 ⟨rfl, HB⟩
  replace HBc := below2 HBc HB
  replace hG := hG.next HB
  clear HB
  go_wp2_with fail
  refine (refused18_t (s := ⟨#[47, 46, 46]⟩) (L := 128) (e := 18) (st := 400) (by kernel_rfl) (by decide) _ hG).mono ?_
  rintro e w1 ⟨rfl, HB⟩
  replace HBc := below2 HBc HB
  replace hG := hG.next HB
  clear HB
  go_wp2_with fail
  go_ret
  exact RetV.mk rfl HBc

theorem vTgt_form (r : Except Int (List UInt8 × List UInt8)) : ∃ (a b : ByteArray) (x : Int), vTgt r = .tuple #[.string a, .string b, .int .i64 x] := by
  cases r with
  | error e => exact ⟨⟨#[]⟩, ⟨#[]⟩, e, rfl⟩
  | ok x => exact ⟨⟨x.1.toArray⟩, ⟨x.2.toArray⟩, 0, rfl⟩
theorem splitT_T {s a b : ByteArray} {x : Int} (h : vTgt (tgtSplit s.data.toList) = .tuple #[.string a, .string b, .int .i64 x]) (hs : s.size ≤ 60000) (w : World) (hG : Good w) :
    Calls Tryz.prog 49 #[.string s] w fun e w' => e = .returned (.tuple #[.string a, .string b, .int .i64 x]) ∧ Below w.heap.size w w' := by
  have := splitT_any s w hG hs; rw [h] at this; exact this
theorem split18_T {s a b : ByteArray} {x : Int} (h : vTgt (tgtSplit s.data.toList) = .tuple #[.string a, .string b, .int .i64 x]) (hs : s.size ≤ 60000) (w : World) :
    Calls Tryz.prog 71 #[.string s] w fun e w' => e = .returned (.tuple #[.string a, .string b, .int .i64 x]) ∧ Below w.heap.size w w' := by
  have := split18_ref s w hs; rw [h] at this; exact this

set_option maxRecDepth 100000 in
set_option maxHeartbeats 8000000 in
theorem targetReads_t (s : ByteArray) (L : Int) (w : World) (hG : Good w) : Calls Tryz.prog 16 #[.string s, .int .i64 L] w (RetV (.bool true) w) := by
  by_cases h1 : 1200 < s.size
  · have d1 : decide ((1200 : Int) < (s.size : Int)) = true := by simp; omega
    go_enter Tryz.func16, Tryz.ntmps16
    go_wp2_with fail
    refine (awake18_t _ hG).mono ?_
    rintro e w1 ⟨rfl, HB⟩
    go_wp2_with fail
    go_ret
    exact RetV.mk rfl HB
  have d1 : decide ((1200 : Int) < (s.size : Int)) = false := by simp; omega
  obtain ⟨a, b, x, hsp⟩ := vTgt_form (tgtSplit s.data.toList)
  obtain ⟨c, d, y, z, _, hrd⟩ := aRead_form (tgtRead s.data.toList L)
  have C1 := Lib.hid (splitT_T hsp (by omega))
  have C2 := Lib.hid (split18_T hsp (by omega))
  have C3 := Lib.hid (parseT_T hrd (by omega))
  have C4 := Lib.hid (parse_refT hrd (by omega))
  have C5 := Lib.hid (whyT_T hrd (by omega))
  have C6 := Lib.hid (why_refT hrd (by omega))
  clear hsp hrd
  go_enter Tryz.func16, Tryz.ntmps16
  go_wp2_with fail
  refine (C1.out _ hG).mono ?_
  rintro e w1 ⟨rfl, HBc⟩
  replace hG := hG.next HBc
  go_wp2_with fail
  refine (C2.out _).mono ?_
  rintro e w1 ⟨rfl, HB⟩
  replace HBc := below2 HBc HB
  replace hG := hG.next HB
  clear HB
  go_wp2_with fail
  refine (C3.out _ hG).mono ?_
  rintro e w1 ⟨rfl, HB⟩
  replace HBc := below2 HBc HB
  replace hG := hG.next HB
  clear HB
  go_wp2_with fail
  refine (C4.out _).mono ?_
  rintro e w1 ⟨rfl, HB⟩
  replace HBc := below2 HBc HB
  replace hG := hG.next HB
  clear HB
  go_wp2_with fail
  refine (C5.out _ hG).mono ?_
  rintro e w1 ⟨rfl, HB⟩
  replace HBc := below2 HBc HB
  replace hG := hG.next HB
  clear HB
  go_wp2_with fail
  refine (C6.out _).mono ?_
  rintro e w1 ⟨rfl, HB⟩
  replace HBc := below2 HBc HB
  replace hG := hG.next HB
  clear HB
  go_wp2_with fail
  refine (awake18_t _ hG).mono ?_
  rintro e w1 ⟨rfl, HB⟩
  replace HBc := below2 HBc HB
  replace hG := hG.next HB
  clear HB
  go_wp2_with fail
  go_ret
  exact RetV.mk rfl HBc

set_option maxRecDepth 100000 in
set_option maxHeartbeats 8000000 in
theorem targetWrites_t (p q s t : ByteArray) (w : World) (hG : Good w) : Calls Tryz.prog 17 #[.string p, .string q, .string s, .string t] w (RetV (.bool true) w) := by
  by_cases h0 : 1200 < p.size
  · have d1 : decide ((1200 : Int) < (p.size : Int)) = true := by simp; omega
    go_enter Tryz.func17, Tryz.ntmps17
    go_wp2_with fail
    refine (awake18_t _ hG).mono ?_
    rintro e w1 ⟨rfl, HB⟩
    go_wp2_with fail
    go_ret
    exact RetV.mk rfl HB
  have d1 : decide ((1200 : Int) < (p.size : Int)) = false := by simp; omega
  by_cases h1 : 1200 < q.size
  · have d2 : decide ((1200 : Int) < (q.size : Int)) = true := by simp; omega
    go_enter Tryz.func17, Tryz.ntmps17
    go_wp2_with fail
    refine (awake18_t _ hG).mono ?_
    rintro e w1 ⟨rfl, HB⟩
    go_wp2_with fail
    go_ret
    exact RetV.mk rfl HB
  have d2 : decide ((1200 : Int) < (q.size : Int)) = false := by simp; omega
  by_cases h2 : 1200 < s.size
  · have d3 : decide ((1200 : Int) < (s.size : Int)) = true := by simp; omega
    go_enter Tryz.func17, Tryz.ntmps17
    go_wp2_with fail
    refine (awake18_t _ hG).mono ?_
    rintro e w1 ⟨rfl, HB⟩
    go_wp2_with fail
    go_ret
    exact RetV.mk rfl HB
  have d3 : decide ((1200 : Int) < (s.size : Int)) = false := by simp; omega
  by_cases h3 : 1200 < t.size
  · have d4 : decide ((1200 : Int) < (t.size : Int)) = true := by simp; omega
    go_enter Tryz.func17, Tryz.ntmps17
    go_wp2_with fail
    refine (awake18_t _ hG).mono ?_
    rintro e w1 ⟨rfl, HB⟩
    go_wp2_with fail
    go_ret
    exact RetV.mk rfl HB
  have d4 : decide ((1200 : Int) < (t.size : Int)) = false := by simp; omega
  obtain ⟨a, x, htx⟩ := vStr_form (tgtText p.data.toList q.data.toList)
  obtain ⟨b, y, hcn⟩ := vStr_form (tgtCanon s.data.toList)
  obtain ⟨m, z, hsm⟩ : ∃ m z, tgtSame s.data.toList t.data.toList = (m, z) := ⟨_, _, rfl⟩
  have C1 := Lib.hid (textT_T htx (by omega) (by omega))
  have C2 := Lib.hid (text_refT htx (by omega) (by omega))
  have C3 := Lib.hid (fun w hG => by have := canonT_any s w hG (by omega); rw [hcn] at this; exact this)
  have C4 := Lib.hid (fun w => by have := canon_ref s w (by omega); rw [hcn] at this; exact this)
  have C5 := Lib.hid (fun w hG => by have := sameT_any s t w hG (by omega) (by omega); rw [hsm] at this; exact this)
  have C6 := Lib.hid (fun w => by have := same18_ref s t w (by omega) (by omega); rw [hsm] at this; exact this)
  unfold vBool at C5 C6
  have hset := setB_run charN charN
  rw [setB_self] at hset
  clear htx hcn hsm
  go_enter Tryz.func17, Tryz.ntmps17
  go_wp2_with fail
  refine (C1.out _ hG).mono ?_
  rintro e w1 ⟨rfl, HBc⟩
  replace hG := hG.next HBc
  go_wp2_with fail
  refine (C2.out _).mono ?_
  rintro e w1 ⟨rfl, HB⟩
  replace HBc := below2 HBc HB
  replace hG := hG.next HB
  clear HB
  go_wp2_with fail
  refine (C3.out _ hG).mono ?_
  rintro e w1 ⟨rfl, HB⟩
  replace HBc := below2 HBc HB
  replace hG := hG.next HB
  clear HB
  go_wp2_with fail
  refine (C4.out _).mono ?_
  rintro e w1 ⟨rfl, HB⟩
  replace HBc := below2 HBc HB
  replace hG := hG.next HB
  clear HB
  go_wp2_with fail
  refine (C5.out _ hG).mono ?_
  rintro e w1 ⟨rfl, HB⟩
  replace HBc := below2 HBc HB
  replace hG := hG.next HB
  clear HB
  go_wp2_with fail
  refine (C6.out _).mono ?_
  rintro e w1 ⟨rfl, HB⟩
  replace HBc := below2 HBc HB
  replace hG := hG.next HB
  clear HB
  cases m
  all_goals
    go_wp2_with fail
    refine (chars_any _).mono ?_
    rintro e w1 ⟨rfl, HB⟩
    replace HBc := below2 HBc HB
    replace hG := hG.next HB
    clear HB
    unfold setV
    go_wp2_with fail
    refine (chars_ref _).mono ?_
    rintro e w1 ⟨rfl, HB⟩
    replace HBc := below2 HBc HB
    replace hG := hG.next HB
    clear HB
    unfold setV
    go_wp2_with fail
    refine (awake18_t _ hG).mono ?_
    rintro e w1 ⟨rfl, HB⟩
    replace HBc := below2 HBc HB
    replace hG := hG.next HB
    clear HB
    go_wp2_with fail
    go_ret
    exact RetV.mk rfl HBc
end Go.Proofs.YteigjobliflkdaaGreatDoor
/- Walk: TargetKnown. -/
namespace Go.Proofs.YteigjobliflkdaaGreatDoor
open Go.RowKit

theorem whyT_B {s : ByteArray} {L e st : Int} (h : tgtRead s.data.toList L = .error (e, st)) (hs : s.size ≤ 50000) (w : World) (hG : Good w) :
    Calls Tryz.prog 73 #[.string s, .int .i64 L] w fun e' w' => e' = .returned (.tuple #[.int .i64 e, .int .i64 st]) ∧ Below w.heap.size w w' := whyT_T (vRead_err h) hs w hG
/-- A row of bytes, 1025 of them. -/
def RowU (w : World) (g : Nat) : Prop := ∃ C : Array Value, w.heap[g]? = some (.cells C 5 (0, 0)) ∧ ∀ i, i < 1025 → ∃ n : Nat, n < 256 ∧ C[i]? = some (.int .u8 n)
theorem RowU.made {w : World} {B g : Nat} (h : w.ownsRow B 5 1 (.slice (some ⟨g, 0, none⟩) 1025 1025) 1025 (madeCells (Value.int .u8 0).cells (1025 * 1)).toList) : RowU w g := by
  obtain ⟨_, ⟨h0, _⟩ | ⟨g', cap, cur, e, _, hb, _, _, hc, ht⟩⟩ := h
  · cases h0
  · injection e with e _ _
    injection e with e
    injection e with e
    subst e
    refine ⟨cur, hb, fun i hi => ⟨0, by decide, ?_⟩⟩
    have h1 := congrArg (·[i]?) ht
    simp only [List.getElem?_take] at h1
    rw [if_pos (by omega)] at h1
    rw [← Array.getElem?_toList, h1]
    simp [madeCells, Value.cells, hi]
    rw [Nat.mod_one]; rfl
theorem RowU.frozen {w : World} {g : Nat} (h : RowU w g) (i : Nat) : w.frozen? ⟨g, i, none⟩ = false := by
  obtain ⟨C, h, _⟩ := h
  unfold World.frozen?; simp only [h]; simp
theorem RowU.cell {w : World} {g : Nat} (h : RowU w g) (i : Nat) (hi : i < 1025) : ∃ n : Nat, n < 256 ∧ w.cell? ⟨g, i, none⟩ = some (.int .u8 n) := by
  obtain ⟨C, h, hc⟩ := h
  obtain ⟨n, hn, e⟩ := hc i hi
  exact ⟨n, hn, by rw [cell_of_row w g i _ 5 _ h, e]⟩
theorem RowU.set {w : World} {g : Nat} (h : RowU w g) (i : Nat) : RowU (w.setCell ⟨g, i, none⟩ (.int .u8 47)) g := by
  obtain ⟨C, h, hc⟩ := h
  refine ⟨_, Lib.heap_setCell_same (i := i) h _, fun j hj => ?_⟩
  obtain ⟨n, hn, e⟩ := hc j hj
  by_cases hij : i = j
  · subst hij
    refine ⟨47, by decide, ?_⟩
    rw [Array.getElem?_setIfInBounds_self_of_lt (Array.getElem?_eq_some_iff.1 e).1]; rfl
  · exact ⟨n, hn, by rw [Array.getElem?_setIfInBounds_ne hij]; exact e⟩
theorem RowU.back {w : World} {g cap : Nat} (h : RowU w g) : ∃ s : ByteArray, s.size = 1025 ∧ (convert 75 9 (.slice (some ⟨g, 0, none⟩) 1025 cap)).run Tryz.prog w = .ok (.string s) w := by
  have hc := h.cell
  obtain ⟨f, hf⟩ : ∃ f : Nat → Nat, ∀ i, i < 1025 → f i < 256 ∧ w.cell? ⟨g, i, none⟩ = some (.int .u8 (f i)) :=
    ⟨fun i => if hi : i < 1025 then (hc i hi).choose else 0, fun i hi => by simp only [hi, dif_pos]; exact (hc i hi).choose_spec⟩
  have hl : ((List.range 1025).map fun i => UInt8.ofNat (f i)).length = 1025 := by simp
  refine ⟨⟨((List.range 1025).map fun i => UInt8.ofNat (f i)).toArray⟩, by rw [← size_len]; simp, ?_⟩
  have := run_convert_bytes_back (P := Tryz.prog) w 75 9 5 ⟨g, 0, none⟩ cap ((List.range 1025).map fun i => UInt8.ofNat (f i)) Tryz.underlying75 Tryz.underlying5 Tryz.underlying9 (fun j hj => by
    rw [hl] at hj
    have hadd : (⟨g, 0, none⟩ : Addr).add j = ⟨g, j, none⟩ := by unfold Addr.add; split <;> simp_all
    rw [hadd, (hf j hj).2]
    have := (hf j hj).1
    simp only [List.getElem_map, List.getElem_range, UInt8.toNat_ofNat']
    rw [Nat.mod_eq_of_lt (by omega)])
  rw [hl] at this
  exact this
theorem why_long {s : ByteArray} (h : s.size = 1025) (w : World) (hG : Good w) : Calls Tryz.prog 73 #[.string s, .int .i64 128] w fun e' w' => e' = .returned (.tuple #[.int .i64 4, .int .i64 414]) ∧ Below w.heap.size w w' :=
  whyT_B (by
    unfold tgtRead tgtSplit
    rw [if_neg (by omega), if_pos (by rw [size_len]; omega)]; rfl) (by omega) w hG

set_option maxRecDepth 100000 in
set_option maxHeartbeats 32000000 in
theorem targetKnown_t (w : World) (hG : Good w) : Calls Tryz.prog 18 #[] w (RetV (.bool true) w) := by
  have HBc := Below.refl w.heap.size w
  go_enter Tryz.func18, Tryz.ntmps18
  go_wp2_with fail
  refine (whyT_B (s := ⟨#[47, 46, 46]⟩) (L := 128) (e := 18) (st := 400) (by kernel_rfl) (by decide) _ hG).mono ?_
  rintro e w1 ⟨rfl, HB⟩
  replace HBc := below2 HBc HB
  replace hG := hG.next HB
  clear HB
  go_wp2_with fail
  refine (whyT_B (s := ⟨#[47, 97, 98, 99]⟩) (L := 3) (e := 4) (st := 414) (by kernel_rfl) (by decide) _ hG).mono ?_
  rintro e w1 ⟨rfl, HB⟩
  replace HBc := below2 HBc HB
  replace hG := hG.next HB
  clear HB
  go_wp2_with fail
  refine (splitT_S (s := ⟨#[47, 97, 63, 98, 63, 99]⟩) (a := ⟨#[47, 97]⟩) (b := ⟨#[98, 63, 99]⟩) (by kernel_rfl) (by decide) _ hG).mono ?_
  rintro e w1 ⟨rfl, HB⟩
  replace HBc := below2 HBc HB
  replace hG := hG.next HB
  clear HB
  go_wp2_with fail
  refine (splitT_E (s := ⟨#[47, 97, 32, 98]⟩) (e := 3) (by kernel_rfl) (by decide) _ hG).mono ?_
  rintro e w1 ⟨rfl, HB⟩
  replace HBc := below2 HBc HB
  replace hG := hG.next HB
  clear HB
  go_wp2_with fail
  refine (textT_B (p := ⟨#[47]⟩) (q := ⟨#[]⟩) (t := ⟨#[47]⟩) (by kernel_rfl) (by decide) (by decide) _ hG).mono ?_
  rintro e w1 ⟨rfl, HB⟩
  replace HBc := below2 HBc HB
  replace hG := hG.next HB
  clear HB
  go_wp2_with fail
  refine (canonT_B (s := ⟨#[47, 37, 54, 49, 47, 47, 98, 63]⟩) (t := ⟨#[47, 97, 47, 98]⟩) (by kernel_rfl) (by decide) _ hG).mono ?_
  rintro e w1 ⟨rfl, HB⟩
  replace HBc := below2 HBc HB
  replace hG := hG.next HB
  clear HB
  go_wp2_with fail
  refine (sameT_B (s := ⟨#[47, 97]⟩) (t := ⟨#[47, 97, 63, 120]⟩) (b := false) (x := 0) (by kernel_rfl) (by decide) (by decide) _ hG).mono ?_
  rintro e w1 ⟨rfl, HB⟩
  replace HBc := below2 HBc HB
  replace hG := hG.next HB
  clear HB
  go_wp2_with fail
  refine (parses18_t (s := ⟨#[47, 97, 47, 47, 46, 47, 98, 47, 46, 46, 47, 99, 47]⟩) (L := 128) (p := ⟨#[47, 97, 47, 99, 47]⟩) (q := ⟨#[]⟩) (by kernel_rfl) (by decide) _ hG).mono ?_
  rintro e w1 ⟨rfl, HB⟩
  replace HBc := below2 HBc HB
  replace hG := hG.next HB
  clear HB
  go_wp2_with fail
  refine (parses18_t (s := ⟨#[47, 63]⟩) (L := 128) (p := ⟨#[47]⟩) (q := ⟨#[]⟩) (by kernel_rfl) (by decide) _ hG).mono ?_
  rintro e w1 ⟨rfl, HB⟩
  replace HBc := below2 HBc HB
  replace hG := hG.next HB
  clear HB
  go_wp2_with fail
  refine (refused18_t (s := ⟨#[97]⟩) (L := 128) (e := 3) (st := 400) (by kernel_rfl) (by decide) _ hG).mono ?_
  rintro e w1 ⟨rfl, HB⟩
  replace HBc := below2 HBc HB
  replace hG := hG.next HB
  clear HB
  go_wp2_with fail
  refine (refused18_t (s := ⟨#[47, 37, 50, 101, 37, 50, 101, 47, 97]⟩) (L := 128) (e := 18) (st := 400) (by kernel_rfl) (by decide) _ hG).mono ?_
  rintro e w1 ⟨rfl, HB⟩
  replace HBc := below2 HBc HB
  replace hG := hG.next HB
  clear HB
  go_wp2_with fail
  refine (parses18_t (s := ⟨#[47, 97, 37, 50, 102, 98]⟩) (L := 128) (p := ⟨#[47, 97, 47, 98]⟩) (q := ⟨#[]⟩) (by kernel_rfl) (by decide) _ hG).mono ?_
  rintro e w1 ⟨rfl, HB⟩
  replace HBc := below2 HBc HB
  replace hG := hG.next HB
  clear HB
  go_wp2_with fail
  refine (refused18_t (s := ⟨#[47, 37, 48, 48]⟩) (L := 128) (e := 3) (st := 400) (by kernel_rfl) (by decide) _ hG).mono ?_
  rintro e w1 ⟨rfl, HB⟩
  replace HBc := below2 HBc HB
  replace hG := hG.next HB
  clear HB
  go_wp2_with fail
  refine (refused18_t (s := ⟨#[47, 37, 48, 100]⟩) (L := 128) (e := 3) (st := 400) (by kernel_rfl) (by decide) _ hG).mono ?_
  rintro e w1 ⟨rfl, HB⟩
  replace HBc := below2 HBc HB
  replace hG := hG.next HB
  clear HB
  go_wp2_with fail
  refine (refused18_t (s := ⟨#[47, 37, 52]⟩) (L := 128) (e := 3) (st := 400) (by kernel_rfl) (by decide) _ hG).mono ?_
  rintro e w1 ⟨rfl, HB⟩
  replace HBc := below2 HBc HB
  replace hG := hG.next HB
  clear HB
  go_wp2_with fail
  refine (refused18_t (s := ⟨#[47, 97, 35]⟩) (L := 128) (e := 3) (st := 400) (by kernel_rfl) (by decide) _ hG).mono ?_
  rintro e w1 ⟨rfl, HB⟩
  replace HBc := below2 HBc HB
  replace hG := hG.next HB
  clear HB
  go_wp2_with fail
  refine (refused18_t (s := ⟨#[47, 97, 98, 99]⟩) (L := 3) (e := 4) (st := 414) (by kernel_rfl) (by decide) _ hG).mono ?_
  rintro e w1 ⟨rfl, HB⟩
  replace HBc := below2 HBc HB
  replace hG := hG.next HB
  clear HB
  go_wp2_with fail
  refine (parses18_t (s := ⟨#[47, 97, 98, 99]⟩) (L := 4) (p := ⟨#[47, 97, 98, 99]⟩) (q := ⟨#[]⟩) (by kernel_rfl) (by decide) _ hG).mono ?_
  rintro e w1 ⟨rfl, HB⟩
  replace HBc := below2 HBc HB
  replace hG := hG.next HB
  clear HB
  go_wp2_with fail
  refine (parses18_t (s := ⟨#[47, 97, 47, 46, 46, 47, 98]⟩) (L := 2) (p := ⟨#[47, 98]⟩) (q := ⟨#[]⟩) (by kernel_rfl) (by decide) _ hG).mono ?_
  rintro e w1 ⟨rfl, HB⟩
  replace HBc := below2 HBc HB
  replace hG := hG.next HB
  clear HB
  go_wp2_with fail
  refine (refused18_t (s := ⟨#[47, 97]⟩) (L := 0) (e := 2) (st := 0) (by kernel_rfl) (by decide) _ hG).mono ?_
  rintro e w1 ⟨rfl, HB⟩
  replace HBc := below2 HBc HB
  replace hG := hG.next HB
  clear HB
  obtain ⟨i0, hi, hz0, hz1, hz2⟩ := info_parts info5
  have hw8 := hG.size
  go_wp2_with (at_make; refine wpList_make_full _ rfl _ _ 75 rfl w1.heap.size 5 i0 (.int .u8 0) 1 Tryz.underlying75 hi hz0 hz1 .i64 .i64 1025 1025 1025 rfl rfl rfl rfl (by rw [hz2]; decide) (by decide) (Nat.le_refl _) ?_)
  intro w2 hown hgr
  have HR := Lib.hid (RowU.made hown)
  have HB2 := Lib.hid ((Below.refl w1.heap.size w1).grown hgr (Nat.le_refl _) (fun r e => by cases e))
  clear hown hgr hi hz0 hz1 hz2
  go_wp2_with fail
  go_loopw [22] (fun i wr => ∃ k : Nat, k ≤ 1025 ∧ i = .int .i64 k ∧ Hid (RowU wr w1.heap.size ∧ Below w1.heap.size w1 wr)) (fun i _ => 1025 - (intOf i).toNat)
  case atStart => exact ⟨0, by omega, rfl, HR.out, HB2.out⟩
  case round =>
    obtain ⟨k, hk, rfl, HP⟩ := hrel
    by_cases hlt : k < 1025
    · have d1 : decide ((k : Int) < 1025) = true := by simp; omega
      have b1 : (0 : Int) ≤ k := by omega
      have b2 : (k : Int) < 1025 := by omega
      obtain ⟨n, hn, hc⟩ := HP.out.1.cell k hlt
      have hfz := HP.out.1.frozen k
      have HN := Lib.hid (show RowU (wr.setCell ⟨w1.heap.size, k, none⟩ (.int .u8 47)) w1.heap.size ∧ Below w1.heap.size w1 (wr.setCell ⟨w1.heap.size, k, none⟩ (.int .u8 47)) from ⟨HP.out.1.set k, HP.out.2.setCell (p := ⟨w1.heap.size, k, none⟩) (Nat.le_refl _) _⟩)
      go_wp2_with fail
      go_roundw
      case rel => exact ⟨k + 1, by omega, by go_num, HN⟩
      case measure => (simp [intOf]; try omega)
    · have d1 : decide ((k : Int) < 1025) = false := by simp; omega
      obtain ⟨s, hs, hcv⟩ := HP.out.1.back (cap := 1025)
      have hG := hG.next HP.out.2
      have HBc := below2 HBc HP.out.2
      go_wp2_with fail
      refine (why_long hs _ hG).mono ?_
      rintro e w3 ⟨rfl, HB⟩
      replace HBc := below2 HBc HB
      replace hG := hG.next HB
      clear HB
      go_wp2_with fail
      refine (awake18_t _ hG).mono ?_
      rintro e w3 ⟨rfl, HB⟩
      replace HBc := below2 HBc HB
      go_wp2_with fail
      go_ret
      exact RetV.mk rfl HBc
end Go.Proofs.YteigjobliflkdaaGreatDoor
/- Walks: layer 18's made; TargetBack. -/
namespace Go.Proofs.YteigjobliflkdaaGreatDoor
open Go.RowKit

/-- What the loop of made has at its k-th round's head. -/
def UpAt18 (k : Nat) (p q : ByteArray) (w0 wr : World) : Prop := PathUpS (min k 15) p.data.toList ∧ QryUp k q.data.toList ∧ Below w0.heap.size w0 wr
def RetMade18 (w : World) (e : Ending) (w' : World) : Prop := ∃ p q : ByteArray, In18 p.data.toList q.data.toList ∧ e = .returned (.tuple #[.string p, .string q]) ∧ Below w.heap.size w w'
theorem UpAt18.row {k : Nat} {p q : ByteArray} {w0 wr : World} (h : UpAt18 k p q w0 wr) (o : Obj) (hk : 15 ≤ k) : UpAt18 (k + 1) p q w0 (wr.alloc o) :=
  ⟨by rw [show min (k + 1) 15 = min k 15 by omega]; exact h.1, h.2.1.keep, h.2.2.alloc h.2.2.size o⟩
theorem UpAt18.path {k : Nat} {p q x : ByteArray} {w0 wr : World} (h : UpAt18 k p q w0 wr) (o : Obj) (hk : k < 15) (hx : goodSeg x.data.toList = true ∧ x.data.toList.length ≤ 3 ∧ safeB x.data.toList = true) : UpAt18 (k + 1) (p ++ ⟨#[47]⟩ ++ x) q w0 (wr.alloc o) := by
  refine ⟨?_, h.2.1.keep, h.2.2.alloc h.2.2.size o⟩
  have := h.1.snoc hx
  rw [bs_cat3, show min (k + 1) 15 = min k 15 + 1 by omega]; exact this
theorem UpAt18.qry {k : Nat} {p p' q y : ByteArray} {w0 wr wx : World} (h : UpAt18 (k + 1) p' q w0 wx) (h0 : UpAt18 k p q w0 wr) (o : Obj) (hy : qryB y.data.toList = true ∧ y.data.toList.length ≤ 3) : UpAt18 (k + 1) p' (q ++ y) w0 (wx.alloc o) := by
  refine ⟨h.1, ?_, h.2.2.alloc h.2.2.size o⟩
  rw [bs_cat2]; exact h0.2.1.snoc hy
theorem UpAt18.shut {k : Nat} {p q : ByteArray} {w0 wr : World} (h : UpAt18 k p q w0 wr) (hk : k ≤ 20) : In18 (p ++ ⟨#[47]⟩ : ByteArray).data.toList q.data.toList := by
  rw [bs_cat2]
  exact ⟨h.1.up.shut (by omega), safeB_snoc h.1.safe, h.2.1.1, by have := h.2.1.2; omega⟩
theorem UpAt18.whole {k : Nat} {p q : ByteArray} {w0 wr : World} (h : UpAt18 k p q w0 wr) (hk : k ≤ 20) (hp : p.data.toList ≠ []) : In18 p.data.toList q.data.toList :=
  ⟨h.1.up.whole (by omega) hp, h.1.safe, h.2.1.1, by have := h.2.1.2; omega⟩

set_option maxRecDepth 100000 in
set_option maxHeartbeats 8000000 in
theorem made18_any {v : Value} {zs : List Int} (w : World) (h : NumsAt w v zs) : Calls Tryz.prog 43 #[v] w (RetMade18 w) := by
  have HN := Lib.hid h
  obtain ⟨ao, cap, rfl, hl, _⟩ := h
  go_enter Tryz.func43, Tryz.ntmps43
  go_wp2_with fail
  go_loopg [4, 5, 6] 21 (fun gh vp vq vi wr => ∃ (k : Nat) (p q : ByteArray), k ≤ 20 ∧ gh = 21 - k ∧ vi = .int .i64 k ∧ vp = .string p ∧ vq = .string q ∧ Hid (UpAt18 k p q w wr))
  case atStart => exact ⟨0, ⟨#[]⟩, ⟨#[]⟩, by omega, rfl, rfl, rfl, rfl, PathUpS.nil, QryUp.nil, Below.refl _ _⟩
  case round =>
    obtain ⟨k, p, q, hk, hgk, rfl, rfl, rfl, HU⟩ := hrel
    have hps : p.size ≤ 60 := by have := HU.out.1.up.len; rw [size_len] at this; omega
    have hqs : q.size ≤ 60 := by have := HU.out.2.1.2; rw [size_len] at this; omega
    by_cases hlt : k < zs.length ∧ k < 20
    · obtain ⟨h1, h2⟩ := hlt
      have d1 : decide ((k : Int) < (zs.length : Int)) = true := by simp; omega
      have d2 : decide ((k : Int) < 20) = true := by simp; omega
      obtain ⟨_, _, hv, _, hc⟩ := HN.out.below HU.out.2.2
      cases hv
      obtain ⟨b, off, rfl, hcell⟩ := hc k h1
      clear hc
      have b3 : (0 : Int) ≤ k := by omega
      have b4 : (k : Int) < zs.length := by omega
      generalize zs[k]?.getD 0 = z at hcell
      go_wp2_with fail
      refine (mod20_any _ _).mono ?_
      rintro e w1 ⟨m, hm, rfl, rfl⟩
      obtain ⟨a, ha'⟩ : ∃ a, m % 8 = a := ⟨_, rfl⟩
      obtain ⟨c, hc'⟩ : ∃ c, m / 8 = c := ⟨_, rfl⟩
      obtain ⟨d, hd'⟩ : ∃ d, c % 3 = d := ⟨_, rfl⟩
      obtain ⟨u, hu'⟩ : ∃ u, m / 24 = u := ⟨_, rfl⟩
      obtain ⟨f, hf'⟩ : ∃ f, u % 5 = f := ⟨_, rfl⟩
      have ha : a < 8 := by omega
      have hf : f < 5 := by omega
      have e1 : (m : Int).tmod 8 = (a : Int) := by rw [Int.tmod_eq_emod_of_nonneg (by omega)]; omega
      have e2 : (m : Int) % 8 = (a : Int) := by omega
      have e3 : (m : Int).tdiv 8 = (c : Int) := by rw [Int.tdiv_eq_ediv_of_nonneg (by omega)]; omega
      have e4 : (m : Int) / 8 = (c : Int) := by omega
      have e5 : (c : Int).tmod 3 = (d : Int) := by rw [Int.tmod_eq_emod_of_nonneg (by omega)]; omega
      have e6 : (c : Int) % 3 = (d : Int) := by omega
      have e7 : (m : Int).tdiv 24 = (u : Int) := by rw [Int.tdiv_eq_ediv_of_nonneg (by omega)]; omega
      have e8 : (m : Int) / 24 = (u : Int) := by omega
      have e9 : (u : Int).tmod 5 = (f : Int) := by rw [Int.tmod_eq_emod_of_nonneg (by omega)]; omega
      have e10 : (u : Int) % 5 = (f : Int) := by omega
      have g1 : (a : Int) < 8 := by omega
      have g2 : (0 : Int) ≤ a := by omega
      have g3 : (f : Int) < 5 := by omega
      have g4 : (0 : Int) ≤ f := by omega
      have wr1 : IntKind.i64.wrap (c : Int) = (c : Int) := IntWalk.i64_in _ (by omega)
      have wr2 : IntKind.i64.wrap (u : Int) = (u : Int) := IntWalk.i64_in _ (by omega)
      have HS := seg18 a ha
      have HQ := qry18 f hf
      have hT := texts_at (L := segT18) (w := wr) (C := #[.string ⟨#[97]⟩, .string ⟨#[98, 32, 99]⟩, .string ⟨#[37]⟩, .string ⟨#[120, 63]⟩, .string ⟨#[46, 46, 97]⟩, .string ⟨#[255]⟩, .string ⟨#[35]⟩, .string ⟨#[97, 46, 98]⟩]) rfl a ha
      obtain ⟨x, hx0⟩ : ∃ x : ByteArray, (⟨(segT18[a]?.getD []).toArray⟩ : ByteArray) = x := ⟨_, rfl⟩
      rw [hx0] at hT
      have hxl : x.data.toList = segT18[a]?.getD [] := by rw [← hx0]
      rw [← hxl] at HS
      have hxs : x.size ≤ 3 := by rw [← size_len]; exact HS.2.1
      have hT2 := texts_at (L := qryT18) (w := wr.alloc (.cells #[.string ⟨#[97]⟩, .string ⟨#[98, 32, 99]⟩, .string ⟨#[37]⟩, .string ⟨#[120, 63]⟩, .string ⟨#[46, 46, 97]⟩, .string ⟨#[255]⟩, .string ⟨#[35]⟩, .string ⟨#[97, 46, 98]⟩] 9)) (C := #[.string ⟨#[97, 61, 49]⟩, .string ⟨#[38]⟩, .string ⟨#[63]⟩, .string ⟨#[37, 50, 48]⟩, .string ⟨#[37]⟩]) rfl f hf
      obtain ⟨y, hy0⟩ : ∃ y : ByteArray, (⟨(qryT18[f]?.getD []).toArray⟩ : ByteArray) = y := ⟨_, rfl⟩
      rw [hy0] at hT2
      have hyl : y.data.toList = qryT18[f]?.getD [] := by rw [← hy0]
      rw [← hyl] at HQ
      have hys : y.size ≤ 3 := by rw [← size_len]; exact HQ.2
      rw [show (wr.alloc (.cells #[.string ⟨#[97]⟩, .string ⟨#[98, 32, 99]⟩, .string ⟨#[37]⟩, .string ⟨#[120, 63]⟩, .string ⟨#[46, 46, 97]⟩, .string ⟨#[255]⟩, .string ⟨#[35]⟩, .string ⟨#[97, 46, 98]⟩] 9)).heap.size = wr.heap.size + 1 by simp] at hT2
      by_cases hk15 : k < 15
      · have d5 : decide ((k : Int) < 15) = true := by simp; omega
        have hH0 := HU.out.path (.cells #[.string ⟨#[97]⟩, .string ⟨#[98, 32, 99]⟩, .string ⟨#[37]⟩, .string ⟨#[120, 63]⟩, .string ⟨#[46, 46, 97]⟩, .string ⟨#[255]⟩, .string ⟨#[35]⟩, .string ⟨#[97, 46, 98]⟩] 9) hk15 HS
        have H0 := Lib.hid hH0
        have H1 := Lib.hid (hH0.qry HU.out (.cells #[.string ⟨#[97, 61, 49]⟩, .string ⟨#[38]⟩, .string ⟨#[63]⟩, .string ⟨#[37, 50, 48]⟩, .string ⟨#[37]⟩] 9) HQ)
        clear ha' hc' hd' hu' hf' hx0 hxl hy0 hyl HS HQ hH0
        by_cases hd : d = 0
        · subst hd
          go_wp2_with fail
          go_roundg (20 - k)
          case measure => omega
          case rel => exact ⟨k + 1, _, _, by omega, by omega, by go_num, rfl, rfl, H1⟩
        · have d3 : ((d : Int) == 0) = false := by simp; omega
          clear hT2
          go_wp2_with fail
          go_roundg (20 - k)
          case measure => omega
          case rel => exact ⟨k + 1, _, _, by omega, by omega, by go_num, rfl, rfl, H0⟩
      · have d5 : decide ((k : Int) < 15) = false := by simp; omega
        have hH0 := HU.out.row (.cells #[.string ⟨#[97]⟩, .string ⟨#[98, 32, 99]⟩, .string ⟨#[37]⟩, .string ⟨#[120, 63]⟩, .string ⟨#[46, 46, 97]⟩, .string ⟨#[255]⟩, .string ⟨#[35]⟩, .string ⟨#[97, 46, 98]⟩] 9) (by omega)
        have H0 := Lib.hid hH0
        have H1 := Lib.hid (hH0.qry HU.out (.cells #[.string ⟨#[97, 61, 49]⟩, .string ⟨#[38]⟩, .string ⟨#[63]⟩, .string ⟨#[37, 50, 48]⟩, .string ⟨#[37]⟩] 9) HQ)
        clear ha' hc' hd' hu' hf' hx0 hxl hy0 hyl HS HQ hH0 hT
        by_cases hd : d = 0
        · subst hd
          go_wp2_with fail
          go_roundg (20 - k)
          case measure => omega
          case rel => exact ⟨k + 1, _, _, by omega, by omega, by go_num, rfl, rfl, H1⟩
        · have d3 : ((d : Int) == 0) = false := by simp; omega
          clear hT2
          go_wp2_with fail
          go_roundg (20 - k)
          case measure => omega
          case rel => exact ⟨k + 1, _, _, by omega, by omega, by go_num, rfl, rfl, H0⟩
    · have HBB := Lib.hid HU.out.2.2
      have hr2 : zs.length % 2 = 0 ∨ zs.length % 2 = 1 := by omega
      have hex : ¬ k < zs.length ∨ (k < zs.length ∧ ¬ k < 20) := by omega
      by_cases hp0 : p.size = 0
      · have x0 := bs_nil hp0
        have HF := Lib.hid (HU.out.shut hk)
        clear hp0 hlt hr2
        rcases hex with hx1 | ⟨hx1, hx2⟩
        · have d1 : decide ((k : Int) < (zs.length : Int)) = false := by simp; omega
          go_wp2_with fail
          go_ret2
          exact ⟨_, _, HF.out, rfl, HBB.out⟩
        · have d1 : decide ((k : Int) < (zs.length : Int)) = true := by simp; omega
          have d2 : decide ((k : Int) < 20) = false := by simp; omega
          go_wp2_with fail
          go_ret2
          exact ⟨_, _, HF.out, rfl, HBB.out⟩
      · have x0 := bs_ne (s := p) (by omega)
        have hpne : p.data.toList ≠ [] := fun e => hp0 (by rw [← size_len, e]; rfl)
        rcases hr2 with hr2 | hr2
        · have e1 : (zs.length : Int).tmod 2 = 0 := by rw [Int.tmod_eq_emod_of_nonneg (by omega)]; omega
          have e2 : (zs.length : Int) % 2 = 0 := by omega
          have HF := Lib.hid (HU.out.whole hk hpne)
          clear hp0 hlt hr2 hpne
          rcases hex with hx1 | ⟨hx1, hx2⟩
          · have d1 : decide ((k : Int) < (zs.length : Int)) = false := by simp; omega
            go_wp2_with fail
            go_ret2
            exact ⟨_, _, HF.out, rfl, HBB.out⟩
          · have d1 : decide ((k : Int) < (zs.length : Int)) = true := by simp; omega
            have d2 : decide ((k : Int) < 20) = false := by simp; omega
            go_wp2_with fail
            go_ret2
            exact ⟨_, _, HF.out, rfl, HBB.out⟩
        · have e1 : (zs.length : Int).tmod 2 = 1 := by rw [Int.tmod_eq_emod_of_nonneg (by omega)]; omega
          have e2 : (zs.length : Int) % 2 = 1 := by omega
          have HF := Lib.hid (HU.out.shut hk)
          clear hp0 hlt hr2 hpne
          rcases hex with hx1 | ⟨hx1, hx2⟩
          · have d1 : decide ((k : Int) < (zs.length : Int)) = false := by simp; omega
            go_wp2_with fail
            go_ret2
            exact ⟨_, _, HF.out, rfl, HBB.out⟩
          · have d1 : decide ((k : Int) < (zs.length : Int)) = true := by simp; omega
            have d2 : decide ((k : Int) < 20) = false := by simp; omega
            go_wp2_with fail
            go_ret2
            exact ⟨_, _, HF.out, rfl, HBB.out⟩

theorem In18.sizes {p q : ByteArray} (hi : In18 p.data.toList q.data.toList) : p.size ≤ 64 ∧ q.size ≤ 64 := by
  rw [← size_len, ← size_len]; exact ⟨hi.1.2.2, hi.2.2.2⟩
set_option maxRecDepth 100000 in
set_option maxHeartbeats 8000000 in
theorem targetBack_t {v : Value} {zs : List Int} (w : World) (hG : Good w) (hN : NumsAt w v zs) : Calls Tryz.prog 7 #[v] w (RetV (.bool true) w) := by
  have HN := Lib.hid hN
  clear hN
  go_enter Tryz.func7, Tryz.ntmps7
  go_wp2_with fail
  refine (targetKnown_t _ hG).mono ?_
  rintro e w1 ⟨rfl, HBc⟩
  replace hG := hG.next HBc
  go_wp2_with fail
  refine (made18_any _ (HN.out.below HBc)).mono ?_
  rintro e w2 ⟨p, q, HI, rfl, HB⟩
  replace HBc := below2 HBc HB
  replace hG := hG.next HB
  clear HB
  obtain ⟨hp, hq⟩ := HI.sizes
  obtain ⟨t, ht⟩ : ∃ t : ByteArray, locText p.data.toList q.data.toList = t.data.toList := ⟨⟨(locText p.data.toList q.data.toList).toArray⟩, rfl⟩
  have hts : t.size ≤ 50000 := by rw [← size_len, ← ht]; have := locText_le p.data.toList q.data.toList; simp only [size_len] at this; omega
  have h1 := HI.text
  have h2 := HI.canon
  have h3 := HI.read
  rw [ht] at h1 h2 h3
  have C1 := Lib.hid (textT_B h1 (by omega) (by omega))
  have C2 := Lib.hid (canonT_B h2 hts)
  have C3 := Lib.hid (parses18_t h3 hts)
  clear HI ht h1 h2 h3
  go_wp2_with fail
  refine (C1.out _ hG).mono ?_
  rintro e w1 ⟨rfl, HB⟩
  replace HBc := below2 HBc HB
  replace hG := hG.next HB
  clear HB
  go_wp2_with fail
  refine (C2.out _ hG).mono ?_
  rintro e w1 ⟨rfl, HB⟩
  replace HBc := below2 HBc HB
  replace hG := hG.next HB
  clear HB
  go_wp2_with fail
  refine (C3.out _ hG).mono ?_
  rintro e w1 ⟨rfl, HB⟩
  replace HBc := below2 HBc HB
  go_wp2_with fail
  go_ret
  exact RetV.mk rfl HBc
end Go.Proofs.YteigjobliflkdaaGreatDoor
