/- Texts of this claim, joined in build order: T2, R18c, T3. -/
import Derived.Test.YteigjobliflkdaaGreatDoorZ14
import Derived.Test.YteigjobliflkdaaGreatDoorZ15
import Derived.Test.YteigjobliflkdaaGreatDoorZ12
import Derived.BigQuiet
/- Walks: target's fails, read. -/
namespace Go.Proofs.YteigjobliflkdaaGreatDoor
open Go.RowKit

/-- A reading in a variable. -/
def TgtAt (w : World) (g : Nat) (p q : ByteArray) (e s : Int) : Prop := w.heap[g]? = some (.cells #[.string p, .string q, .int .i64 e, .int .i64 s] 99 (0, 0))
theorem TgtAt.four {w : World} {g : Nat} {p q : ByteArray} {e s : Int} (h : TgtAt w g p q e s) : w.cell? ⟨g, 0, none⟩ = some (.string p) ∧ w.cell? ⟨g, 1, none⟩ = some (.string q) ∧ w.cell? ⟨g, 2, none⟩ = some (.int .i64 e) ∧ w.cell? ⟨g, 3, none⟩ = some (.int .i64 s) ∧ w.frozen? ⟨g, 0, none⟩ = false ∧ w.frozen? ⟨g, 1, none⟩ = false ∧ w.frozen? ⟨g, 2, none⟩ = false ∧ w.frozen? ⟨g, 3, none⟩ = false := by
  have h' : w.heap[g]? = _ := h
  refine ⟨?_, ?_, ?_, ?_, ?_, ?_, ?_, ?_⟩
  all_goals first
    | (rw [cell_of_row w g _ _ 99 _ h]; rfl)
    | (unfold World.frozen?; simp only [h']; simp)
theorem TgtAt.below {w w' : World} {g : Nat} {p q : ByteArray} {e s : Int} (h : TgtAt w g p q e s) (hB : Below w.heap.size w w') : TgtAt w' g p q e s := (hB.block g (Array.getElem?_eq_some_iff.1 h).1).trans h
theorem TgtAt.alloc {w : World} {g : Nat} {p q : ByteArray} {e s : Int} (h : TgtAt w g p q e s) (o : Obj) : TgtAt (w.alloc o) g p q e s := h.below ((Below.refl _ _).alloc (Nat.le_refl _) o)
theorem TgtAt.put {w : World} {g : Nat} {p q : ByteArray} {e s : Int} (h : TgtAt w g p q e s) (p' q' : ByteArray) (e' s' : Int) : TgtAt ((((w.setCell ⟨g, 0, none⟩ (.string p')).setCell ⟨g, 1, none⟩ (.string q')).setCell ⟨g, 2, none⟩ (.int .i64 e')).setCell ⟨g, 3, none⟩ (.int .i64 s')) g p' q' e' s' := by
  have h0 := Lib.heap_setCell_same (i := 0) h (.string p')
  have h1 := Lib.heap_setCell_same (i := 1) h0 (.string q')
  have h2 := Lib.heap_setCell_same (i := 2) h1 (.int .i64 e')
  have h3 := Lib.heap_setCell_same (i := 3) h2 (.int .i64 s')
  exact h3
theorem tgt_results {fn : Func} {t : Tmp} (h : fn.results = #[.cell t 99]) {tmps : Array Value} {w : World} {g : Nat} {p q : ByteArray} {e s : Int} (hp : tmps.getD t undef = .pointer (some ⟨g, 0, none⟩)) (hs : TgtAt w g p q e s) :
    (results fn tmps).run Tryz.prog w = .ok (.agg #[.string p, .string q, .int .i64 e, .int .i64 s]) w :=
  results_cell_row h tmps w g 99 _ (0, 0) _ hp hs Tryz.underlying99 rfl (by kernel_rfl)
theorem below4 {B : Nat} {w w' : World} (h : Below B w w') (v0 v1 v2 v3 : Value) : Below B w ((((w'.setCell ⟨B, 0, none⟩ v0).setCell ⟨B, 1, none⟩ v1).setCell ⟨B, 2, none⟩ v2).setCell ⟨B, 3, none⟩ v3) :=
  ((((h.setCell (p := ⟨B, 0, none⟩) (Nat.le_refl _) _).setCell (p := ⟨B, 1, none⟩) (Nat.le_refl _) _).setCell (p := ⟨B, 2, none⟩) (Nat.le_refl _) _).setCell (p := ⟨B, 3, none⟩) (Nat.le_refl _) _)
/-- What reading hands back, as one value. -/
def aRead (r : Except (Int × Int) (List UInt8 × List UInt8)) : Value := match r with
  | .error e => .agg #[.string ⟨#[]⟩, .string ⟨#[]⟩, .int .i64 e.1, .int .i64 e.2]
  | .ok x => .agg #[S x.1, S x.2, .int .i64 0, .int .i64 200]

set_option maxRecDepth 100000 in
set_option maxHeartbeats 2000000 in
theorem fails_any (e s : Int) (w : World) : Calls Tryz.prog 145 #[.int .i64 e, .int .i64 s] w (RetV (.agg #[.string ⟨#[]⟩, .string ⟨#[]⟩, .int .i64 e, .int .i64 s]) w) := by
  go_enter Tryz.func145, Tryz.ntmps145
  go_wp2_with fail
  exact bodyPost_ret (tgt_results Tryz.results145 rfl (show TgtAt (w.alloc (.cells #[.string ⟨#[]⟩, .string ⟨#[]⟩, .int .i64 e, .int .i64 s] 99)) w.heap.size ⟨#[]⟩ ⟨#[]⟩ e s from heap_alloc_new _ _)) rfl (RetV.mk rfl ((Below.refl _ _).alloc (Nat.le_refl _) _))

theorem splitT_E {s : ByteArray} {e : Int} (h : tgtSplit s.data.toList = .error e) (hs : s.size ≤ 60000) (w : World) (hG : Good w) :
    Calls Tryz.prog 49 #[.string s] w fun e' w' => e' = .returned (.tuple #[.string ⟨#[]⟩, .string ⟨#[]⟩, .int .i64 e]) ∧ Below w.heap.size w w' := by
  have := splitT_any s w hG hs; rw [h] at this; exact this
theorem splitT_S {s a b : ByteArray} (h : tgtSplit s.data.toList = .ok (a.data.toList, b.data.toList)) (hs : s.size ≤ 60000) (w : World) (hG : Good w) :
    Calls Tryz.prog 49 #[.string s] w fun e' w' => e' = .returned (.tuple #[.string a, .string b, .int .i64 0]) ∧ Below w.heap.size w w' := by
  have := splitT_any s w hG hs; rw [h] at this
  have this : Calls Tryz.prog 49 #[.string s] w fun e' w' => e' = .returned (.tuple #[.string ⟨a.data.toList.toArray⟩, .string ⟨b.data.toList.toArray⟩, .int .i64 0]) ∧ Below w.heap.size w w' := this
  rwa [bs_mk, bs_mk] at this
theorem holds_B {s : ByteArray} {b : Bool} (h : safeB s.data.toList = b) {w : World} {g cap : Nat} {T : TypeId} {fr : Nat × Nat} (hg : w.heap[g]? = some (.cells #[.int .u8 0, .int .u8 10, .int .u8 13] T fr)) :
    Calls Tryz.prog 146 #[.string s, .slice (some ⟨g, 0, none⟩) 3 cap] w fun e w' => e = .returned (.bool (!b)) ∧ w = w' := by
  have := holds_any s w (cap := cap) hg; rwa [h] at this
theorem cleanP_E {s : ByteArray} {x : Int} (h : dClean s.data.toList = .error x) (hs : s.size ≤ 50000) (w : World) (hG : Good w) :
    Calls Tryz.prog 147 #[.string s] w fun e w' => e = .returned (.tuple #[.string ⟨#[]⟩, .int .i64 x]) ∧ Below w.heap.size w w' := by
  have := cleanP_any s w hG hs; rw [h] at this; exact this
theorem cleanP_S {s p : ByteArray} (h : dClean s.data.toList = .ok p.data.toList) (hs : s.size ≤ 50000) (w : World) (hG : Good w) :
    Calls Tryz.prog 147 #[.string s] w fun e w' => e = .returned (.tuple #[.string p, .int .i64 0]) ∧ Below w.heap.size w w' := by
  have := cleanP_any s w hG hs; rw [h] at this
  have this : Calls Tryz.prog 147 #[.string s] w fun e w' => e = .returned (.tuple #[.string ⟨p.data.toList.toArray⟩, .int .i64 0]) ∧ Below w.heap.size w w' := this
  rwa [bs_mk] at this

set_option maxRecDepth 100000 in
set_option maxHeartbeats 16000000 in
theorem readT_any (s : ByteArray) (L : Int) (w : World) (hG : Good w) (hs : s.size ≤ 50000) : Calls Tryz.prog 103 #[.string s, .int .i64 L] w (RetV (aRead (tgtRead s.data.toList L)) w) := by
  have hs6 : s.size ≤ 60000 := by omega
  have hz0 : TgtAt (w.alloc (.cells #[.string ⟨#[]⟩, .string ⟨#[]⟩, .int .i64 0, .int .i64 0] 99)) w.heap.size ⟨#[]⟩ ⟨#[]⟩ 0 0 := heap_alloc_new _ _
  have HZ0 := Lib.hid hz0
  have hB0 : Below w.heap.size w (w.alloc (.cells #[.string ⟨#[]⟩, .string ⟨#[]⟩, .int .i64 0, .int .i64 0] 99)) := (Below.refl _ _).alloc (Nat.le_refl _) _
  have HB0 := Lib.hid hB0
  have HG := Lib.hid hG
  clear hz0 hB0
  by_cases hr : L < 1 ∨ 128 < L
  · have HF := Lib.hid (tgtRead_range (l := s.data.toList) hr)
    by_cases h1 : L < 1
    · have d1 : decide (L < 1) = true := by simpa using h1
      clear hr h1
      go_enter Tryz.func103, Tryz.ntmps103
      go_wp2_with fail
      refine (fails_any _ _ _).mono ?_
      rintro e' wf ⟨rfl, HBf⟩
      have HZf := Lib.hid (TgtAt.below HZ0.out HBf)
      obtain ⟨c0, c1, c2, c3, y0, y1, y2, y3⟩ := HZf.out.four
      have HBF := Lib.hid (below2 HB0.out HBf)
      clear HBf
      go_wp2_with fail
      exact bodyPost_ret (tgt_results Tryz.results103 rfl (HZf.out.put _ _ _ _)) rfl (RetV.mk (by rw [HF.out]; rfl) (below4 HBF.out _ _ _ _))
    · have d1 : decide (L < 1) = false := by simpa using h1
      have d2 : decide (128 < L) = true := by simp; omega
      clear hr h1
      go_enter Tryz.func103, Tryz.ntmps103
      go_wp2_with fail
      refine (fails_any _ _ _).mono ?_
      rintro e' wf ⟨rfl, HBf⟩
      have HZf := Lib.hid (TgtAt.below HZ0.out HBf)
      obtain ⟨c0, c1, c2, c3, y0, y1, y2, y3⟩ := HZf.out.four
      have HBF := Lib.hid (below2 HB0.out HBf)
      clear HBf
      go_wp2_with fail
      exact bodyPost_ret (tgt_results Tryz.results103 rfl (HZf.out.put _ _ _ _)) rfl (RetV.mk (by rw [HF.out]; rfl) (below4 HBF.out _ _ _ _))
  have d1 : decide (L < 1) = false := by simp; omega
  have d2 : decide (128 < L) = false := by simp; omega
  have HR := Lib.hid hr
  clear hr
  cases hsp : tgtSplit s.data.toList with
  | error e =>
    have HF := Lib.hid (tgtRead_split HR.out hsp)
    have SP := Lib.hid (splitT_E hsp hs6)
    have he := tgtSplit_err hsp
    clear hsp
    rcases he with rfl | rfl
    all_goals
      go_enter Tryz.func103, Tryz.ntmps103
      go_wp2_with fail
      refine (SP.out _ (HG.out.next HB0.out)).mono ?_
      rintro e' w1 ⟨rfl, HB1⟩
      have HZ1 := Lib.hid (HZ0.out.below HB1)
      have HBw1 := Lib.hid (below2 HB0.out HB1)
      clear HB1
      go_wp2_with fail
      refine (fails_any _ _ _).mono ?_
      rintro e' wf ⟨rfl, HBf⟩
      have HZf := Lib.hid (TgtAt.below HZ1.out HBf)
      obtain ⟨c0, c1, c2, c3, y0, y1, y2, y3⟩ := HZf.out.four
      have HBF := Lib.hid (below2 HBw1.out HBf)
      clear HBf
      go_wp2_with fail
      exact bodyPost_ret (tgt_results Tryz.results103 rfl (HZf.out.put _ _ _ _)) rfl (RetV.mk (by rw [HF.out]; rfl) (below4 HBF.out _ _ _ _))
  | ok x =>
    obtain ⟨x1, x2⟩ := x
    obtain ⟨a, rfl⟩ : ∃ a : ByteArray, x1 = a.data.toList := ⟨⟨x1.toArray⟩, rfl⟩
    obtain ⟨b, rfl⟩ : ∃ b : ByteArray, x2 = b.data.toList := ⟨⟨x2.toArray⟩, rfl⟩
    have SP := Lib.hid (splitT_S hsp hs6)
    obtain ⟨-, k2, -, k4, k5, k6⟩ := tgtSplit_ok hsp
    have has : a.size ≤ 50000 := by rw [size_len] at k5; simp only [size_len] at k5; omega
    have hah : a.data.toList.head? = some 47 := by
      have := cut1_head k2
      injection k4 with k4 _
      rwa [← k4] at this
    have HSP := Lib.hid hsp
    clear hsp k2 k4 k5 k6
    cases hd : pctDec a.data.toList with
    | none =>
      have HF := Lib.hid (tgtRead_none HR.out HSP.out hd)
      have DE := Lib.hid (decode_N hd (show a.size ≤ 60000 by omega))
      clear hd hah
      go_enter Tryz.func103, Tryz.ntmps103
      go_wp2_with fail
      refine (SP.out _ (HG.out.next HB0.out)).mono ?_
      rintro e' w1 ⟨rfl, HB1⟩
      have HZ1 := Lib.hid (HZ0.out.below HB1)
      have HBw1 := Lib.hid (below2 HB0.out HB1)
      clear HB1
      go_wp2_with fail
      refine (DE.out _).mono ?_
      rintro e' w2 ⟨at', rfl, HB2⟩
      have HZ2 := Lib.hid ((HZ1.out.below HB2).alloc (.cells #[.int .i64 3, .int .i64 at'] 111))
      have HBw2 := Lib.hid ((below2 HBw1.out HB2).alloc (below2 HBw1.out HB2).size (.cells #[.int .i64 3, .int .i64 at'] 111))
      clear HB2
      go_wp2_with fail
      refine (fails_any _ _ _).mono ?_
      rintro e' wf ⟨rfl, HBf⟩
      have HZf := Lib.hid (TgtAt.below HZ2.out HBf)
      obtain ⟨c0, c1, c2, c3, y0, y1, y2, y3⟩ := HZf.out.four
      have HBF := Lib.hid (below2 HBw2.out HBf)
      clear HBf
      go_wp2_with fail
      exact bodyPost_ret (tgt_results Tryz.results103 rfl (HZf.out.put _ _ _ _)) rfl (RetV.mk (by rw [HF.out]; rfl) (below4 HBF.out _ _ _ _))
    | some d0 =>
      obtain ⟨d, rfl⟩ : ∃ d : ByteArray, d0 = d.data.toList := ⟨⟨d0.toArray⟩, rfl⟩
      have DE := Lib.hid (decode_S hd (show a.size ≤ 60000 by omega))
      have hds : d.size ≤ 50000 := by have := pctDec_le hd; simp only [size_len] at this; omega
      have hdh := pctDec_head hah hd
      have HD := Lib.hid hd
      clear hd hah
      cases hb : safeB d.data.toList with
      | false =>
        have HF := Lib.hid (tgtRead_bytes HR.out HSP.out HD.out hb)
        have HBS := Lib.hid hb
        clear hb hdh
        go_enter Tryz.func103, Tryz.ntmps103
        go_wp2_with fail
        refine (SP.out _ (HG.out.next HB0.out)).mono ?_
        rintro e' w1 ⟨rfl, HB1⟩
        have HZ1 := Lib.hid (HZ0.out.below HB1)
        have HBw1 := Lib.hid (below2 HB0.out HB1)
        clear HB1
        go_wp2_with fail
        refine (DE.out _).mono ?_
        rintro e' w2 ⟨rfl, HB2⟩
        have HZ2 := Lib.hid ((HZ1.out.below HB2).alloc (.cells #[.int .i64 0, .int .i64 0] 111))
        have HBw2 := Lib.hid ((below2 HBw1.out HB2).alloc (below2 HBw1.out HB2).size (.cells #[.int .i64 0, .int .i64 0] 111))
        clear HB2
        go_wp2_with fail
        refine (holds_B HBS.out (by exact heap_alloc2_new _ _ _)).mono ?_
        rintro e' w3 ⟨rfl, rfl⟩
        have HZ3 := Lib.hid (HZ2.out.alloc (.cells #[.int .u8 0, .int .u8 10, .int .u8 13] 5))
        have HBw3 := Lib.hid (HBw2.out.alloc HBw2.out.size (.cells #[.int .u8 0, .int .u8 10, .int .u8 13] 5))
        go_wp2_with fail
        refine (fails_any _ _ _).mono ?_
        rintro e' wf ⟨rfl, HBf⟩
        have HZf := Lib.hid (TgtAt.below HZ3.out HBf)
        obtain ⟨c0, c1, c2, c3, y0, y1, y2, y3⟩ := HZf.out.four
        have HBF := Lib.hid (below2 HBw3.out HBf)
        clear HBf
        go_wp2_with fail
        exact bodyPost_ret (tgt_results Tryz.results103 rfl (HZf.out.put _ _ _ _)) rfl (RetV.mk (by rw [HF.out]; rfl) (below4 HBF.out _ _ _ _))
      | true =>
        have HBS := Lib.hid hb
        clear hb
        rcases dClean_head hdh with hc | ⟨p0, hc, hpl⟩
        · have HF := Lib.hid (tgtRead_dots HR.out HSP.out HD.out HBS.out hc)
          have CL := Lib.hid (cleanP_E hc hds)
          clear hc hdh
          go_enter Tryz.func103, Tryz.ntmps103
          go_wp2_with fail
          refine (SP.out _ (HG.out.next HB0.out)).mono ?_
          rintro e' w1 ⟨rfl, HB1⟩
          have HZ1 := Lib.hid (HZ0.out.below HB1)
          have HBw1 := Lib.hid (below2 HB0.out HB1)
          clear HB1
          go_wp2_with fail
          refine (DE.out _).mono ?_
          rintro e' w2 ⟨rfl, HB2⟩
          have HZ2 := Lib.hid ((HZ1.out.below HB2).alloc (.cells #[.int .i64 0, .int .i64 0] 111))
          have HBw2 := Lib.hid ((below2 HBw1.out HB2).alloc (below2 HBw1.out HB2).size (.cells #[.int .i64 0, .int .i64 0] 111))
          clear HB2
          go_wp2_with fail
          refine (holds_B HBS.out (by exact heap_alloc2_new _ _ _)).mono ?_
          rintro e' w3 ⟨rfl, rfl⟩
          have HZ3 := Lib.hid (HZ2.out.alloc (.cells #[.int .u8 0, .int .u8 10, .int .u8 13] 5))
          have HBw3 := Lib.hid (HBw2.out.alloc HBw2.out.size (.cells #[.int .u8 0, .int .u8 10, .int .u8 13] 5))
          go_wp2_with fail
          refine (CL.out _ (HG.out.next HBw3.out)).mono ?_
          rintro e' w4 ⟨rfl, HB4⟩
          have HZ4 := Lib.hid (HZ3.out.below HB4)
          have HBw4 := Lib.hid (below2 HBw3.out HB4)
          clear HB4
          go_wp2_with fail
          refine (fails_any _ _ _).mono ?_
          rintro e' wf ⟨rfl, HBf⟩
          have HZf := Lib.hid (TgtAt.below HZ4.out HBf)
          obtain ⟨c0, c1, c2, c3, y0, y1, y2, y3⟩ := HZf.out.four
          have HBF := Lib.hid (below2 HBw4.out HBf)
          clear HBf
          go_wp2_with fail
          exact bodyPost_ret (tgt_results Tryz.results103 rfl (HZf.out.put _ _ _ _)) rfl (RetV.mk (by rw [HF.out]; rfl) (below4 HBF.out _ _ _ _))
        · obtain ⟨p, rfl⟩ : ∃ p : ByteArray, p0 = p.data.toList := ⟨⟨p0.toArray⟩, rfl⟩
          have CL := Lib.hid (cleanP_S hc hds)
          have HC := Lib.hid hc
          simp only [size_len] at hpl
          clear hc hdh
          by_cases hl1 : L < p.size
          · have HF := Lib.hid (tgtRead_long HR.out HSP.out HD.out HBS.out HC.out (.inl (by rw [size_len]; exact hl1)))
            have d3 : decide (L < (p.size : Int)) = true := by simpa using hl1
            clear hl1
            go_enter Tryz.func103, Tryz.ntmps103
            go_wp2_with fail
            refine (SP.out _ (HG.out.next HB0.out)).mono ?_
            rintro e' w1 ⟨rfl, HB1⟩
            have HZ1 := Lib.hid (HZ0.out.below HB1)
            have HBw1 := Lib.hid (below2 HB0.out HB1)
            clear HB1
            go_wp2_with fail
            refine (DE.out _).mono ?_
            rintro e' w2 ⟨rfl, HB2⟩
            have HZ2 := Lib.hid ((HZ1.out.below HB2).alloc (.cells #[.int .i64 0, .int .i64 0] 111))
            have HBw2 := Lib.hid ((below2 HBw1.out HB2).alloc (below2 HBw1.out HB2).size (.cells #[.int .i64 0, .int .i64 0] 111))
            clear HB2
            go_wp2_with fail
            refine (holds_B HBS.out (by exact heap_alloc2_new _ _ _)).mono ?_
            rintro e' w3 ⟨rfl, rfl⟩
            have HZ3 := Lib.hid (HZ2.out.alloc (.cells #[.int .u8 0, .int .u8 10, .int .u8 13] 5))
            have HBw3 := Lib.hid (HBw2.out.alloc HBw2.out.size (.cells #[.int .u8 0, .int .u8 10, .int .u8 13] 5))
            go_wp2_with fail
            refine (CL.out _ (HG.out.next HBw3.out)).mono ?_
            rintro e' w4 ⟨rfl, HB4⟩
            have HZ4 := Lib.hid (HZ3.out.below HB4)
            have HBw4 := Lib.hid (below2 HBw3.out HB4)
            clear HB4
            go_wp2_with fail
            refine (fails_any _ _ _).mono ?_
            rintro e' wf ⟨rfl, HBf⟩
            have HZf := Lib.hid (TgtAt.below HZ4.out HBf)
            obtain ⟨c0, c1, c2, c3, y0, y1, y2, y3⟩ := HZf.out.four
            have HBF := Lib.hid (below2 HBw4.out HBf)
            clear HBf
            go_wp2_with fail
            exact bodyPost_ret (tgt_results Tryz.results103 rfl (HZf.out.put _ _ _ _)) rfl (RetV.mk (by rw [HF.out]; rfl) (below4 HBF.out _ _ _ _))
          have d3 : decide (L < (p.size : Int)) = false := by simpa using hl1
          by_cases hl2 : 128 < b.size
          · have HF := Lib.hid (tgtRead_long HR.out HSP.out HD.out HBS.out HC.out (.inr (by simp only [size_len]; exact hl2)))
            have d4 : decide ((128 : Int) < (b.size : Int)) = true := by simp; omega
            have i4 : (128 : Int) < (b.size : Int) := by omega
            clear hl1 hl2
            go_enter Tryz.func103, Tryz.ntmps103
            go_wp2_with fail
            refine (SP.out _ (HG.out.next HB0.out)).mono ?_
            rintro e' w1 ⟨rfl, HB1⟩
            have HZ1 := Lib.hid (HZ0.out.below HB1)
            have HBw1 := Lib.hid (below2 HB0.out HB1)
            clear HB1
            go_wp2_with fail
            refine (DE.out _).mono ?_
            rintro e' w2 ⟨rfl, HB2⟩
            have HZ2 := Lib.hid ((HZ1.out.below HB2).alloc (.cells #[.int .i64 0, .int .i64 0] 111))
            have HBw2 := Lib.hid ((below2 HBw1.out HB2).alloc (below2 HBw1.out HB2).size (.cells #[.int .i64 0, .int .i64 0] 111))
            clear HB2
            go_wp2_with fail
            refine (holds_B HBS.out (by exact heap_alloc2_new _ _ _)).mono ?_
            rintro e' w3 ⟨rfl, rfl⟩
            have HZ3 := Lib.hid (HZ2.out.alloc (.cells #[.int .u8 0, .int .u8 10, .int .u8 13] 5))
            have HBw3 := Lib.hid (HBw2.out.alloc HBw2.out.size (.cells #[.int .u8 0, .int .u8 10, .int .u8 13] 5))
            go_wp2_with fail
            refine (CL.out _ (HG.out.next HBw3.out)).mono ?_
            rintro e' w4 ⟨rfl, HB4⟩
            have HZ4 := Lib.hid (HZ3.out.below HB4)
            have HBw4 := Lib.hid (below2 HBw3.out HB4)
            clear HB4
            go_wp2_with fail
            refine (fails_any _ _ _).mono ?_
            rintro e' wf ⟨rfl, HBf⟩
            have HZf := Lib.hid (TgtAt.below HZ4.out HBf)
            obtain ⟨c0, c1, c2, c3, y0, y1, y2, y3⟩ := HZf.out.four
            have HBF := Lib.hid (below2 HBw4.out HBf)
            clear HBf
            go_wp2_with fail
            exact bodyPost_ret (tgt_results Tryz.results103 rfl (HZf.out.put _ _ _ _)) rfl (RetV.mk (by rw [HF.out]; rfl) (below4 HBF.out _ _ _ _))
          · have HF := Lib.hid (tgtRead_ok HR.out HSP.out HD.out HBS.out HC.out (by simp only [size_len]; omega))
            have d4 : decide ((128 : Int) < (b.size : Int)) = false := by simp; omega
            have i4 : (b.size : Int) ≤ 128 := by omega
            clear hl1 hl2
            go_enter Tryz.func103, Tryz.ntmps103
            go_wp2_with fail
            refine (SP.out _ (HG.out.next HB0.out)).mono ?_
            rintro e' w1 ⟨rfl, HB1⟩
            have HZ1 := Lib.hid (HZ0.out.below HB1)
            have HBw1 := Lib.hid (below2 HB0.out HB1)
            clear HB1
            go_wp2_with fail
            refine (DE.out _).mono ?_
            rintro e' w2 ⟨rfl, HB2⟩
            have HZ2 := Lib.hid ((HZ1.out.below HB2).alloc (.cells #[.int .i64 0, .int .i64 0] 111))
            have HBw2 := Lib.hid ((below2 HBw1.out HB2).alloc (below2 HBw1.out HB2).size (.cells #[.int .i64 0, .int .i64 0] 111))
            clear HB2
            go_wp2_with fail
            refine (holds_B HBS.out (by exact heap_alloc2_new _ _ _)).mono ?_
            rintro e' w3 ⟨rfl, rfl⟩
            have HZ3 := Lib.hid (HZ2.out.alloc (.cells #[.int .u8 0, .int .u8 10, .int .u8 13] 5))
            have HBw3 := Lib.hid (HBw2.out.alloc HBw2.out.size (.cells #[.int .u8 0, .int .u8 10, .int .u8 13] 5))
            go_wp2_with fail
            refine (CL.out _ (HG.out.next HBw3.out)).mono ?_
            rintro e' w4 ⟨rfl, HB4⟩
            have HZ4 := Lib.hid (HZ3.out.below HB4)
            have HBw4 := Lib.hid (below2 HBw3.out HB4)
            clear HB4
            obtain ⟨c0, c1, c2, c3, y0, y1, y2, y3⟩ := HZ4.out.four
            go_wp2_with fail
            exact bodyPost_ret (tgt_results Tryz.results103 rfl (HZ4.out.put _ _ _ _)) rfl (RetV.mk (by rw [HF.out, aRead]; simp only [S, bs_mk]) (below4 HBw4.out _ _ _ _))
end Go.Proofs.YteigjobliflkdaaGreatDoor
/- Walks: waypostref18 (Text, Canonical, Same). -/
namespace Go.Proofs.YteigjobliflkdaaGreatDoor
open Go.RowKit

theorem dNormal_len {p : List UInt8} (h : dNormal p = true) : p.length ≤ 128 ∧ p.head? = some 47 := by
  unfold dNormal at h
  simp only [Bool.and_eq_true, decide_eq_true_eq, beq_iff_eq] at h
  exact ⟨h.1.1.2, h.1.2⟩
theorem placeErr_normal {p q : List UInt8} (h : dNormal p = true) : placeErr p q = if 128 < q.length then 4 else if qryB q = false then 3 else 0 := by
  have := (dNormal_len h).1
  unfold placeErr; rw [if_neg (by omega), if_neg (by rw [h]; decide)]

set_option maxRecDepth 100000 in
set_option maxHeartbeats 4000000 in
theorem text_ref (p q : ByteArray) (w : World) (hp : p.size ≤ 60000) (hq : q.size ≤ 60000) :
    Calls Tryz.prog 75 #[.string p, .string q] w (RetV (vStr (tgtText p.data.toList q.data.toList)) w) := by
  cases hn : dNormal p.data.toList with
  | false =>
    have HF := Lib.hid (show tgtText p.data.toList q.data.toList = .error 18 by unfold tgtText; rw [if_pos hn])
    have HN := Lib.hid (normal14_refB hn hp)
    clear hn
    go_enter Tryz.func75, Tryz.ntmps75
    go_wp2_with fail
    refine (HN.out _).mono ?_
    rintro e w1 ⟨rfl, HB1⟩
    go_wp2_with fail
    go_ret2
    exact RetV.mk (by rw [HF.out]; rfl) HB1
  | true =>
    have HN := Lib.hid (normal14_refB hn hp)
    have hpl := (dNormal_len hn).1
    rw [size_len] at hpl
    have HL := Lib.hid (show tgtText p.data.toList q.data.toList = if placeErr p.data.toList q.data.toList ≠ 0 then .error (placeErr p.data.toList q.data.toList) else .ok (locText p.data.toList q.data.toList) by unfold tgtText; rw [if_neg (by rw [hn]; decide)])
    have HP := Lib.hid (placeErr_normal (q := q.data.toList) hn)
    clear hn
    rcases locQuery_cases q.data.toList with ⟨q1, q2⟩ | ⟨q1, q2, q3⟩ | ⟨q1, q2, q3⟩
    · have HF := Lib.hid (show tgtText p.data.toList q.data.toList = .error 4 by rw [HL.out, show placeErr p.data.toList q.data.toList = 4 by rw [HP.out, if_pos q1]]; rfl)
      have HQ := Lib.hid (query_refB q2 hq)
      clear q1 q2
      go_enter Tryz.func75, Tryz.ntmps75
      go_wp2_with fail
      refine (HN.out _).mono ?_
      rintro e w1 ⟨rfl, HB1⟩
      go_wp2_with fail
      refine (HQ.out _).mono ?_
      rintro e w' ⟨rfl, rfl⟩
      go_wp2_with fail
      go_ret2
      exact RetV.mk (by rw [HF.out]; rfl) HB1
    · have HF := Lib.hid (show tgtText p.data.toList q.data.toList = .error 3 by rw [HL.out, show placeErr p.data.toList q.data.toList = 3 by rw [HP.out, if_neg (by omega), if_pos q2]]; rfl)
      have HQ := Lib.hid (query_refB q3 hq)
      clear q1 q2 q3
      go_enter Tryz.func75, Tryz.ntmps75
      go_wp2_with fail
      refine (HN.out _).mono ?_
      rintro e w1 ⟨rfl, HB1⟩
      go_wp2_with fail
      refine (HQ.out _).mono ?_
      rintro e w' ⟨rfl, rfl⟩
      go_wp2_with fail
      go_ret2
      exact RetV.mk (by rw [HF.out]; rfl) HB1
    · have HF := Lib.hid (show tgtText p.data.toList q.data.toList = .ok (locText p.data.toList q.data.toList) by rw [HL.out, show placeErr p.data.toList q.data.toList = 0 by rw [HP.out, if_neg (by omega), if_neg (by rw [q2]; decide)]]; rfl)
      have HQ := Lib.hid (query_refB q3 hq)
      rw [size_len] at q1
      clear q2 q3
      obtain ⟨x, hx0, _⟩ := encode_refB (s := p) (show p.size ≤ 30000 by omega) w
      have hxs : x.size ≤ 400 := by have := pctEnc_le stayN p.data.toList; rw [← size_len, hx0]; rw [size_len] at this; omega
      have HX := Lib.hid (fun w => (encode_ref stayN p w (show p.size ≤ 30000 by omega)))
      rw [show S (pctEnc stayN p.data.toList) = .string x by rw [← hx0]; exact (S_of x).symm] at HX
      have HXE := Lib.hid hx0
      clear hx0
      have HR := Lib.hid (fun t : ByteArray => fun (ht : t.data.toList = locText p.data.toList q.data.toList) => show Value.tuple #[.string t, .int .i64 0] = vStr (tgtText p.data.toList q.data.toList) by
        rw [HF.out, ← ht]
        show _ = Value.tuple #[.string ⟨t.data.toList.toArray⟩, .int .i64 0]
        rw [bs_mk])
      by_cases hq0 : q.size = 0
      · have e1 := bs_nil hq0
        have HT := Lib.hid (show q.data.toList = [] from List.length_eq_zero_iff.1 (by rw [size_len]; exact hq0))
        clear hq0
        go_enter Tryz.func75, Tryz.ntmps75
        go_wp2_with fail
        refine (HN.out _).mono ?_
        rintro e w1 ⟨rfl, HB1⟩
        go_wp2_with fail
        refine (HQ.out _).mono ?_
        rintro e w' ⟨rfl, rfl⟩
        go_wp2_with fail
        refine (stay_refB _).mono ?_
        rintro e w3 ⟨rfl, HB3⟩
        go_wp2_with fail
        refine (HX.out _).mono ?_
        rintro e w4 ⟨rfl, HB4⟩
        go_wp2_with fail
        go_ret2
        exact RetV.mk (HR.out _ (by simp [HXE.out, locText, qTail, HT.out])) (below2 (below2 HB1 HB3) HB4)
      · have e1 := bs_ne (show 0 < q.size by omega)
        have HT := Lib.hid (show (q.data.toList == []) = false by rw [beq_eq_false_iff_ne]; intro e; have := size_len q; rw [e] at this; simp at this; omega)
        clear hq0
        go_enter Tryz.func75, Tryz.ntmps75
        go_wp2_with fail
        refine (HN.out _).mono ?_
        rintro e w1 ⟨rfl, HB1⟩
        go_wp2_with fail
        refine (HQ.out _).mono ?_
        rintro e w' ⟨rfl, rfl⟩
        go_wp2_with fail
        refine (stay_refB _).mono ?_
        rintro e w3 ⟨rfl, HB3⟩
        go_wp2_with fail
        refine (HX.out _).mono ?_
        rintro e w4 ⟨rfl, HB4⟩
        go_wp2_with fail
        go_ret2
        exact RetV.mk (HR.out _ (by simp [ByteArray.data_append, HXE.out, locText, qTail, HT.out])) (below2 (below2 HB1 HB3) HB4)

theorem tgtRead_err {l : List UInt8} {L : Int} {e : Int × Int} (h : tgtRead l L = .error e) : e.1 = 2 ∨ e.1 = 3 ∨ e.1 = 4 ∨ e.1 = 18 := by
  unfold tgtRead at h
  split at h
  · injection h with h; subst h; exact .inl rfl
  split at h
  · rename_i x hx
    injection h with h; subst h
    rcases tgtSplit_err hx with rfl | rfl
    · exact .inr (.inl rfl)
    · exact .inr (.inr (.inl rfl))
  split at h
  · injection h with h; subst h; exact .inr (.inl rfl)
  split at h
  · injection h with h; subst h; exact .inr (.inl rfl)
  split at h
  · injection h with h; subst h; exact .inr (.inr (.inr rfl))
  split at h
  · injection h with h; subst h; exact .inr (.inr (.inl rfl))
  · cases h
theorem tgtRead_ok_len {l : List UInt8} {L : Int} {x : List UInt8 × List UInt8} (h : tgtRead l L = .ok x) : x.1.length ≤ 128 ∧ x.2.length ≤ 128 ∧ (x.1.length : Int) ≤ L := by
  unfold tgtRead at h
  split at h
  · cases h
  split at h
  · cases h
  split at h
  · cases h
  split at h
  · cases h
  split at h
  · cases h
  split at h
  · cases h
  · injection h with h; subst h
    refine ⟨?_, ?_, ?_⟩ <;> simp only <;> omega
theorem read_refE {s : ByteArray} {L : Int} {e : Int × Int} (h : tgtRead s.data.toList L = .error e) (hs : s.size ≤ 50000) (w : World) :
    Calls Tryz.prog 127 #[.string s, .int .i64 L] w fun e' w' => e' = .returned (.tuple #[.string ⟨#[]⟩, .string ⟨#[]⟩, .int .i64 e.1, .int .i64 e.2]) ∧ Below w.heap.size w w' := by
  have := read_ref s L w hs; rw [h] at this; exact this
theorem read_refS {s a b : ByteArray} {L : Int} (h : tgtRead s.data.toList L = .ok (a.data.toList, b.data.toList)) (hs : s.size ≤ 50000) (w : World) :
    Calls Tryz.prog 127 #[.string s, .int .i64 L] w fun e' w' => e' = .returned (.tuple #[.string a, .string b, .int .i64 0, .int .i64 200]) ∧ Below w.heap.size w w' := by
  have := read_ref s L w hs; rw [h] at this
  have this : Calls Tryz.prog 127 #[.string s, .int .i64 L] w fun e' w' => e' = .returned (.tuple #[.string ⟨a.data.toList.toArray⟩, .string ⟨b.data.toList.toArray⟩, .int .i64 0, .int .i64 200]) ∧ Below w.heap.size w w' := this
  rwa [bs_mk, bs_mk] at this
theorem vStr_form (r : Except Int (List UInt8)) : ∃ (a : ByteArray) (x : Int), vStr r = .tuple #[.string a, .int .i64 x] := by
  cases r with
  | error e => exact ⟨_, _, rfl⟩
  | ok x => exact ⟨_, _, rfl⟩
theorem text_refT {p q a : ByteArray} {x : Int} (h : vStr (tgtText p.data.toList q.data.toList) = .tuple #[.string a, .int .i64 x]) (hp : p.size ≤ 60000) (hq : q.size ≤ 60000) (w : World) :
    Calls Tryz.prog 75 #[.string p, .string q] w fun e w' => e = .returned (.tuple #[.string a, .int .i64 x]) ∧ Below w.heap.size w w' := by
  have := text_ref p q w hp hq; rw [h] at this; exact this

set_option maxRecDepth 100000 in
theorem canon_ref (s : ByteArray) (w : World) (hs : s.size ≤ 50000) : Calls Tryz.prog 76 #[.string s] w (RetV (vStr (tgtCanon s.data.toList)) w) := by
  cases hr : tgtRead s.data.toList 128 with
  | error e =>
    have HF := Lib.hid (show tgtCanon s.data.toList = .error e.1 by unfold tgtCanon; rw [hr])
    have H := Lib.hid (read_refE hr hs)
    have he := tgtRead_err hr
    obtain ⟨e1, e2⟩ := e
    clear hr
    have x1 : (e1 != 0) = true := by rcases he with h | h | h | h <;> (simp only at h; subst h; decide)
    clear he
    go_enter Tryz.func76, Tryz.ntmps76
    go_wp2_with fail
    refine (H.out _).mono ?_
    rintro e w1 ⟨rfl, HB1⟩
    go_wp2_with fail
    go_ret2
    exact RetV.mk (by rw [HF.out]; rfl) HB1
  | ok x =>
    obtain ⟨x1, x2⟩ := x
    obtain ⟨a, rfl⟩ : ∃ a : ByteArray, x1 = a.data.toList := ⟨⟨x1.toArray⟩, rfl⟩
    obtain ⟨b, rfl⟩ : ∃ b : ByteArray, x2 = b.data.toList := ⟨⟨x2.toArray⟩, rfl⟩
    have H := Lib.hid (read_refS hr hs)
    have hl := tgtRead_ok_len hr
    simp only [size_len] at hl
    obtain ⟨t, x, ht⟩ := vStr_form (tgtText a.data.toList b.data.toList)
    have HF := Lib.hid (show vStr (tgtCanon s.data.toList) = .tuple #[.string t, .int .i64 x] by unfold tgtCanon; rw [hr]; exact ht)
    have HT := Lib.hid (text_refT ht (by omega) (by omega))
    clear hr ht hl
    go_enter Tryz.func76, Tryz.ntmps76
    go_wp2_with fail
    refine (H.out _).mono ?_
    rintro e w1 ⟨rfl, HB1⟩
    go_wp2_with fail
    refine (HT.out _).mono ?_
    rintro e w2 ⟨rfl, HB2⟩
    go_wp2_with fail
    go_ret2
    exact RetV.mk (by rw [HF.out]; rfl) (below2 HB1 HB2)

set_option maxRecDepth 100000 in
set_option maxHeartbeats 1600000 in
theorem same18_ref (s t : ByteArray) (w : World) (hs : s.size ≤ 50000) (ht : t.size ≤ 50000) : Calls Tryz.prog 78 #[.string s, .string t] w (RetV (vBool (tgtSame s.data.toList t.data.toList)) w) := by
  cases hr : tgtRead s.data.toList 128 with
  | error e =>
    have HF := Lib.hid (show tgtSame s.data.toList t.data.toList = (false, e.1) by unfold tgtSame; rw [hr])
    have H := Lib.hid (read_refE hr hs)
    have he := tgtRead_err hr
    obtain ⟨e1, e2⟩ := e
    clear hr
    have x1 : (e1 != 0) = true := by rcases he with h | h | h | h <;> (simp only at h; subst h; decide)
    clear he
    go_enter Tryz.func78, Tryz.ntmps78
    go_wp2_with fail
    refine (H.out _).mono ?_
    rintro e w1 ⟨rfl, HB1⟩
    go_wp2_with fail
    go_ret2
    exact RetV.mk (by rw [HF.out]; rfl) HB1
  | ok x =>
    obtain ⟨x1, x2⟩ := x
    obtain ⟨a, rfl⟩ : ∃ a : ByteArray, x1 = a.data.toList := ⟨⟨x1.toArray⟩, rfl⟩
    obtain ⟨b, rfl⟩ : ∃ b : ByteArray, x2 = b.data.toList := ⟨⟨x2.toArray⟩, rfl⟩
    have H := Lib.hid (read_refS hr hs)
    cases hr2 : tgtRead t.data.toList 128 with
    | error e =>
      have HF := Lib.hid (show tgtSame s.data.toList t.data.toList = (false, e.1) by unfold tgtSame; rw [hr, hr2])
      have H2 := Lib.hid (read_refE hr2 ht)
      have he := tgtRead_err hr2
      obtain ⟨e1, e2⟩ := e
      clear hr hr2
      have x1 : (e1 == 0) = false := by rcases he with h | h | h | h <;> (simp only at h; subst h; decide)
      clear he
      go_enter Tryz.func78, Tryz.ntmps78
      go_wp2_with fail
      refine (H.out _).mono ?_
      rintro e w1 ⟨rfl, HB1⟩
      go_wp2_with fail
      refine (H2.out _).mono ?_
      rintro e w2 ⟨rfl, HB2⟩
      go_wp2_with fail
      go_ret2
      exact RetV.mk (by rw [HF.out]; rfl) (below2 HB1 HB2)
    | ok y =>
      obtain ⟨y1, y2⟩ := y
      obtain ⟨c, rfl⟩ : ∃ c : ByteArray, y1 = c.data.toList := ⟨⟨y1.toArray⟩, rfl⟩
      obtain ⟨d, rfl⟩ : ∃ d : ByteArray, y2 = d.data.toList := ⟨⟨y2.toArray⟩, rfl⟩
      have H2 := Lib.hid (read_refS hr2 ht)
      have HF := Lib.hid (show tgtSame s.data.toList t.data.toList = (a.data.toList == c.data.toList && b.data.toList == d.data.toList, 0) by unfold tgtSame; rw [hr, hr2])
      clear hr hr2
      have ta := Lib.toList_data a
      have tb := Lib.toList_data b
      have tc := Lib.toList_data c
      have td := Lib.toList_data d
      by_cases h1 : a.data.toList = c.data.toList
      · have e1 : (a.toList == c.toList) = true := by rw [ta, tc, beq_iff_eq]; exact h1
        have HF2 := Lib.hid (show tgtSame s.data.toList t.data.toList = (b.data.toList == d.data.toList, 0) by rw [HF.out, h1]; simp)
        by_cases h2 : b.data.toList = d.data.toList
        · have e2 : (b.toList == d.toList) = true := by rw [tb, td, beq_iff_eq]; exact h2
          have HF3 := Lib.hid (show tgtSame s.data.toList t.data.toList = (true, 0) by rw [HF2.out, h2]; simp)
          obtain rfl := bs_ext h1
          obtain rfl := bs_ext h2
          clear h1 h2 ta tb tc td e1 e2
          go_enter Tryz.func78, Tryz.ntmps78
          go_wp2_with fail
          refine (H.out _).mono ?_
          rintro e w1 ⟨rfl, HB1⟩
          go_wp2_with fail
          refine (H2.out _).mono ?_
          rintro e w2 ⟨rfl, HB2⟩
          go_wp2_with fail
          go_ret2
          exact RetV.mk (by rw [HF3.out]; rfl) (below2 HB1 HB2)
        · have e2 : (b.toList == d.toList) = false := by rw [tb, td, beq_eq_false_iff_ne]; exact h2
          have HF3 := Lib.hid (show tgtSame s.data.toList t.data.toList = (false, 0) by rw [HF2.out, beq_eq_false_iff_ne.2 h2])
          obtain rfl := bs_ext h1
          clear h1 h2 ta tb tc td e1
          go_enter Tryz.func78, Tryz.ntmps78
          go_wp2_with fail
          refine (H.out _).mono ?_
          rintro e w1 ⟨rfl, HB1⟩
          go_wp2_with fail
          refine (H2.out _).mono ?_
          rintro e w2 ⟨rfl, HB2⟩
          go_wp2_with fail
          go_ret2
          exact RetV.mk (by rw [HF3.out]; rfl) (below2 HB1 HB2)
      · have e1 : (a.toList == c.toList) = false := by rw [ta, tc, beq_eq_false_iff_ne]; exact h1
        have HF3 := Lib.hid (show tgtSame s.data.toList t.data.toList = (false, 0) by rw [HF.out, beq_eq_false_iff_ne.2 h1]; rfl)
        clear h1 ta tb tc td
        go_enter Tryz.func78, Tryz.ntmps78
        go_wp2_with fail
        refine (H.out _).mono ?_
        rintro e w1 ⟨rfl, HB1⟩
        go_wp2_with fail
        refine (H2.out _).mono ?_
        rintro e w2 ⟨rfl, HB2⟩
        go_wp2_with fail
        go_ret2
        exact RetV.mk (by rw [HF3.out]; rfl) (below2 HB1 HB2)
end Go.Proofs.YteigjobliflkdaaGreatDoor
/- Walks: target's Parse, Why, Text, Canonical, Same. -/
namespace Go.Proofs.YteigjobliflkdaaGreatDoor
open Go.RowKit

theorem aRead_form (r : Except (Int × Int) (List UInt8 × List UInt8)) : ∃ (a b : ByteArray) (x y : Int), aRead r = .agg #[.string a, .string b, .int .i64 x, .int .i64 y] ∧ vRead r = .tuple #[.string a, .string b, .int .i64 x, .int .i64 y] := by
  cases r with
  | error e => exact ⟨_, _, _, _, rfl, rfl⟩
  | ok x => exact ⟨_, _, _, _, rfl, rfl⟩
theorem aRead_of {r : Except (Int × Int) (List UInt8 × List UInt8)} {a b : ByteArray} {x y : Int} (h : vRead r = .tuple #[.string a, .string b, .int .i64 x, .int .i64 y]) : aRead r = .agg #[.string a, .string b, .int .i64 x, .int .i64 y] := by
  obtain ⟨a', b', x', y', h1, h2⟩ := aRead_form r
  rw [h] at h2
  injection h2 with h2
  injection h2 with h2
  simp only [List.cons.injEq, Value.string.injEq, Value.int.injEq, true_and, and_true] at h2
  obtain ⟨rfl, rfl, rfl, rfl⟩ := h2
  exact h1
theorem readT_T {s a b : ByteArray} {L x y : Int} (h : vRead (tgtRead s.data.toList L) = .tuple #[.string a, .string b, .int .i64 x, .int .i64 y]) (hs : s.size ≤ 50000) (w : World) (hG : Good w) :
    Calls Tryz.prog 103 #[.string s, .int .i64 L] w fun e w' => e = .returned (.agg #[.string a, .string b, .int .i64 x, .int .i64 y]) ∧ Below w.heap.size w w' := by
  have := readT_any s L w hG hs; rw [aRead_of h] at this; exact this

set_option maxRecDepth 100000 in
set_option maxHeartbeats 2000000 in
theorem parseT_T {s a b : ByteArray} {L x y : Int} (h : vRead (tgtRead s.data.toList L) = .tuple #[.string a, .string b, .int .i64 x, .int .i64 y]) (hs : s.size ≤ 50000) (w : World) (hG : Good w) :
    Calls Tryz.prog 48 #[.string s, .int .i64 L] w fun e w' => e = .returned (.tuple #[.string a, .string b, .int .i64 y]) ∧ Below w.heap.size w w' := by
  have H := Lib.hid (readT_T h hs)
  clear h
  go_enter Tryz.func48, Tryz.ntmps48
  go_wp2_with fail
  refine (H.out _ hG).mono ?_
  rintro e w1 ⟨rfl, HB⟩
  have hz : TgtAt (w1.alloc (.cells #[.string a, .string b, .int .i64 x, .int .i64 y] 99)) w1.heap.size a b x y := heap_alloc_new _ _
  obtain ⟨c0, c1, c2, c3, y0, y1, y2, y3⟩ := hz.four
  clear hz
  go_wp2_with fail
  go_quiet (fail)
  go_wp2_with fail
  go_ret3
  exact ⟨rfl, below_drewN (HB.alloc HB.size _) _⟩
set_option maxRecDepth 100000 in
set_option maxHeartbeats 2000000 in
theorem whyT_T {s a b : ByteArray} {L x y : Int} (h : vRead (tgtRead s.data.toList L) = .tuple #[.string a, .string b, .int .i64 x, .int .i64 y]) (hs : s.size ≤ 50000) (w : World) (hG : Good w) :
    Calls Tryz.prog 73 #[.string s, .int .i64 L] w fun e w' => e = .returned (.tuple #[.int .i64 x, .int .i64 y]) ∧ Below w.heap.size w w' := by
  have H := Lib.hid (readT_T h hs)
  clear h
  go_enter Tryz.func73, Tryz.ntmps73
  go_wp2_with fail
  refine (H.out _ hG).mono ?_
  rintro e w1 ⟨rfl, HB⟩
  have hz : TgtAt (w1.alloc (.cells #[.string a, .string b, .int .i64 x, .int .i64 y] 99)) w1.heap.size a b x y := heap_alloc_new _ _
  obtain ⟨c0, c1, c2, c3, y0, y1, y2, y3⟩ := hz.four
  clear hz
  go_wp2_with fail
  go_quiet (fail)
  go_wp2_with fail
  go_ret2
  exact ⟨rfl, below_drewN (HB.alloc HB.size _) _⟩

set_option maxRecDepth 100000 in
set_option maxHeartbeats 4000000 in
theorem textT_any (p q : ByteArray) (w : World) (hG : Good w) (hp : p.size ≤ 60000) (hq : q.size ≤ 60000) :
    Calls Tryz.prog 44 #[.string p, .string q] w (RetV (vStr (tgtText p.data.toList q.data.toList)) w) := by
  cases hn : dNormal p.data.toList with
  | false =>
    have HF := Lib.hid (show tgtText p.data.toList q.data.toList = .error 18 by unfold tgtText; rw [if_pos hn])
    have HN := Lib.hid (normalP_B hn)
    clear hn
    go_enter Tryz.func44, Tryz.ntmps44
    go_wp2_with fail
    refine (HN.out _ hG hp).mono ?_
    rintro e w1 ⟨rfl, HB1⟩
    go_wp2_with fail
    go_ret2
    exact RetV.mk (by rw [HF.out]; rfl) HB1
  | true =>
    have HN := Lib.hid (normalP_B hn)
    have hh : hostIs (⟨#[104]⟩ : ByteArray).data.toList = true := by decide +kernel
    by_cases hx : placeErr p.data.toList q.data.toList = 0
    · have hT : tgtText p.data.toList q.data.toList = .ok (locText p.data.toList q.data.toList) := by unfold tgtText; rw [if_neg (by rw [hn]; decide), hx, if_neg (by decide)]
      have hL : locBuild (⟨#[104]⟩ : ByteArray).data.toList p.data.toList q.data.toList = .ok (httpL ++ [104] ++ locText p.data.toList q.data.toList) := by
        unfold locBuild; rw [if_neg (by rw [hh]; decide), hx, if_neg (by decide)]
      obtain ⟨t, ht⟩ : ∃ t : ByteArray, httpL ++ [104] ++ locText p.data.toList q.data.toList = t.data.toList := ⟨⟨(httpL ++ [104] ++ locText p.data.toList q.data.toList).toArray⟩, rfl⟩
      have hle := locBuild_len hL
      rw [ht] at hL
      have ht8 : 8 ≤ t.size := by rw [← size_len, ← ht]; simp [httpL]
      have hts : t.size ≤ 60000 := by rw [← size_len, ← ht]; omega
      have HT := Lib.hid (show (t.extract 8 t.size).data.toList = locText p.data.toList q.data.toList by
        have hl := congrArg List.length ht
        rw [size_len] at hl
        simp only [List.length_append, httpL, List.length_cons, List.length_nil] at hl
        rw [Lib.extract_data, ← ht]
        simp only [httpL, List.cons_append, List.nil_append, List.drop_succ_cons, List.drop_zero]
        exact List.take_of_length_le (by omega))
      have HV := Lib.hid (show Value.tuple #[.string (t.extract 8 t.size), .int .i64 0] = vStr (tgtText p.data.toList q.data.toList) by
        rw [hT, ← HT.out]
        show _ = Value.tuple #[.string ⟨(t.extract 8 t.size).data.toList.toArray⟩, .int .i64 0]
        rw [bs_mk])
      have HC := Lib.hid (build_S hL (by decide) hp hq)
      have i1 : (8 : Int) ≤ t.size := by omega
      clear hn hx hT hL ht hle hh
      go_enter Tryz.func44, Tryz.ntmps44
      go_wp2_with fail
      refine (HN.out _ hG hp).mono ?_
      rintro e w1 ⟨rfl, HB1⟩
      go_wp2_with fail
      refine (HC.out _ (hG.next HB1)).mono ?_
      rintro e w2 ⟨rfl, HB2⟩
      go_wp2_with fail
      go_ret2
      exact RetV.mk (by rw [← HV.out]; rfl) (below2 HB1 HB2)
    · have hT : tgtText p.data.toList q.data.toList = .error (placeErr p.data.toList q.data.toList) := by unfold tgtText; rw [if_neg (by rw [hn]; decide), if_pos hx]
      have hL : locBuild (⟨#[104]⟩ : ByteArray).data.toList p.data.toList q.data.toList = .error (placeErr p.data.toList q.data.toList) := by
        unfold locBuild; rw [if_neg (by rw [hh]; decide), if_pos hx]
      have HC := Lib.hid (build_E hL (by decide) hp hq)
      have HT := Lib.hid hT
      generalize placeErr p.data.toList q.data.toList = x at hx HC HT
      have x1 : (x != 0) = true := by simpa using hx
      clear hn hx hT hL hh
      go_enter Tryz.func44, Tryz.ntmps44
      go_wp2_with fail
      refine (HN.out _ hG hp).mono ?_
      rintro e w1 ⟨rfl, HB1⟩
      go_wp2_with fail
      refine (HC.out _ (hG.next HB1)).mono ?_
      rintro e w2 ⟨rfl, HB2⟩
      go_wp2_with fail
      go_ret2
      exact RetV.mk (by rw [HT.out]; rfl) (below2 HB1 HB2)
theorem textT_T {p q a : ByteArray} {x : Int} (h : vStr (tgtText p.data.toList q.data.toList) = .tuple #[.string a, .int .i64 x]) (hp : p.size ≤ 60000) (hq : q.size ≤ 60000) (w : World) (hG : Good w) :
    Calls Tryz.prog 44 #[.string p, .string q] w fun e w' => e = .returned (.tuple #[.string a, .int .i64 x]) ∧ Below w.heap.size w w' := by
  have := textT_any p q w hG hp hq; rw [h] at this; exact this
theorem readT_E {s : ByteArray} {L : Int} {e : Int × Int} (h : tgtRead s.data.toList L = .error e) (hs : s.size ≤ 50000) (w : World) (hG : Good w) :
    Calls Tryz.prog 103 #[.string s, .int .i64 L] w fun e' w' => e' = .returned (.agg #[.string ⟨#[]⟩, .string ⟨#[]⟩, .int .i64 e.1, .int .i64 e.2]) ∧ Below w.heap.size w w' := by
  have := readT_any s L w hG hs; rw [h] at this; exact this
theorem readT_S {s a b : ByteArray} {L : Int} (h : tgtRead s.data.toList L = .ok (a.data.toList, b.data.toList)) (hs : s.size ≤ 50000) (w : World) (hG : Good w) :
    Calls Tryz.prog 103 #[.string s, .int .i64 L] w fun e' w' => e' = .returned (.agg #[.string a, .string b, .int .i64 0, .int .i64 200]) ∧ Below w.heap.size w w' := by
  have := readT_any s L w hG hs; rw [h] at this
  have this : Calls Tryz.prog 103 #[.string s, .int .i64 L] w fun e' w' => e' = .returned (.agg #[.string ⟨a.data.toList.toArray⟩, .string ⟨b.data.toList.toArray⟩, .int .i64 0, .int .i64 200]) ∧ Below w.heap.size w w' := this
  rwa [bs_mk, bs_mk] at this

set_option maxRecDepth 100000 in
set_option maxHeartbeats 4000000 in
theorem canonT_any (s : ByteArray) (w : World) (hG : Good w) (hs : s.size ≤ 50000) : Calls Tryz.prog 45 #[.string s] w (RetV (vStr (tgtCanon s.data.toList)) w) := by
  cases hr : tgtRead s.data.toList 128 with
  | error e =>
    have HF := Lib.hid (show tgtCanon s.data.toList = .error e.1 by unfold tgtCanon; rw [hr])
    have H := Lib.hid (readT_E hr hs)
    have he := tgtRead_err hr
    obtain ⟨e1, e2⟩ := e
    clear hr
    have x1 : (e1 != 0) = true := by rcases he with h | h | h | h <;> (simp only at h; subst h; decide)
    clear he
    go_enter Tryz.func45, Tryz.ntmps45
    go_wp2_with fail
    refine (H.out _ hG).mono ?_
    rintro e w1 ⟨rfl, HB1⟩
    have hz : TgtAt (w1.alloc (.cells #[.string ⟨#[]⟩, .string ⟨#[]⟩, .int .i64 e1, .int .i64 e2] 99)) w1.heap.size ⟨#[]⟩ ⟨#[]⟩ e1 e2 := heap_alloc_new _ _
    obtain ⟨c0, c1, c2, c3, y0, y1, y2, y3⟩ := hz.four
    clear hz
    go_wp2_with fail
    go_quiet (fail)
    go_wp2_with fail
    go_ret2
    exact RetV.mk (by rw [HF.out]; rfl) (below_drewN (HB1.alloc HB1.size _) _)
  | ok x =>
    obtain ⟨x1, x2⟩ := x
    obtain ⟨a, rfl⟩ : ∃ a : ByteArray, x1 = a.data.toList := ⟨⟨x1.toArray⟩, rfl⟩
    obtain ⟨b, rfl⟩ : ∃ b : ByteArray, x2 = b.data.toList := ⟨⟨x2.toArray⟩, rfl⟩
    have H := Lib.hid (readT_S hr hs)
    have hl := tgtRead_ok_len hr
    simp only [size_len] at hl
    obtain ⟨t, x, ht⟩ := vStr_form (tgtText a.data.toList b.data.toList)
    have HF := Lib.hid (show vStr (tgtCanon s.data.toList) = .tuple #[.string t, .int .i64 x] by unfold tgtCanon; rw [hr]; exact ht)
    have HT := Lib.hid (textT_T ht (by omega) (by omega))
    clear hr ht hl
    go_enter Tryz.func45, Tryz.ntmps45
    go_wp2_with fail
    refine (H.out _ hG).mono ?_
    rintro e w1 ⟨rfl, HB1⟩
    have hz : TgtAt (w1.alloc (.cells #[.string a, .string b, .int .i64 0, .int .i64 200] 99)) w1.heap.size a b 0 200 := heap_alloc_new _ _
    obtain ⟨c0, c1, c2, c3, y0, y1, y2, y3⟩ := hz.four
    have HB := HB1.alloc HB1.size (.cells #[.string a, .string b, .int .i64 0, .int .i64 200] 99)
    clear hz HB1
    go_wp2_with fail
    refine (HT.out _ (hG.next HB)).mono ?_
    rintro e w2 ⟨rfl, HB2⟩
    go_wp2_with fail
    go_ret2
    exact RetV.mk (by rw [HF.out]; rfl) (below2 HB HB2)
end Go.Proofs.YteigjobliflkdaaGreatDoor
