import Derived.Test.YteigjobliflkdaaGreatDoorV15c
namespace Go.Proofs.YteigjobliflkdaaGreatDoor
open Go.RowKit

set_option maxRecDepth 100000 in
set_option maxHeartbeats 800000 in
theorem sameTexts_nil (w : World) : Calls Tryz.prog 36 #[.slice none 0 0, .slice none 0 0] w (RetV (.bool true) w) := by
  go_enter Tryz.func36, Tryz.ntmps36
  go_wp2_with fail
  go_loopw [4, 5] (fun a b wr => wr = w ∧ a = .bool false ∧ b = .int .i64 0) (fun _ _ _ => 0)
  case atStart => exact ⟨rfl, rfl, rfl⟩
  case round =>
    obtain ⟨rfl, rfl, rfl⟩ := hrel
    go_wp2_with fail
    go_ret
    exact RetV.mk rfl (Below.refl _ _)

/-- What Split hands back, as three values. -/
def splitT (r : Except Int (List UInt8 × Int)) : ByteArray × Int × Int := match r with
  | .error e => (⟨#[]⟩, 0, e)
  | .ok x => (⟨x.1.toArray⟩, x.2, 0)
def strT (r : Except Int (List UInt8)) : ByteArray × Int := match r with
  | .error e => (⟨#[]⟩, e)
  | .ok x => (⟨x.toArray⟩, 0)
theorem vSplit_T (r : Except Int (List UInt8 × Int)) : vSplit r = .tuple #[.string (splitT r).1, .int .i64 (splitT r).2.1, .int .i64 (splitT r).2.2] := by cases r <;> rfl
theorem vStr_T (r : Except Int (List UInt8)) : vStr r = .tuple #[.string (strT r).1, .int .i64 (strT r).2] := by cases r <;> rfl

theorem split_anyT {s a : ByteArray} {n x : Int} (h : splitT (hostSplit s.data.toList) = (a, n, x)) (w : World) (hG : Good w) (hs : s.size ≤ 60000) :
    Calls Tryz.prog 26 #[.string s] w fun e w' => e = .returned (.tuple #[.string a, .int .i64 n, .int .i64 x]) ∧ Below w.heap.size w w' := by
  have := split_any s w hG hs; rw [vSplit_T, h] at this; exact this
theorem split_refT {s a : ByteArray} {n x : Int} (h : splitT (hostSplit s.data.toList) = (a, n, x)) (w : World) (hs : s.size ≤ 60000) :
    Calls Tryz.prog 27 #[.string s] w fun e w' => e = .returned (.tuple #[.string a, .int .i64 n, .int .i64 x]) ∧ Below w.heap.size w w' := by
  have := split_ref s w hs; rw [vSplit_T, h] at this; exact this
theorem normal_anyT {s a : ByteArray} {x : Int} (h : strT (hostNormal s.data.toList) = (a, x)) (w : World) (hG : Good w) (hs : s.size ≤ 60000) :
    Calls Tryz.prog 28 #[.string s] w fun e w' => e = .returned (.tuple #[.string a, .int .i64 x]) ∧ Below w.heap.size w w' := by
  have := normal_any s w hG hs; rw [vStr_T, h] at this; exact this
theorem normal_refT {s a : ByteArray} {x : Int} (h : strT (hostNormal s.data.toList) = (a, x)) (w : World) (hs : s.size ≤ 60000) :
    Calls Tryz.prog 29 #[.string s] w fun e w' => e = .returned (.tuple #[.string a, .int .i64 x]) ∧ Below w.heap.size w w' := by
  have := normal_ref s w hs; rw [vStr_T, h] at this; exact this
theorem join_anyT {s a : ByteArray} {p x : Int} (h : strT (hostJoin s.data.toList p) = (a, x)) (w : World) (hG : Good w) (hs : s.size ≤ 50000) :
    Calls Tryz.prog 34 #[.string s, .int .i64 p] w fun e w' => e = .returned (.tuple #[.string a, .int .i64 x]) ∧ Below w.heap.size w w' := by
  have := join_any s p w hG hs; rw [vStr_T, h] at this; exact this
theorem join_refT {s a : ByteArray} {p x : Int} (h : strT (hostJoin s.data.toList p) = (a, x)) (w : World) (hs : s.size ≤ 60000) :
    Calls Tryz.prog 35 #[.string s, .int .i64 p] w fun e w' => e = .returned (.tuple #[.string a, .int .i64 x]) ∧ Below w.heap.size w w' := by
  have := join_ref s p w hs; rw [vStr_T, h] at this; exact this
theorem is_anyT {s : ByteArray} {b : Bool} (h : hostIs s.data.toList = b) (w : World) (hG : Good w) (hs : s.size ≤ 60000) :
    Calls Tryz.prog 30 #[.string s] w fun e w' => e = .returned (.bool b) ∧ Below w.heap.size w w' := by
  have := is_any s w hG hs; rw [h] at this; exact this
theorem is_refT {s : ByteArray} {b : Bool} (h : hostIs s.data.toList = b) (w : World) (hs : s.size ≤ 60000) :
    Calls Tryz.prog 31 #[.string s] w fun e w' => e = .returned (.bool b) ∧ Below w.heap.size w w' := by
  have := is_ref s w hs; rw [h] at this; exact this

theorem labels_anyE {s : ByteArray} {x : Int} (h : hostLabels s.data.toList = .error x) (w : World) (hG : Good w) (hs : s.size ≤ 60000) :
    Calls Tryz.prog 32 #[.string s] w fun e w' => e = .returned (.tuple #[.slice none 0 0, .int .i64 x]) ∧ Below w.heap.size w w' := by
  have := labels_any s w hG hs; rw [h] at this; exact this
theorem labels_refE {s : ByteArray} {x : Int} (h : hostLabels s.data.toList = .error x) (w : World) (hs : s.size ≤ 60000) :
    Calls Tryz.prog 33 #[.string s] w fun e w' => e = .returned (.tuple #[.slice none 0 0, .int .i64 x]) ∧ Below w.heap.size w w' := by
  have := labels_refL s w hs; rw [h] at this; exact this
/-- A row of texts whose cells are known, in a block that is there. -/
def TextsAt (w : World) (g : Nat) (L : List (List UInt8)) : Prop := g < w.heap.size ∧ ∀ j, j < L.length → w.cell? ⟨g, j, none⟩ = some (.string ⟨(L[j]?.getD []).toArray⟩)
theorem TextsAt.of {w : World} {B g cap : Nat} {L : List (List UInt8)} (h : w.ownsRow B 9 1 (.slice (some ⟨g, 0, none⟩) L.length cap) L.length (L.map S)) : TextsAt w g L :=
  ⟨(own_below2 h).2, fun j hj => own_cell h j hj rfl⟩
theorem TextsAt.next {w w' : World} {g : Nat} {L : List (List UInt8)} (h : TextsAt w g L) (hB : Below w.heap.size w w') : TextsAt w' g L :=
  ⟨Nat.lt_of_lt_of_le h.1 hB.size, fun j hj => (hB.cell (p := ⟨g, j, none⟩) h.1).trans (h.2 j hj)⟩
theorem labels_anyK {s : ByteArray} {L : List (List UInt8)} (h : hostLabels s.data.toList = .ok L) (w : World) (hG : Good w) (hs : s.size ≤ 60000) :
    Calls Tryz.prog 32 #[.string s] w fun e w' => ∃ g cap, e = .returned (.tuple #[.slice (some ⟨g, 0, none⟩) L.length cap, .int .i64 0]) ∧ TextsAt w' g L ∧ Below w.heap.size w w' := by
  have := labels_any s w hG hs; rw [h] at this
  exact this.mono fun e w' ⟨g, cap, he, ho, hB⟩ => ⟨g, cap, he, .of ho, hB⟩
theorem labels_refK {s : ByteArray} {L : List (List UInt8)} (h : hostLabels s.data.toList = .ok L) (w : World) (hs : s.size ≤ 60000) :
    Calls Tryz.prog 33 #[.string s] w fun e w' => ∃ g cap, e = .returned (.tuple #[.slice (some ⟨g, 0, none⟩) L.length cap, .int .i64 0]) ∧ TextsAt w' g L ∧ Below w.heap.size w w' := by
  have := labels_refL s w hs; rw [h] at this
  exact this.mono fun e w' ⟨g, cap, he, ho, hB⟩ => ⟨g, cap, he, .of ho, hB⟩
theorem sameTexts_self {L : List (List UInt8)} {g cap g2 cap2 : Nat} (w : World) (hL : L.length ≤ 60001) (ca : TextsAt w g L) (cb : TextsAt w g2 L) :
    Calls Tryz.prog 36 #[.slice (some ⟨g, 0, none⟩) L.length cap, .slice (some ⟨g2, 0, none⟩) L.length cap2] w (RetV (.bool true) w) := by
  have := sameTexts_any (cap := cap) (cap2 := cap2) w hL hL ca.2 cb.2
  rwa [show sameB L L = true by simp [sameB]] at this

set_option maxRecDepth 100000 in
set_option maxHeartbeats 3200000 in
theorem ones_t (s : ByteArray) (p : Int) (w : World) (hG : Good w) : Calls Tryz.prog 4 #[.string s, .int .i64 p] w (RetV (.bool true) w) := by
  by_cases h1 : 140 < s.size
  · have d1 : decide ((140 : Int) < (s.size : Int)) = true := by simp; omega
    go_enter Tryz.func4, Tryz.ntmps4
    go_wp2_with fail
    refine (awake_t _ hG).mono ?_
    rintro e w1 ⟨rfl, HB⟩
    go_wp2_with fail
    go_ret
    exact RetV.mk rfl HB
  have d1 : decide ((140 : Int) < (s.size : Int)) = false := by simp; omega
  have hs : s.size ≤ 50000 := by omega
  have hs' : s.size ≤ 60000 := by omega
  obtain ⟨⟨a, n, x⟩, R1⟩ : ∃ r, splitT (hostSplit s.data.toList) = r := ⟨_, rfl⟩
  obtain ⟨⟨b, y⟩, R2⟩ : ∃ r, strT (hostNormal s.data.toList) = r := ⟨_, rfl⟩
  obtain ⟨c, R3⟩ : ∃ r, hostIs s.data.toList = r := ⟨_, rfl⟩
  obtain ⟨⟨d, z⟩, R4⟩ : ∃ r, strT (hostJoin s.data.toList p) = r := ⟨_, rfl⟩
  have R1 := Lib.hid R1
  have R2 := Lib.hid R2
  have R3 := Lib.hid R3
  have R4 := Lib.hid R4
  clear h1
  cases hl : hostLabels s.data.toList with
  | error q =>
    have R5 := Lib.hid hl
    clear hl
    go_enter Tryz.func4, Tryz.ntmps4
    go_wp2_with fail
    refine (split_anyT R1.out _ hG hs').mono ?_
    rintro e w1 ⟨rfl, HB1⟩
    have hG1 := hG.next HB1
    go_wp2_with fail
    refine (split_refT R1.out _ hs').mono ?_
    rintro e w2 ⟨rfl, HB2⟩
    have hG2 := hG1.next HB2
    go_wp2_with fail
    refine (normal_anyT R2.out _ hG2 hs').mono ?_
    rintro e w3 ⟨rfl, HB3⟩
    have hG3 := hG2.next HB3
    go_wp2_with fail
    refine (normal_refT R2.out _ hs').mono ?_
    rintro e w4 ⟨rfl, HB4⟩
    have hG4 := hG3.next HB4
    go_wp2_with fail
    refine (is_anyT R3.out _ hG4 hs').mono ?_
    rintro e w5 ⟨rfl, HB5⟩
    have hG5 := hG4.next HB5
    go_wp2_with fail
    refine (is_refT R3.out _ hs').mono ?_
    rintro e w6 ⟨rfl, HB6⟩
    have hG6 := hG5.next HB6
    go_wp2_with fail
    refine (labels_anyE R5.out _ hG6 hs').mono ?_
    rintro e w7 ⟨rfl, HB7⟩
    have hG7 := hG6.next HB7
    go_wp2_with fail
    refine (labels_refE R5.out _ hs').mono ?_
    rintro e w8 ⟨rfl, HB8⟩
    have hG8 := hG7.next HB8
    go_wp2_with fail
    refine (join_anyT R4.out _ hG8 hs).mono ?_
    rintro e w9 ⟨rfl, HB9⟩
    have hG9 := hG8.next HB9
    go_wp2_with fail
    refine (join_refT R4.out _ hs').mono ?_
    rintro e w10 ⟨rfl, HB10⟩
    have hG10 := hG9.next HB10
    go_wp2_with fail
    refine (sameTexts_nil _).mono ?_
    rintro e w11 ⟨rfl, HB11⟩
    have hG11 := hG10.next HB11
    go_wp2_with fail
    refine (awake_t _ hG11).mono ?_
    rintro e w12 ⟨rfl, HB12⟩
    have HB := below2 (below2 (below2 (below2 (below2 (below7 HB1 HB2 HB3 HB4 HB5 HB6 HB7) HB8) HB9) HB10) HB11) HB12
    go_wp2_with fail
    go_ret
    exact RetV.mk rfl HB
  | ok L =>
    have hLl : L.length ≤ 60001 := by
      unfold hostLabels at hl
      split at hl
      · cases hl
      · rename_i v hv
        cases hl
        have hn : v.1.length ≤ 64 := (hostSplit_ok (n := v.1) (p := v.2) hv).2.2.1
        have := segs_le 46 v.1
        omega
    have R5 := Lib.hid hl
    clear hl
    go_enter Tryz.func4, Tryz.ntmps4
    go_wp2_with fail
    refine (split_anyT R1.out _ hG hs').mono ?_
    rintro e w1 ⟨rfl, HB1⟩
    have hG1 := hG.next HB1
    go_wp2_with fail
    refine (split_refT R1.out _ hs').mono ?_
    rintro e w2 ⟨rfl, HB2⟩
    have hG2 := hG1.next HB2
    go_wp2_with fail
    refine (normal_anyT R2.out _ hG2 hs').mono ?_
    rintro e w3 ⟨rfl, HB3⟩
    have hG3 := hG2.next HB3
    go_wp2_with fail
    refine (normal_refT R2.out _ hs').mono ?_
    rintro e w4 ⟨rfl, HB4⟩
    have hG4 := hG3.next HB4
    go_wp2_with fail
    refine (is_anyT R3.out _ hG4 hs').mono ?_
    rintro e w5 ⟨rfl, HB5⟩
    have hG5 := hG4.next HB5
    go_wp2_with fail
    refine (is_refT R3.out _ hs').mono ?_
    rintro e w6 ⟨rfl, HB6⟩
    have hG6 := hG5.next HB6
    go_wp2_with fail
    refine (labels_anyK R5.out _ hG6 hs').mono ?_
    rintro e w7 ⟨g, cap, rfl, T1, HB7⟩
    have hG7 := hG6.next HB7
    go_wp2_with fail
    refine (labels_refK R5.out _ hs').mono ?_
    rintro e w8 ⟨g2, cap2, rfl, T2, HB8⟩
    have hG8 := hG7.next HB8
    go_wp2_with fail
    refine (join_anyT R4.out _ hG8 hs).mono ?_
    rintro e w9 ⟨rfl, HB9⟩
    have hG9 := hG8.next HB9
    go_wp2_with fail
    refine (join_refT R4.out _ hs').mono ?_
    rintro e w10 ⟨rfl, HB10⟩
    have hG10 := hG9.next HB10
    go_wp2_with fail
    refine (sameTexts_self _ hLl (((T1.next HB8).next HB9).next HB10) ((T2.next HB9).next HB10)).mono ?_
    rintro e w11 ⟨rfl, HB11⟩
    have hG11 := hG10.next HB11
    go_wp2_with fail
    refine (awake_t _ hG11).mono ?_
    rintro e w12 ⟨rfl, HB12⟩
    have HB := below2 (below2 (below2 (below2 (below2 (below7 HB1 HB2 HB3 HB4 HB5 HB6 HB7) HB8) HB9) HB10) HB11) HB12
    go_wp2_with fail
    go_ret
    exact RetV.mk rfl HB
end Go.Proofs.YteigjobliflkdaaGreatDoor
