/- Texts of this claim, joined in build order: H15g, K15, K15b, D1, D2. -/
import Derived.Test.YteigjobliflkdaaGreatDoorZ7
import Derived.RangeFuncBox
import Derived.RangeFuncLeaves
import Derived.Shelf.Abstract
import Derived.OwnWalkIn
import Derived.TacticsInMore
import Derived.LoopNIn
import Derived.LoopIn
import Derived.Maps.AppendAt
import Derived.Test.YteigjobliflkdaaGreatDoorZ4
import Derived.Outline
/- Walks: host.Same, Labels, Join. -/
namespace Go.Proofs.YteigjobliflkdaaGreatDoor
open Go.RowKit

theorem two_cells (w : World) (s t : ByteArray) : (w.alloc (.cells #[.string s, .string t] 9)).cell? ⟨w.heap.size, 0, none⟩ = some (.string s) ∧ (w.alloc (.cells #[.string s, .string t] 9)).cell? ⟨w.heap.size, 1, none⟩ = some (.string t) := by
  constructor <;> rw [World.cell?_alloc_at _ _ _ _ rfl] <;> rfl
theorem one_below (w : World) (o : Obj) : Below w.heap.size w (w.alloc o) := (Below.refl _ _).alloc (Nat.le_refl _) _
theorem below_of_alloc {w w' : World} {o : Obj} (h : Below (w.alloc o).heap.size (w.alloc o) w') : Below w.heap.size w w' := (one_below w o).trans (h.mono (by simp))
theorem own_at {w : World} {B e size g n cap : Nat} {xs : List Value} (h : w.ownsRow B e size (.slice (some ⟨g, 0, none⟩) n cap) n xs) (j : Nat) (v : Value) (hj : xs[j]? = some v) : w.cell? ⟨g, j, none⟩ = some v := by
  rw [h.cellAt j (by have := (List.getElem?_eq_some_iff.1 hj).1; rw [h.1] at this; exact this)]; exact hj

set_option maxRecDepth 100000 in
set_option maxHeartbeats 800000 in
theorem same_any (s t : ByteArray) (w : World) (hG : Good w) (hs : s.size ≤ 60000) (ht : t.size ≤ 60000) :
    Calls Tryz.prog 20 #[.string s, .string t] w (RetV (vBool (hostSame s.data.toList t.data.toList)) w) := by
  have HC := Lib.hid (two_cells w s t)
  have hG1 := hG.next (one_below w (.cells #[.string s, .string t] 9))
  cases hh : hostSplit s.data.toList with
  | error x =>
    have hx := (err_ne hh).2
    have HE := Lib.hid (show hostSame s.data.toList t.data.toList = (false, x) by unfold hostSame; rw [hh])
    have HH := Lib.hid hh
    clear hh
    go_enter Tryz.func20, Tryz.ntmps20
    go_wp2_with fail
    refine (splits2_err1 HH.out _ hG1 hs ht (by simp) HC.out.1 HC.out.2).mono ?_
    rintro e w1 ⟨rfl, HB⟩
    go_wp2_with fail
    go_quiet (fail)
    go_wp2_with fail
    go_ret2
    exact RetV.of (f := vBool) _ HE.out rfl (below_drewN (below_of_alloc HB) _)
  | ok a =>
    cases hg : hostSplit t.data.toList with
    | error x =>
      have hx := (err_ne hg).2
      have HE := Lib.hid (show hostSame s.data.toList t.data.toList = (false, x) by unfold hostSame; rw [hh, hg])
      have HH := Lib.hid hh
      have HG := Lib.hid hg
      clear hh hg
      go_enter Tryz.func20, Tryz.ntmps20
      go_wp2_with fail
      refine (splits2_err2 HH.out HG.out _ hG1 hs ht (by simp) HC.out.1 HC.out.2).mono ?_
      rintro e w1 ⟨rfl, HB⟩
      go_wp2_with fail
      go_quiet (fail)
      go_wp2_with fail
      go_ret2
      exact RetV.of (f := vBool) _ HE.out rfl (below_drewN (below_of_alloc HB) _)
    | ok b =>
      have HE := Lib.hid (show hostSame s.data.toList t.data.toList = (a.1 == b.1 && a.2 == b.2, 0) by unfold hostSame; rw [hh, hg])
      have HH := Lib.hid hh
      have HG := Lib.hid hg
      obtain ⟨n, p⟩ := a
      obtain ⟨m, q⟩ := b
      clear hh hg
      by_cases hnm : n = m
      · subst hnm
        by_cases hpq : p = q
        · subst hpq
          have HE2 := Lib.hid (show (n == n && p == p) = true by simp)
          go_enter Tryz.func20, Tryz.ntmps20
          go_wp2_with fail
          refine (splits2_ok HH.out HG.out _ hG1 hs ht (by simp) HC.out.1 HC.out.2).mono ?_
          rintro e w1 ⟨g, cap, rfl, hown, HB⟩
          have c0 := own_at hown 0 (.string ⟨n.toArray⟩) rfl
          have c1 := own_at hown 1 (.int .i64 p) rfl
          have c2 := own_at hown 2 (.string ⟨n.toArray⟩) rfl
          have c3 := own_at hown 3 (.int .i64 p) rfl
          go_wp2_with fail
          go_quiet (fail)
          go_wp2_with fail
          go_ret2
          exact RetV.of (f := vBool) _ HE.out (tup2 (congrArg Value.bool HE2.out.symm) rfl) (below_drewN (below_of_alloc HB) _)
        · have hpq' : (p == q) = false := beq_eq_false_iff_ne.2 hpq
          have HE2 := Lib.hid (show (n == n && p == q) = false by rw [hpq']; simp)
          clear hpq
          go_enter Tryz.func20, Tryz.ntmps20
          go_wp2_with fail
          refine (splits2_ok HH.out HG.out _ hG1 hs ht (by simp) HC.out.1 HC.out.2).mono ?_
          rintro e w1 ⟨g, cap, rfl, hown, HB⟩
          have c0 := own_at hown 0 (.string ⟨n.toArray⟩) rfl
          have c1 := own_at hown 1 (.int .i64 p) rfl
          have c2 := own_at hown 2 (.string ⟨n.toArray⟩) rfl
          have c3 := own_at hown 3 (.int .i64 q) rfl
          go_wp2_with fail
          go_quiet (fail)
          go_wp2_with fail
          go_ret2
          exact RetV.of (f := vBool) _ HE.out (tup2 (congrArg Value.bool HE2.out.symm) rfl) (below_drewN (below_of_alloc HB) _)
      · have hnm' : (n == m) = false := beq_eq_false_iff_ne.2 hnm
        have HE2 := Lib.hid (show (n == m && p == q) = false by rw [hnm']; rfl)
        clear hnm
        go_enter Tryz.func20, Tryz.ntmps20
        go_wp2_with fail
        refine (splits2_ok HH.out HG.out _ hG1 hs ht (by simp) HC.out.1 HC.out.2).mono ?_
        rintro e w1 ⟨g, cap, rfl, hown, HB⟩
        have c0 := own_at hown 0 (.string ⟨n.toArray⟩) rfl
        have c1 := own_at hown 1 (.int .i64 p) rfl
        have c2 := own_at hown 2 (.string ⟨m.toArray⟩) rfl
        have c3 := own_at hown 3 (.int .i64 q) rfl
        go_wp2_with fail
        go_quiet (fail)
        go_wp2_with fail
        go_ret2
        exact RetV.of (f := vBool) _ HE.out (tup2 (congrArg Value.bool HE2.out.symm) rfl) (below_drewN (below_of_alloc HB) _)

set_option maxRecDepth 100000 in
theorem labels_any (s : ByteArray) (w : World) (hG : Good w) (hs : s.size ≤ 60000) :
    Calls Tryz.prog 32 #[.string s] w (RetLabels (hostLabels s.data.toList) w) := by
  have HC := Lib.hid (show (w.alloc (.cells #[.string s] 9)).cell? ⟨w.heap.size, 0, none⟩ = some (.string s) by rw [World.cell?_alloc_at _ _ _ _ rfl]; rfl)
  have hG1 := hG.next (one_below w (.cells #[.string s] 9))
  cases hh : hostSplit s.data.toList with
  | error x =>
    have hx := (err_ne hh).1
    rw [hostLabels_err hh]
    have HH := Lib.hid hh
    clear hh
    unfold RetLabels
    go_enter Tryz.func32, Tryz.ntmps32
    go_wp2_with fail
    refine (splits1_err HH.out _ hG1 hs (by simp) HC.out).mono ?_
    rintro e w1 ⟨rfl, HB⟩
    go_wp2_with fail
    go_ret2
    exact ⟨rfl, below_of_alloc HB⟩
  | ok a =>
    obtain ⟨n, p⟩ := a
    rw [hostLabels_ok hh]
    have hn : n.length ≤ 64 := (hostSplit_ok hh).2.2.1
    have HH := Lib.hid hh
    clear hh
    unfold RetLabels
    go_enter Tryz.func32, Tryz.ntmps32
    go_wp2_with fail
    refine (splits1_ok HH.out _ hG1 hs (by simp) HC.out).mono ?_
    rintro e w1 ⟨g, cap, rfl, hown, HB⟩
    have c0 := own_at hown 0 (.string ⟨n.toArray⟩) rfl
    have hG2 := hG1.next HB
    go_wp2_with fail
    refine (split_lib1 rfl (by omega) _ hG2).mono ?_
    rintro e w2 ⟨g2, cap2, rfl, hown2, HB2⟩
    go_wp2_with fail
    go_ret2
    have hB1 := below_of_alloc HB
    exact ⟨g2, cap2, rfl, own_mono hown2 hB1.size, hB1.trans (HB2.mono hB1.size)⟩

theorem itoa_any (n : Nat) (w : World) (hG : Good w) (hn : n ≤ 65535) :
    Calls Tryz.prog 101 #[.int .i64 n] w fun e w' => e = .returned (.string ⟨(Lib.itoa n).toArray⟩) ∧ Below w.heap.size w w' := by
  refine (Tryz.strconv_Itoa n (by omega) (by omega) w hG.pow).mono fun e w' h => ?_
  obtain ⟨h1, k, os, rfl⟩ := h
  exact ⟨h1, Lib.below_grow w.heap.size w (Nat.le_refl _) k os⟩
theorem contains_any (c : UInt8) (s : ByteArray) (w : World) (hG : Good w) (hs : s.size ≤ 60000) :
    Calls Tryz.prog 100 #[.string s, .string ⟨#[c]⟩] w fun e w' => e = .returned (.bool (cut1 c s.data.toList).2.2) ∧ w = w' := by
  obtain ⟨m, hm⟩ := hG.maxlen
  refine (Tryz.strings_Contains s ⟨#[c]⟩ m w (by omega) hm).mono fun e w' h => ?_
  rw [← contains_cut]
  exact ⟨h.1, h.2.symm⟩

set_option maxRecDepth 100000 in
set_option maxHeartbeats 800000 in
theorem join_any (s : ByteArray) (p : Int) (w : World) (hG : Good w) (hs : s.size ≤ 50000) :
    Calls Tryz.prog 34 #[.string s, .int .i64 p] w (RetV (vStr (hostJoin s.data.toList p)) w) := by
  have hs' : s.size ≤ 60000 := by omega
  cases hh : hostSplit s.data.toList with
  | error x =>
    have hx := (err_ne hh).1
    have HE := Lib.hid (show hostJoin s.data.toList p = .error x by unfold hostJoin; rw [hh])
    have HH := Lib.hid hh
    clear hh
    go_enter Tryz.func34, Tryz.ntmps34
    go_wp2_with (go_at_call 26; refine (split_err HH.out _ hG hs').mono ?_; rintro e w1 ⟨rfl, HB⟩)
    go_ret2
    exact RetV.of (f := vStr) _ HE.out rfl HB
  | ok r =>
    obtain ⟨n, p0⟩ := r
    have HJ := Lib.hid (show hostJoin s.data.toList p = if n.length ≠ s.data.toList.length then .error 3 else if p < 1 ∨ 65535 < p then .error 2 else hostWritten n p by unfold hostJoin; rw [hh])
    have HNo := Lib.hid (join_no hh)
    have HH := Lib.hid hh
    cases hc : (cut1 58 s.data.toList).2.2 with
    | true =>
      have HE := Lib.hid (show hostJoin s.data.toList p = .error 3 by rw [HJ.out, if_pos (HNo.out.1 hc)])
      clear hh
      go_enter Tryz.func34, Tryz.ntmps34
      go_wp2_with fail
      refine (split_ok HH.out _ hG hs').mono ?_
      rintro e w1 ⟨rfl, HB⟩
      have hG1 := hG.next HB
      go_wp2_with fail
      refine (contains_any 58 s _ hG1 hs').mono ?_
      rintro e w2 ⟨rfl, rfl⟩
      rw [hc]
      clear hc
      go_wp2_with fail
      go_ret2
      exact RetV.of (f := vStr) _ HE.out rfl HB
    | false =>
      have HJ2 := Lib.hid (show hostJoin s.data.toList p = if p < 1 ∨ 65535 < p then .error 2 else hostWritten n p by
        rw [HJ.out, if_neg (fun e => by have := HNo.out.2 e; rw [hc] at this; cases this)])
      have HCf := Lib.hid hc
      have HHN := Lib.hid (fun u h1 h2 => WrittenNormal (join_split hh hc u h1 h2))
      clear hh hc
      by_cases hp1 : p < 1
      · have HE := Lib.hid (show hostJoin s.data.toList p = .error 2 by rw [HJ2.out, if_pos (Or.inl hp1)])
        have hp1' : decide (p < 1) = true := by simp; omega
        go_enter Tryz.func34, Tryz.ntmps34
        go_wp2_with fail
        refine (split_ok HH.out _ hG hs').mono ?_
        rintro e w1 ⟨rfl, HB⟩
        have hG1 := hG.next HB
        go_wp2_with fail
        refine (contains_any 58 s _ hG1 hs').mono ?_
        rintro e w2 ⟨rfl, rfl⟩
        rw [HCf.out]
        go_wp2_with fail
        go_ret2
        exact RetV.of (f := vStr) _ HE.out rfl HB
      have hp1' : decide (p < 1) = false := by simp; omega
      by_cases hp2 : 65535 < p
      · have HE := Lib.hid (show hostJoin s.data.toList p = .error 2 by rw [HJ2.out, if_pos (Or.inr hp2)])
        have hp2' : decide (65535 < p) = true := by simp; omega
        go_enter Tryz.func34, Tryz.ntmps34
        go_wp2_with fail
        refine (split_ok HH.out _ hG hs').mono ?_
        rintro e w1 ⟨rfl, HB⟩
        have hG1 := hG.next HB
        go_wp2_with fail
        refine (contains_any 58 s _ hG1 hs').mono ?_
        rintro e w2 ⟨rfl, rfl⟩
        rw [HCf.out]
        go_wp2_with fail
        go_ret2
        exact RetV.of (f := vStr) _ HE.out rfl HB
      have hp2' : decide (65535 < p) = false := by simp; omega
      obtain ⟨u, rfl⟩ := Int.eq_ofNat_of_zero_le (show 0 ≤ p by omega)
      have hil := itoa_len u (by omega)
      have HN := Lib.hid (HHN.out u (by omega) (by omega))
      rw [HJ2.out, if_neg (by omega)]
      clear HHN HJ2 HJ HNo
      have hdat : (s ++ ⟨#[58]⟩ ++ ⟨(Lib.itoa (u : Int)).toArray⟩ : ByteArray).data.toList = s.data.toList ++ 58 :: Lib.itoa (u : Int) := by simp [ByteArray.data_append]
      have HD := Lib.hid hdat
      clear hdat
      go_enter Tryz.func34, Tryz.ntmps34
      go_wp2_with fail
      refine (split_ok HH.out _ hG hs').mono ?_
      rintro e w1 ⟨rfl, HB⟩
      have hG1 := hG.next HB
      go_wp2_with fail
      refine (contains_any 58 s _ hG1 hs').mono ?_
      rintro e w2 ⟨rfl, rfl⟩
      rw [HCf.out]
      go_wp2_with fail
      refine (itoa_any u _ hG1 (by omega)).mono ?_
      rintro e w3 ⟨rfl, HB3⟩
      have hG3 := hG1.next HB3
      go_wp2_with fail
      have HZ := normal_any (s ++ ⟨#[58]⟩ ++ ⟨(Lib.itoa (u : Int)).toArray⟩) w3 hG3 (by rw [ByteArray.size_append, ByteArray.size_append]; have := size_mk (Lib.itoa (u : Int)); show s.size + 1 + (⟨(Lib.itoa (u : Int)).toArray⟩ : ByteArray).size ≤ 60000; omega)
      rw [HD.out, HN.out] at HZ
      have HB4 := HB.trans (HB3.mono HB.size)
      cases hw : hostWritten n u with
      | error x =>
        refine (strErr HZ hw).mono ?_
        rintro e w4 ⟨rfl, HB5⟩
        clear HZ
        go_wp2_with fail
        go_ret2
        exact RetV.of (f := vStr) _ hw rfl (HB4.trans (HB5.mono HB4.size))
      | ok m =>
        refine (strOk HZ hw).mono ?_
        rintro e w4 ⟨rfl, HB5⟩
        clear HZ
        go_wp2_with fail
        go_ret2
        exact RetV.of (f := vStr) _ hw rfl (HB4.trans (HB5.mono HB4.size))
end Go.Proofs.YteigjobliflkdaaGreatDoor
namespace Go.Proofs.YteigjobliflkdaaGreatDoor
open Go.RowKit Go.Shelf

attribute [local go_sem] Oper.semAt_some

/-- What has come when k rounds are over: f 0, .., f (k - 1). -/
def upto {α : Type} (f : Nat → α) (k : Nat) : List α := (List.range k).map f
theorem upto_succ {α : Type} (f : Nat → α) (k : Nat) : upto f (k + 1) = upto f k ++ [f k] := by simp [upto, List.range_succ]
theorem upto_length {α : Type} (f : Nat → α) (k : Nat) : (upto f k).length = k := by simp [upto]

/-- The element of round j: the last one first. -/
def backAt (xs : List (List UInt8)) (j : Nat) : Int × ByteArray := ((xs.length : Int) - 1 - j, ⟨(xs[xs.length - 1 - j]?.getD []).toArray⟩)

/-- The two blocks that the iterator reads lie as they lay. -/
def Two (b Bs : Nat) (A C : World) : Prop := C.heap[b]? = A.heap[b]? ∧ C.heap[Bs]? = A.heap[Bs]?
theorem Two.refl (b Bs : Nat) (A : World) : Two b Bs A A := ⟨rfl, rfl⟩
theorem Two.trans {b Bs : Nat} {A B C : World} (h : Two b Bs A B) (k : Two b Bs B C) : Two b Bs A C := ⟨k.1.trans h.1, k.2.trans h.2⟩
theorem Two.cell {b Bs : Nat} {A C : World} (h : Two b Bs A C) (j : Nat) : C.cell? ⟨b, j, none⟩ = A.cell? ⟨b, j, none⟩ := by unfold World.cell?; simp only [h.1]
theorem Two.cell' {b Bs : Nat} {A C : World} (h : Two b Bs A C) (j : Nat) : C.cell? ⟨Bs, j, none⟩ = A.cell? ⟨Bs, j, none⟩ := by unfold World.cell?; simp only [h.2]
theorem Two.put {b Bs : Nat} {w : World} (hb : b < w.heap.size) (hs : Bs < w.heap.size) (W : World) (l : Nat) (o o' : Obj) (hl : w.heap.size ≤ l) (h : W.heap[l]? = some o) (_ : o.isCells = false) (_ : o.isWalk = false) : Two b Bs W (W.putObj l o') :=
  ⟨(grownBy_putObj' W l o').block b (by have := (Array.getElem?_eq_some_iff.1 h).1; omega) (by simp; omega), (grownBy_putObj' W l o').block Bs (by have := (Array.getElem?_eq_some_iff.1 h).1; omega) (by simp; omega)⟩
theorem Two.of_below {n₀ b Bs : Nat} {A C : World} (hb : b < n₀) (hs : Bs < n₀) (h : Below n₀ A C) : Two b Bs A C := ⟨h.block b hb, h.block Bs hs⟩

set_option maxRecDepth 100000 in
set_option maxHeartbeats 2000000 in
theorem back1_in (F : Fence) (n : Nat) (h8 : F.fn 169) (hro : F.round = none) (hn : 1 ≤ n) (l Bs b cap : Nat) (xs : List (List UInt8)) (hlen : xs.length ≤ 100000) (J Jx : List (Int × ByteArray) → World → Prop)
    (hY : ∀ pre x W, J pre W → pre.length < xs.length → YieldAt F (n - 1) Tryz.prog l #[.int .i64 x.1, .string x.2] W fun e W' =>
      (e = .returned (.bool true) ∧ J (pre ++ [x]) W' ∧ Two b Bs W W') ∨ (e = .returned (.bool false) ∧ Jx (pre ++ [x]) W'))
    (W : World) (hBs : W.cell? ⟨Bs, 0, none⟩ = some (.slice (some ⟨b, 0, none⟩) xs.length cap)) (hc : ∀ j, j < xs.length → W.cell? ⟨b, j, none⟩ = some (.string ⟨(xs[j]?.getD []).toArray⟩)) (h0 : J [] W) :
    CallsIn F n Tryz.prog 169 #[.func (.yield l) #[] #[], .pointer (some ⟨Bs, 0, none⟩)] W fun e W' => (∃ v, e = .returned v) ∧
      ((∃ ys, ys = upto (backAt xs) xs.length ∧ J ys W') ∨ (∃ pre, (∃ k, k ≤ xs.length ∧ pre = upto (backAt xs) k) ∧ Jx pre W')) := by
  have HC := Lib.hid hc
  clear hc
  refine callsIn_of_wp Tryz.func169 rfl h8 ?_ hro
  simp only [Tryz.ntmps169, List.size_toArray, List.length_cons, List.length_nil, Nat.reduceAdd, Nat.reduceSub, Array.replicate_succ, Array.replicate_zero, List.push_toArray, List.append_toArray, List.nil_append, List.cons_append]
  gi_wp2
  gi_loopw [3] (fun i wr => ∃ k : Nat, k ≤ xs.length ∧ i = .int .i64 ((xs.length : Int) - 1 - k) ∧ J (upto (backAt xs) k) wr ∧ Two b Bs W wr)
    (fun i _ => (intOf i + 1).toNat)
  case atStart => exact ⟨0, Nat.zero_le _, by simp, h0, Two.refl _ _ _⟩
  case round =>
    obtain ⟨k, hk, rfl, hJs, hnx⟩ := hrel
    by_cases hlt : k < xs.length
    · obtain ⟨fn, tmps, assign, body, hy, hR⟩ := hY _ (backAt xs k) wr hJs (by rw [upto_length]; exact hlt)
      unfold backAt at hy
      dsimp only at hy
      have hcx := (hnx.cell _).trans (HC.out (xs.length - 1 - k) (by omega))
      have hbx := (hnx.cell' _).trans hBs
      clear hBs
      gi_wp2
      refine hR.mono ?_
      rintro e W3 (⟨rfl, hJ3, hk3⟩ | ⟨rfl, hJx3⟩)
      · gi_wp2
        go_roundw
        case rel => exact ⟨k + 1, by omega, congrArg (Value.int .i64) (by omega), by rw [upto_succ]; exact hJ3, hnx.trans hk3⟩
        case measure => (simp [intOf]; try omega)
      · gi_wp2
        refine bodyPost_ret (results_none rfl _ _ _) rfl ?_
        exact ⟨⟨_, rfl⟩, .inr ⟨_, ⟨k + 1, by omega, (upto_succ _ _).symm⟩, hJx3⟩⟩
    · obtain rfl : k = xs.length := by omega
      gi_wp2
      go_end0
      exact ⟨⟨_, rfl⟩, .inl ⟨_, rfl, hJs⟩⟩

set_option maxHeartbeats 1000000 in
theorem back_in (F : Fence) (n : Nat) (h5 : F.fn 130) (hro : F.round = none) (a : Option Addr) (len cap : Nat) (w : World) :
    CallsIn F n Tryz.prog 130 #[.slice a len cap] w fun e w' => e = .returned (.func (.func 169) #[] #[.pointer (some ⟨w.heap.size, 0, none⟩)]) ∧ w' = w.alloc (.cells #[.slice a len cap] 34) := by
  refine callsIn_of_wp Tryz.func130 rfl h5 ?_ hro
  simp only [Tryz.ntmps130, List.size_toArray, List.length_cons, List.length_nil, Nat.reduceAdd, Nat.reduceSub, Array.replicate_succ, Array.replicate_zero, List.push_toArray, List.append_toArray, List.nil_append, List.cons_append]
  gi_wp2
  go_ret
  exact ⟨rfl, rfl⟩

theorem back_stops (F : Fence) (n : Nat) (h7 : F.fn 169) (hro : F.round = none) (hn : 1 ≤ n) (Bs b cap : Nat) (xs : List (List UInt8)) (hlen : xs.length ≤ 100000) (w : World) (hb : b < w.heap.size) (hBs : Bs < w.heap.size)
    (hc : w.cell? ⟨Bs, 0, none⟩ = some (.slice (some ⟨b, 0, none⟩) xs.length cap)) (hI : ∀ j, j < xs.length → w.cell? ⟨b, j, none⟩ = some (.string ⟨(xs[j]?.getD []).toArray⟩)) :
    SeqStopsK F n Tryz.prog 169 #[.pointer (some ⟨Bs, 0, none⟩)] (fun x : Int × ByteArray => #[Value.int .i64 x.1, .string x.2]) (Two b Bs) (fun ys => ys = upto (backAt xs) xs.length) (fun _ => True) xs.length w := fun l J Jx W hW _ _ hY h0 => by
  have hW' := Two.of_below hb hBs hW
  refine (back1_in F n h7 hro hn l Bs b cap xs hlen J Jx hY W ((hW'.cell' 0).trans hc) (fun j hj => (hW'.cell j).trans (hI j hj)) h0).mono ?_
  rintro e W' ⟨he, ⟨ys, rfl, hj⟩ | ⟨pre, _, hj⟩⟩
  · exact ⟨he, .inl ⟨_, rfl, hj⟩⟩
  · exact ⟨he, .inr ⟨_, trivial, hj⟩⟩

/-- What backwards collects. -/
def outOf (pre : List (Int × ByteArray)) : List Value := pre.map fun x => Value.string x.2
theorem outOf_all (xs : List (List UInt8)) : outOf (upto (backAt xs) xs.length) = xs.reverse.map S := by
  apply List.ext_getElem
  · simp [outOf, upto]
  · intro i h1 h2
    have hi : i < xs.length := by simpa [outOf, upto] using h1
    simp [outOf, upto, backAt, S, List.getElem_reverse]
    rw [List.getElem?_eq_getElem (by omega)]; rfl
end Go.Proofs.YteigjobliflkdaaGreatDoor
namespace Go.Proofs.YteigjobliflkdaaGreatDoor
open Go.RowKit Go.Shelf
attribute [local go_sem] Oper.semAt_some

theorem grown_two {W w1 : World} {o : Obj} {row : Option Nat} {b Bs B : Nat} {v : Value} (hg : (W.alloc o).grownBy w1 row) (hb : b < W.heap.size) (hs : Bs < W.heap.size) (h1 : some b ≠ row) (h2 : some Bs ≠ row) (h3 : b ≠ B) (h4 : Bs ≠ B) :
    Two b Bs W (w1.setCell ⟨B, 0, none⟩ v) := by
  refine ⟨?_, ?_⟩
  · rw [Below.heap_setCell _ _ _ b (by simpa using h3), hg.block b (by simp; omega) h1]
    exact Below.heap_alloc _ _ _ (by omega)
  · rw [Below.heap_setCell _ _ _ Bs (by simpa using h4), hg.block Bs (by simp; omega) h2]
    exact Below.heap_alloc _ _ _ (by omega)

theorem row_ne {W : World} {B e size : Nat} {v : Value} {k : Nat} {xs : List Value} (h : W.ownsRow B e size v k xs) {b : Nat} (hb : b < B) : some b ≠ v.ownBlock := by
  rcases h.2 with ⟨rfl, _⟩ | ⟨g, cap, cur, rfl, hg, _, _⟩
  · simp [Value.ownBlock]
  · intro e; simp [Value.ownBlock] at e; omega

theorem own_below2 {w : World} {B e size g n cap : Nat} {xs : List Value} (h : w.ownsRow B e size (.slice (some ⟨g, 0, none⟩) n cap) n xs) : B ≤ g ∧ g < w.heap.size := by
  rcases h.2 with ⟨h0, _⟩ | ⟨g', cap', cur, h0, hg, hb, _⟩
  · cases h0
  · cases h0; exact ⟨hg, (Array.getElem?_eq_some_iff.1 hb).1⟩
theorem own_size {β : Type} {B m : Nat} : OwnFrom B (fun (_ : β) W => m ≤ W.heap.size) := fun _ _ _ _ hs hg _ => Nat.le_trans hs hg.size
theorem und34 : Tryz.prog.underlying 34 = some (.slice 9) := by kernel_rfl
theorem upto_len2 (xs : List (List UInt8)) : (outOf (upto (backAt xs) xs.length)).length = xs.length := by simp [outOf, upto]

set_option maxRecDepth 100000 in
set_option maxHeartbeats 3000000 in
theorem backwards_in (s : ByteArray) (w : World) (hG : Good w) (hs : s.size ≤ 60000) :
    CallsIn Fence.wide 3 Tryz.prog 86 #[.string s] w fun e W' => ∃ v, e = .returned v ∧ W'.ownsRow w.heap.size 9 1 v (segs 46 s.data.toList).length ((segs 46 s.data.toList).reverse.map S) ∧ Below w.heap.size w W' := by
  obtain ⟨xs, hxs⟩ : ∃ xs, segs 46 s.data.toList = xs := ⟨_, rfl⟩
  have hxl : xs.length ≤ 60001 := by rw [← hxs]; have := segs_le 46 s.data.toList; rw [size_len] at this; omega
  rw [hxs]
  obtain ⟨i0, hi, hz0, hz1, hz2⟩ := info_parts info9
  have hB00 : Below w.heap.size w (w.alloc (.cells #[.slice none 0 0] 34)) := (Below.refl _ w).alloc (Nat.le_refl _) _
  have bO0 := Boxed.new w 34 (.slice none 0 0)
  have hs0 : w.heap.size < (w.alloc (.cells #[.slice none 0 0] 34)).heap.size := by simp
  refine callsIn_of_wp_marks Tryz.func86 rfl trivial ?_ rfl
  simp only [Tryz.ntmps86, List.size_toArray, List.length_cons, List.length_nil, Nat.reduceAdd, Nat.reduceSub, Array.replicate_succ, Array.replicate_zero, List.push_toArray, List.append_toArray, List.nil_append, List.cons_append]
  obtain ⟨w0, hw0⟩ : ∃ w0, w.alloc (.cells #[.slice none 0 0] 34) = w0 := ⟨_, rfl⟩
  have hG0 : Good w0 := by rw [← hw0]; exact hG.next hB00
  rw [hw0] at hs0 hB00 bO0
  have h92 : Fence.wide.fn 92 := trivial
  have h130 : Fence.wide.fn 130 := trivial
  have h169 : Fence.wide.fn 169 := trivial
  have hS := split_lib1 (n := s.data.toList) hxs (by rw [size_len]; exact hs) w0 hG0
  rw [bs_mk] at hS
  gi_wp2_with (first | (gi_at_call 92; refine (callsIn_wide.2 hS).mono ?_; rintro e w1 ⟨gg, cap, rfl, hown, hB1⟩) | (gi_at_call 130; refine (back_in Fence.wide 2 h130 rfl _ _ _ _).mono ?_; rintro e w2 ⟨rfl, hw2⟩))
  obtain ⟨hgl, hgh⟩ := own_below2 hown
  have hsz2 : w2.heap.size = w1.heap.size + 1 := by rw [hw2]; simp
  have bN : Boxed w2 w1.heap.size 34 (.slice (some ⟨gg, 0, none⟩) xs.length cap) := by rw [hw2]; exact Boxed.new w1 34 _
  have hB12 : Below w1.heap.size w1 w2 := by rw [hw2]; exact one_below _ _
  have h01 : w0.heap.size ≤ w1.heap.size := hB1.size
  have h00 : w0.heap.size = w.heap.size + 1 := by rw [← hw0]; simp
  have hB02 : Below w.heap.size w w2 := (hB00.trans (hB1.mono (by omega))).trans (hB12.mono (by omega))
  have bO2 : Boxed w2 w.heap.size 34 (.slice none 0 0) := by
    unfold Boxed at bO0 ⊢
    rw [hB12.block _ (by omega), hB1.block _ (by omega)]; exact bO0
  have hcells : ∀ j, j < xs.length → w2.cell? ⟨gg, j, none⟩ = some (.string ⟨(xs[j]?.getD []).toArray⟩) := fun j hj => (hB12.cell (p := ⟨gg, j, none⟩) (by exact hgh)).trans (own_cell hown j hj rfl)
  have hgg : gg < w2.heap.size := by omega
  have hbs : w1.heap.size < w2.heap.size := by omega
  rw [← hw2]
  refine wpIn_rangeFunc_ownG rfl (by omega) (gf := 169) (lb := #[.pointer (some ⟨w1.heap.size, 0, none⟩)]) rfl h169 (enters_of Tryz.func169 (by kernel_rfl) rfl)
    (back_stops Fence.wide 2 h169 rfl (by omega) w1.heap.size gg cap xs (by omega) w2 hgg hbs bN.cell hcells) Two.trans (Two.put hgg hbs) (Below.refl _ _) (fun _ => rfl)
    (fun pre W => (∃ v, Boxed W w.heap.size 34 v ∧ W.ownsRow w2.heap.size 9 1 v (outOf pre).length (outOf pre) ∧ True) ∧ Below w.heap.size w W ∧ w2.heap.size ≤ W.heap.size)
    (fun _ _ _ => False)
    (OwnFrom.and (Own.from (holdsRow_own w2.heap.size w.heap.size 34 9 1 (fun pre => (outOf pre).length) (fun pre => outOf pre) (fun _ _ => True)) _) (OwnFrom.and (ownFrom_below (Nat.le_refl _) (by omega)) own_size))
    (fun _ _ _ _ _ hs _ _ => hs)
    ⟨⟨_, bO2, World.ownsRow_nil _ _ _ _, trivial⟩, hB02, Nat.le_refl _⟩
    (fun x => { tmps := #[.string s, undef, .slice none 0 0, .pointer (some ⟨w.heap.size, 0, none⟩), undef, .string x.2, .string s, .slice (some ⟨gg, 0, none⟩) xs.length cap, .func (.func 169) #[] #[.pointer (some ⟨w1.heap.size, 0, none⟩)], .int .i64 x.1, .string x.2, undef, undef, undef, undef, undef], defers := [] }) ?assign ?body ?done ?stop
  case assign =>
    intro l x W K hK
    gi_wp2
    exact hK
  case body =>
    rintro l pre x W ⟨⟨v, hv, hrow, _⟩, hB, hWs⟩ hlt
    have hc := hv.cell
    have hpl : (outOf pre).length = pre.length := by simp [outOf]
    have hmx : (outOf pre).length + 1 ≤ maxLen := Nat.le_trans (show (outOf pre).length + 1 ≤ 60001 by omega) (by decide)
    have hmy : ((outOf pre).length + 1) * 16 ≤ 140737488355328 := by omega
    clear hpl
    gi_wp2_with (gi_at_builtin; refine wpListIn_append_own _ rfl _ _ 34 rfl w2.heap.size 9 i0 (.string ByteArray.empty) 1 16 und34 hi hz0 hz1 hz2 rfl (by decide) _ _ _ rfl (hrow.alloc _) ⟨W.heap.size, 0, none⟩ 1 1 [.string x.2] rfl rfl (cell_one_new _ _ _) (by simp [Value.oneCell']) hmx hmy (by have := hB.size; simp; omega) ?_; intro v' w3 hown' hgrow _; obtain ⟨g', cap', rfl⟩ := ownsRow_succ hown'; obtain ⟨hv1, hv2, hr2, hk2, hb2⟩ := hv.appended (by decide) (own_mono hrow (by omega)) (by omega) (Nat.le_refl _) (own_mono hown' (by omega)) hgrow; have hr3 := hown'.kept (grownBy_setCell' w3 w.heap.size (.slice (some ⟨g', 0, none⟩) ((outOf pre).length + 1) cap')) (.inr (hv1.not_row (by decide) hown').symm); have hc1 := hv1.cell; have hf1 := hv1.frozen)
    exact ⟨hk2.from _, grown_two hgrow (by omega) (by omega) (row_ne hrow (by omega)) (row_ne hrow (by omega)) (by omega) (by omega), ⟨⟨_, hv2, by rw [show outOf (pre ++ [x]) = outOf pre ++ [.string x.2] by simp [outOf]]; simpa using hr3, trivial⟩, hB.trans hb2, Nat.le_trans hWs hb2.size⟩⟩
  case done =>
    rintro D ys W hD rfl ⟨⟨v, hv, hrow, _⟩, hB, hWs⟩ hK
    have hc := hv.cell
    gi_wp2
    refine ⟨by simp, .inl ⟨_, _, rfl, run_takeDeferred hK, ?_⟩⟩
    rw [upto_len2, outOf_all] at hrow
    exact ⟨_, results_tmp rfl _ _ _, v, rfl, ownsRow_putObj (own_mono hrow (by omega)) _ hK rfl, hB.trans (belowK_b (w := w) (Nat.le_refl _) W D _ _ (by omega) hK rfl rfl)⟩
  case stop =>
    rintro D c pre W _ _ h _
    exact h.elim

/-- backwards: the labels, the last one first, in a slice of its own. -/
theorem backwards_any {s : ByteArray} {A : List (List UInt8)} (hA : segs 46 s.data.toList = A) (w : World) (hG : Good w) (hs : s.size ≤ 60000) :
    Calls Tryz.prog 86 #[.string s] w fun e w' => ∃ g cap, e = .returned (.slice (some ⟨g, 0, none⟩) A.length cap) ∧ w'.ownsRow w.heap.size 9 1 (.slice (some ⟨g, 0, none⟩) A.length cap) A.length (A.reverse.map S) ∧ Below w.heap.size w w' := by
  subst hA
  refine (callsIn_wide.1 (backwards_in s w hG hs)).mono fun e w' ⟨v, he, hown, hB⟩ => ?_
  rcases hown.2 with ⟨_, h0⟩ | ⟨g, cap, _, rfl, _⟩
  · have := segs_ne 46 s.data.toList
    exact absurd (List.length_eq_zero_iff.1 h0) this
  · exact ⟨g, cap, he, hown, hB⟩
end Go.Proofs.YteigjobliflkdaaGreatDoor
/- A loop over an iterator that writes a box of its own (dots.pieces): the law, and the iterator's contract. -/
namespace Go.Proofs.YteigjobliflkdaaGreatDoor
open Go.RowKit Go.Shelf
attribute [local go_sem] Oper.semAt_some

/-- The contract of an iterator that writes the box Bp: what the caller keeps in mind does not speak of that box. -/
def SeqBox {α : Type} (n : Nat) (g : Nat) (lb : Array Value) (encs : α → Array Value) (Bp : Nat) (S Sp : List α → Prop) (N : Nat) (w : World) : Prop :=
  ∀ (l : Nat) (J Jx : List α → World → Prop) (W : World), Below w.heap.size w W → AbidesFrom W.heap.size J → AbidesFrom W.heap.size Jx →
    (∀ s W v, J s W → J s (W.setCell ⟨Bp, 0, none⟩ v)) → (∀ s W v, Jx s W → Jx s (W.setCell ⟨Bp, 0, none⟩ v)) →
    (∀ pre x W1, J pre W1 → pre.length < N → YieldAt Fence.wide (n - 1) Tryz.prog l (encs x) W1 fun e W' =>
      (e = .returned (.bool true) ∧ J (pre ++ [x]) W' ∧ Two 0 Bp W1 W') ∨ (e = .returned (.bool false) ∧ Jx (pre ++ [x]) W')) →
    J [] W →
    CallsIn Fence.wide n Tryz.prog g (#[.func (.yield l) #[] #[]] ++ lb) W fun e W' => (∃ v, e = .returned v) ∧ ((∃ xs, S xs ∧ J xs W') ∨ (∃ pre, Sp pre ∧ Jx pre W'))

/-- How a round may be left. -/
def boxPost {α : Type} (B Bp : Nat) (I Ix : List α → World → Prop) (xs : List α) (W : World) : Exit → Act → World → Prop
  | .normal, _, W' => KeepsFrom B W W' ∧ Two 0 Bp W W' ∧ I xs W'
  | .ret, _, W' => KeepsFrom B W W' ∧ Ix xs W'
  | _, _, _ => False

theorem setCell_other {W : World} {B k : Nat} (h : k ≠ B) (v : Value) : (W.setCell ⟨B, 0, none⟩ v).heap[k]? = W.heap[k]? := Below.heap_setCell W ⟨B, 0, none⟩ v k h

set_option maxHeartbeats 1000000 in
theorem rangeBox {α : Type} {g : Operand} {ps : Array Tmp} {assign body : Code} {Q : Exit → Act → World → Prop} {a : Act} {w : World} {n : Nat}
    (h1 : 1 ≤ n) {gf : Nat} {lb : Array Value} (hg : a.eval g = .func (.func gf) #[] lb) (eg : ∀ args w, (callFunc gf args).run Tryz.prog w = .ok (.enter gf args) w)
    {encs : α → Array Value} {Bp : Nat} {S Sp : List α → Prop} {N : Nat} (hp : Bp < w.heap.size) (hp0 : 0 < w.heap.size) (hseq : SeqBox (n - 1) gf lb encs Bp S Sp N w) (hps : ∀ x, (encs x).size = ps.size)
    (I Ix : List α → World → Prop) (hI : OwnFrom w.heap.size I) (hIx : OwnFrom w.heap.size Ix) (hIs : ∀ s W v, I s W → I s (W.setCell ⟨Bp, 0, none⟩ v)) (hIxs : ∀ s W v, Ix s W → Ix s (W.setCell ⟨Bp, 0, none⟩ v)) (h0 : I [] w) (a₁ : α → Act)
    (hassign : ∀ (l : Nat) (x : α) (W : World) (K : Act → World → Prop), K (a₁ x) W →
      assign.wpIn (Fence.wide.inRound l) (n - 1 - 1) Tryz.prog (Exit.then K (fun _ _ _ => False)) { tmps := (ps.zip (encs x)).foldl (fun t (p, v) => t.setIfInBounds p v) a.tmps, defers := [] } W)
    (hbody : ∀ (l : Nat) (pre : List α) (x : α) (W : World), I pre W → pre.length < N → body.wpIn (Fence.wide.inRound l) (n - 1 - 1) Tryz.prog (boxPost w.heap.size Bp I Ix (pre ++ [x]) W) (a₁ x) W)
    (hdone : ∀ (D : Nat) (xs : List α) (W : World), w.heap.size ≤ D → S xs → I xs W → W.heap[D]? = some (.deferred (some [])) → Q .normal { a with defers := { target := .collected D, args := #[] } :: a.defers } W)
    (hstop : ∀ (D : Nat) (pre : List α) (W : World), w.heap.size ≤ D → Sp pre → Ix pre W → W.heap[D]? = some (.deferred (some [])) → Code.wpIn Fence.wide n Tryz.prog .ret Q { a with defers := { target := .collected D, args := #[] } :: a.defers } W) :
    (Code.rangeFunc g ps assign body).wpIn Fence.wide n Tryz.prog Q a w := by
  obtain ⟨s, hs⟩ : ∃ s, w.heap.size = s := ⟨_, rfl⟩
  refine wpIn_rangeFunc fun fn hfn => ?_
  obtain ⟨rec, hrec⟩ : ∃ rec : LoopState → Option Code → Loop, rec = fun st pe => { state := st, pending := pe, fn, tmps := a.tmps, params := ps, assign, body, defers := s } := ⟨_, rfl⟩
  obtain ⟨W1, hW1⟩ : ∃ W1, (w.alloc (.deferred (some []))).alloc (.loop (rec .ready none)) = W1 := ⟨_, rfl⟩
  have hL1 : W1.heap[s + 1]? = some (.loop (rec .ready none)) := by
    rw [← hW1, ← hs]; have := World.alloc_heap_new (w.alloc (.deferred (some []))) (.loop (rec .ready none)); rwa [World.size_alloc] at this
  have hK1 : W1.heap[s]? = some (.deferred (some [])) := by
    rw [← hW1, ← hs]; exact (Below.heap_alloc _ _ _ (by simp)).trans (World.alloc_heap_new w _)
  have hI1 : I [] W1 := by rw [← hW1]; exact hI.alloc _ (hI.alloc _ h0)
  have hb1 : Below w.heap.size w W1 := by
    rw [← hW1]; exact ((Below.refl _ w).alloc (Nat.le_refl _) _).alloc (by simp) _
  have hsz : W1.heap.size = s + 2 := by rw [← hW1, ← hs]; simp
  rw [hs] at hI hIx hbody hdone hstop hp hp0
  refine ⟨s + 1, [{ target := .collected s, args := #[] }], W1, { target := .fn (.func gf) lb, args := #[.func (.yield (s + 1)) #[] #[]] }, W1, gf,
    #[.func (.yield (s + 1)) #[] #[]] ++ lb, W1, ?_, ?_, ?_, ?_, fun _ => h1, ?_⟩
  · rw [← hW1, hrec, ← hs]; exact run_enterLoop_outer _ _ _ _ _
  · simp only [resolve, hg]
    simp [go_sem]
  · intro f' hf'; exact trivial
  · simp [invoke, go_sem, eg]
  · have same1 : ∀ (W : World) (v : Value), (W.setCell ⟨Bp, 0, none⟩ v).heap[s + 1]? = W.heap[s + 1]? := fun W v => setCell_other (by omega) v
    have same0 : ∀ (W : World) (v : Value), (W.setCell ⟨Bp, 0, none⟩ v).heap[s]? = W.heap[s]? := fun W v => setCell_other (by omega) v
    have hnw : ∀ {A : World} {row : Option Nat}, (∀ r, row = some r → W1.heap.size ≤ r ∧ ∃ o : Obj, A.heap[r]? = some o ∧ o.isWalk = true) → (∀ r, row = some r → s ≤ r ∧ ∃ o : Obj, A.heap[r]? = some o ∧ o.isCells = false) :=
      fun hr r e => by obtain ⟨hB, o, ho, hw⟩ := hr r e; exact ⟨by omega, o, ho, Obj.not_cells_of_walk hw⟩
    refine (hseq (s + 1)
      (fun pre W => I pre W ∧ W.heap[s + 1]? = some (.loop (rec .ready none)) ∧ W.heap[s]? = some (.deferred (some [])))
      (fun pre W => Ix pre W ∧ W.heap[s + 1]? = some (.loop (rec .done (some .ret))) ∧ W.heap[s]? = some (.deferred (some [])))
      W1 hb1
      (fun t A B row ht hg' hr => ⟨hI t A B row ht.1 hg' (hnw hr), (grownBy_keeps hg' (fun r e => (hr r e).2) ht.2.1 rfl).trans ht.2.1, (grownBy_keeps hg' (fun r e => (hr r e).2) ht.2.2 rfl).trans ht.2.2⟩)
      (fun t A B row ht hg' hr => ⟨hIx t A B row ht.1 hg' (hnw hr), (grownBy_keeps hg' (fun r e => (hr r e).2) ht.2.1 rfl).trans ht.2.1, (grownBy_keeps hg' (fun r e => (hr r e).2) ht.2.2 rfl).trans ht.2.2⟩)
      (fun t A v ht => ⟨hIs t A v ht.1, (same1 A v).trans ht.2.1, (same0 A v).trans ht.2.2⟩)
      (fun t A v ht => ⟨hIxs t A v ht.1, (same1 A v).trans ht.2.1, (same0 A v).trans ht.2.2⟩)
      ?_ ⟨hI1, hL1, hK1⟩).mono ?_
    · rintro pre x W ⟨hi, hl, hk⟩ hlen
      have hlt : s + 1 < W.heap.size := (Array.getElem?_eq_some_iff.1 hl).1
      have hy := run_yield (P := Tryz.prog) (args := encs x) hl (by rw [hrec]; exact hps x)
      rw [hrec] at hy
      refine ⟨fn, _, assign, body, hy, roundIn_of_wpIn hfn (hassign _ x W _ ⟨_, run_beginRound hl (by rw [hrec]), ?_⟩)⟩
      obtain ⟨W2, hW2⟩ : ∃ W2, W.putObj (s + 1) (.loop { rec .ready none with state := .busy }) = W2 := ⟨_, rfl⟩
      have hl2 : W2.heap[s + 1]? = some (.loop { rec .ready none with state := .busy }) := by rw [← hW2]; exact World.putObj_heap_same hlt
      have hk2 : W2.heap[s]? = some (.deferred (some [])) := by rw [← hW2]; exact (World.putObj_heap_other (by omega)).trans hk
      have hw2 : Two 0 Bp W W2 := by rw [← hW2]; exact ⟨World.putObj_heap_other (by omega), World.putObj_heap_other (by omega)⟩
      have hi2 : I pre W2 := by rw [← hW2]; exact hI.putObj _ hi (by omega) hl rfl
      rw [hW2]
      refine wpIn_mono (hbody _ pre x _ hi2 hlen) ?_
      have fin : ∀ (jump : Option Code) (W3 : World), KeepsFrom s W2 W3 →
          (Instr.endRound (s + 1) jump).run Tryz.prog W3 = .ok (.bool jump.isNone) (W3.putObj (s + 1) (.loop (rec (if jump.isNone then .ready else .done) jump))) ∧
          W3.heap[s + 1]? = some (.loop { rec .ready none with state := .busy }) ∧
          (W3.putObj (s + 1) (.loop (rec (if jump.isNone then .ready else .done) jump))).heap[s + 1]? = some (.loop (rec (if jump.isNone then .ready else .done) jump)) ∧
          (W3.putObj (s + 1) (.loop (rec (if jump.isNone then .ready else .done) jump))).heap[s]? = some (.deferred (some [])) := fun jump W3 hk3 => by
        have hl3 := hk3.same _ _ (by omega) hl2 rfl
        have := run_endRound (P := Tryz.prog) jump hl3
        rw [hrec] at this ⊢
        exact ⟨this, by rw [hrec] at hl3; exact hl3, World.putObj_heap_same (Array.getElem?_eq_some_iff.1 hl3).1, (World.putObj_heap_other (by omega)).trans (hk3.same _ _ (Nat.le_refl _) hk2 rfl)⟩
      rintro e a3 W3 hpost
      cases e with
      | normal =>
        obtain ⟨hk3, hkp3, hi3⟩ := hpost
        obtain ⟨hr, hl3, hl4, hk4⟩ := fin none W3 hk3
        exact ⟨_, _, hr, .inl ⟨rfl, ⟨hI.putObj _ hi3 (by omega) hl3 rfl, hl4, hk4⟩, (hw2.trans hkp3).trans ⟨World.putObj_heap_other (by omega), World.putObj_heap_other (by omega)⟩⟩⟩
      | ret =>
        obtain ⟨hk3, hi3⟩ := hpost
        obtain ⟨hr, hl3, hl4, hk4⟩ := fin (some .ret) W3 hk3
        exact ⟨_, _, hr, .inr ⟨rfl, hIx.putObj _ hi3 (by omega) hl3 rfl, hl4, hk4⟩⟩
      | exit id => exact hpost.elim
      | goto t => exact hpost.elim
      | panic ch => exact hpost.elim
      | outgrown => exact hpost.elim
    · rintro e W2 ⟨⟨v, rfl⟩, (⟨xs, hS, hi, hl, hk⟩ | ⟨pre, hSp, hi, hl, hk⟩)⟩
      · exact ⟨none, _, by have := run_endLoop (P := Tryz.prog) hl (by rw [hrec]; simp); rw [hrec] at this; exact this, hdone _ xs _ (Nat.le_refl _) hS (hI.putObj _ hi (by omega) hl rfl) ((World.putObj_heap_other (by omega)).trans hk)⟩
      · exact ⟨some .ret, _, by have := run_endLoop (P := Tryz.prog) hl (by rw [hrec]; simp); rw [hrec] at this; exact this, hstop _ pre _ (Nat.le_refl _) hSp (hIx.putObj _ hi (by omega) hl rfl) ((World.putObj_heap_other (by omega)).trans hk)⟩

/-! What pieces yields -/
def pieceL : List (List UInt8) → List (ByteArray × Bool)
  | [] => []
  | [a] => [(⟨a.toArray⟩, true)]
  | a :: b :: r => (⟨a.toArray⟩, false) :: pieceL (b :: r)
theorem pieceL_length : ∀ L : List (List UInt8), (pieceL L).length = L.length
  | [] => rfl
  | [a] => rfl
  | a :: b :: r => by have := pieceL_length (b :: r); simp only [pieceL, List.length_cons] at this ⊢; omega
/-- The pieces of l; pre have come, those of rest are to come (none if m is false). -/
def PieceAt (l : List UInt8) (pre : List (ByteArray × Bool)) (rest : List UInt8) (m : Bool) : Prop :=
  pieceL (segs 47 l) = pre ++ if m then pieceL (segs 47 rest) else []
theorem PieceAt.start (l : List UInt8) : PieceAt l [] l true := by simp [PieceAt]
theorem PieceAt.next {l rest : List UInt8} {pre : List (ByteArray × Bool)} (h : PieceAt l pre rest true) : PieceAt l (pre ++ [((⟨(cut1 47 rest).1.toArray⟩ : ByteArray), !(cut1 47 rest).2.2)]) (cut1 47 rest).2.1 (cut1 47 rest).2.2 := by
  unfold PieceAt at *
  rw [h, if_pos rfl, segs_cut 47 rest]
  cases hc : (cut1 47 rest).2.2 with
  | false =>
    have h1 := (cut1_none 47 rest hc).1
    rw [h1]; simp [pieceL]
  | true =>
    cases hs : segs 47 (cut1 47 rest).2.1 with
    | nil => exact absurd hs (segs_ne _ _)
    | cons b r => simp [pieceL]
theorem PieceAt.lt {l rest : List UInt8} {pre : List (ByteArray × Bool)} (h : PieceAt l pre rest true) : pre.length < (segs 47 l).length := by
  have h1 := congrArg List.length h
  rw [pieceL_length, if_pos rfl, List.length_append, pieceL_length] at h1
  have := List.length_pos_iff.2 (segs_ne 47 rest)
  omega
theorem PieceAt.part {l rest : List UInt8} {pre : List (ByteArray × Bool)} {m : Bool} (h : PieceAt l pre rest m) : pre <+: pieceL (segs 47 l) := ⟨_, h.symm⟩
theorem PieceAt.fin {l rest : List UInt8} {pre : List (ByteArray × Bool)} (h : PieceAt l pre rest false) : pre = pieceL (segs 47 l) := by
  unfold PieceAt at h; simpa using h.symm
theorem grownBy_drewN (W : World) (n : Nat) : W.grownBy (W.drewN n) none := by
  have h := below_drewN (Below.refl W.heap.size W) n
  exact ⟨h.os, h.tape, h.output, h.size, fun k hk _ => h.block k hk⟩

theorem cut_box {r a t : ByteArray} {m : Bool} (h : cut1 47 r.data.toList = (a.data.toList, t.data.toList, m)) (hs : r.size ≤ 60000) (w : World) {g : Int} (hm : w.cell? ⟨0, 0, none⟩ = some (.int .i64 g)) :
    Calls Tryz.prog 83 #[.string r, .string ⟨#[47]⟩] w fun e w' => e = .returned (.tuple #[.string a, .string t, .bool m]) ∧ ∃ n, w' = w.drewN n := by
  have := Tryz.strings_Cut r ⟨#[47]⟩ g w (by omega) hm
  rw [show (⟨#[47]⟩ : ByteArray).data.toList = [47] from rfl, lib_cut, h] at this
  simp only [bs_mk] at this
  exact this
/-- How much is still to come. -/
def restLen (Bp : Nat) (v : Value) (wr : World) : Nat := match v with
  | .bool true => (match wr.cell? ⟨Bp, 0, none⟩ with
    | some (.string s) => s.size + 1
    | _ => 0)
  | _ => 0
theorem restLen_true {Bp : Nat} {wr : World} {s : ByteArray} (h : Boxed wr Bp 9 (.string s)) : restLen Bp (.bool true) wr = s.size + 1 := by
  unfold restLen; rw [h.cell]
theorem restLen_false (Bp : Nat) (wr : World) : restLen Bp (.bool false) wr = 0 := rfl
theorem Boxed.drewN {w : World} {B t : Nat} {v : Value} (h : Boxed w B t v) (n : Nat) : Boxed (w.drewN n) B t v := h
theorem Boxed.set {w : World} {B t : Nat} {v : Value} (h : Boxed w B t v) (u : Value) : Boxed (w.setCell ⟨B, 0, none⟩ u) B t u := Lib.heap_setCell_same (i := 0) h u

set_option maxRecDepth 100000 in
set_option maxHeartbeats 4000000 in
theorem pieces1_box (n : Nat) (hn : 1 ≤ n) (Bp : Nat) (s : ByteArray) (w : World) (m : Int) (hm : w.cell? ⟨0, 0, none⟩ = some (.int .i64 m)) (hp : Boxed w Bp 9 (.string s)) (hp0 : Bp ≠ 0) (hs : s.size ≤ 60000) :
    SeqBox n 187 #[.pointer (some ⟨Bp, 0, none⟩)] (fun x : ByteArray × Bool => #[Value.string x.1, .bool x.2]) Bp (fun ys => ys = pieceL (segs 47 s.data.toList)) (fun pre => pre <+: pieceL (segs 47 s.data.toList)) (segs 47 s.data.toList).length w := fun l J Jx W hW hJ hJx hJs hJxs hY h0 => by
  have hpl : Bp < w.heap.size := (Array.getElem?_eq_some_iff.1 hp).1
  have h0l : 0 < w.heap.size := World.block_lt_of_cell? w _ hm
  have hpW : Boxed W Bp 9 (.string s) := (hW.block Bp hpl).trans hp
  have hmW : W.cell? ⟨0, 0, none⟩ = some (.int .i64 m) := (hW.cell (p := ⟨0, 0, none⟩) h0l).trans hm
  clear hp hm hW hpl h0l
  have HJ := Lib.hid hJ
  have HJs := Lib.hid hJs
  have HY := Lib.hid hY
  clear hJ hJs hY hJx hJxs
  refine callsIn_of_wp Tryz.func187 rfl trivial ?_ rfl
  simp only [Tryz.ntmps187, List.size_toArray, List.length_cons, List.length_nil, Nat.reduceAdd, Nat.reduceSub, Array.replicate_succ, Array.replicate_zero, List.push_toArray, List.append_toArray, List.nil_append, List.cons_append]
  gi_wp2
  gi_loopw [3] (fun v wr => ∃ (pre : List (ByteArray × Bool)) (r : ByteArray) (mm : Bool), v = .bool mm ∧ Hid (PieceAt s.data.toList pre r.data.toList mm) ∧ J pre wr ∧ Boxed wr Bp 9 (.string r) ∧ Hid (r.size ≤ 60000) ∧ wr.cell? ⟨0, 0, none⟩ = some (.int .i64 m))
    (fun v wr => restLen Bp v wr)
  case atStart => exact ⟨[], s, true, rfl, PieceAt.start _, h0, hpW, hs, hmW⟩
  case round =>
    obtain ⟨pre, r, mm, rfl, HP, hJp, hb, hrs, hmr⟩ := hrel
    cases mm with
    | true =>
      obtain ⟨⟨la, lt, m'⟩, hcut⟩ : ∃ x, cut1 47 r.data.toList = x := ⟨_, rfl⟩
      obtain ⟨a, rfl⟩ : ∃ a : ByteArray, a.data.toList = la := ⟨⟨la.toArray⟩, rfl⟩
      obtain ⟨t, rfl⟩ : ∃ a : ByteArray, a.data.toList = lt := ⟨⟨lt.toArray⟩, rfl⟩
      have HC := Lib.hid (cut_box hcut hrs.out wr hmr)
      have HN := HP.out.next
      have hplt := HP.out.lt
      have hlen := cut1_len 47 r.data.toList
      rw [hcut] at HN hlen
      simp only at HN hlen
      rw [bs_mk] at HN
      rw [size_len, size_len, size_len] at hlen
      have HN := Lib.hid HN
      have hts : t.size ≤ 60000 := by have := hrs.out; omega
      have hlen2 : m' = true → t.size + 1 ≤ r.size := fun e => by have := hlen.2.2 e; omega
      clear hlen
      have hRL := Lib.hid (restLen_true hb)
      have hbc := hb.cell
      have hbf := hb.frozen
      have hbh := Lib.hid hb
      clear hcut HP hb hmW hpW h0
      have HG := Lib.hid (fun (n1 : Nat) => HJ.out pre wr (wr.drewN n1) none hJp (grownBy_drewN wr n1) (fun r e => by cases e))
      cases m' with
      | true =>
        have hlen3 : t.size + 1 ≤ r.size := hlen2 rfl
        clear hlen2
        gi_wp2_with fail
        refine ⟨trivial, (callsIn_wide.2 HC.out).mono ?_⟩
        rintro e w1 ⟨rfl, n1, rfl⟩
        obtain ⟨fn, tmps, assign, body, hy, hR⟩ := HY.out pre (a, false) _ (HJs.out _ _ (.string t) (HG.out n1)) hplt
        have HR := Lib.hid hR
        clear hR
        gi_wp2
        refine HR.out.mono ?_
        rintro e W3 (⟨rfl, hJ3, hk3⟩ | ⟨rfl, hJx3⟩)
        · have hb3 : Boxed W3 Bp 9 (.string t) := hk3.2.trans (Boxed.set (Boxed.drewN hbh.out n1) (.string t))
          have hm3 : W3.cell? ⟨0, 0, none⟩ = some (.int .i64 m) := by
            rw [hk3.cell]
            rw [World.cell?_of_block (w := wr.drewN n1) (a := ⟨0, 0, none⟩) (setCell_other (W := wr.drewN n1) (B := Bp) (k := 0) (by omega) (.string t))]
            exact hmr
          have HRL := Lib.hid (restLen_true hb3)
          clear hy
          gi_wp2
          go_roundw
          case rel => exact ⟨_, t, true, rfl, HN.out, hJ3, hb3, hts, hm3⟩
          case measure =>
            show restLen Bp (.bool true) W3 < restLen Bp (.bool true) wr
            rw [HRL.out, hRL.out]
            omega
        · gi_wp2
          refine bodyPost_ret (results_none rfl _ _ _) rfl ?_
          exact ⟨⟨_, rfl⟩, .inr ⟨_, HN.out.part, hJx3⟩⟩
      | false =>
        clear hlen2
        gi_wp2_with fail
        refine ⟨trivial, (callsIn_wide.2 HC.out).mono ?_⟩
        rintro e w1 ⟨rfl, n1, rfl⟩
        obtain ⟨fn, tmps, assign, body, hy, hR⟩ := HY.out pre (a, true) _ (HJs.out _ _ (.string t) (HG.out n1)) hplt
        have HR := Lib.hid hR
        clear hR
        gi_wp2
        refine HR.out.mono ?_
        rintro e W3 (⟨rfl, hJ3, hk3⟩ | ⟨rfl, hJx3⟩)
        · have hb3 : Boxed W3 Bp 9 (.string t) := hk3.2.trans (Boxed.set (Boxed.drewN hbh.out n1) (.string t))
          have hm3 : W3.cell? ⟨0, 0, none⟩ = some (.int .i64 m) := by
            rw [hk3.cell]
            rw [World.cell?_of_block (w := wr.drewN n1) (a := ⟨0, 0, none⟩) (setCell_other (W := wr.drewN n1) (B := Bp) (k := 0) (by omega) (.string t))]
            exact hmr
          clear hy
          gi_wp2
          go_roundw
          case rel => exact ⟨_, t, false, rfl, HN.out, hJ3, hb3, hts, hm3⟩
          case measure =>
            show restLen Bp (.bool false) W3 < restLen Bp (.bool true) wr
            rw [restLen_false, hRL.out]
            omega
        · gi_wp2
          refine bodyPost_ret (results_none rfl _ _ _) rfl ?_
          exact ⟨⟨_, rfl⟩, .inr ⟨_, HN.out.part, hJx3⟩⟩
    | false =>
      gi_wp2
      go_end0
      exact ⟨⟨_, rfl⟩, .inl ⟨_, HP.out.fin, hJp⟩⟩

set_option maxHeartbeats 1000000 in
theorem pieces_in (n : Nat) (s : ByteArray) (w : World) :
    CallsIn Fence.wide n Tryz.prog 143 #[.string s] w fun e w' => e = .returned (.func (.func 187) #[] #[.pointer (some ⟨w.heap.size, 0, none⟩)]) ∧ w' = w.alloc (.cells #[.string s] 9) := by
  refine callsIn_of_wp Tryz.func143 rfl trivial ?_ rfl
  simp only [Tryz.ntmps143, List.size_toArray, List.length_cons, List.length_nil, Nat.reduceAdd, Nat.reduceSub, Array.replicate_succ, Array.replicate_zero, List.push_toArray, List.append_toArray, List.nil_append, List.cons_append]
  gi_wp2
  go_ret
  exact ⟨rfl, rfl⟩
theorem dotted_any (s : ByteArray) (w : World) : Calls Tryz.prog 144 #[.string s] w fun e w' => e = .returned (.bool (dottedB s.data.toList)) ∧ w' = w := by
  rw [← Lib.toList_data]
  cases h1 : (s.toList == [46]) with
  | true =>
    have HE := Lib.hid (show dottedB s.toList = true by unfold dottedB; rw [h1]; rfl)
    go_enter Tryz.func144, Tryz.ntmps144
    go_wp2_with fail
    go_ret
    exact ⟨ret_bool HE.out.symm, rfl⟩
  | false =>
    have HE := Lib.hid (show dottedB s.toList = (s.toList == [46, 46]) by unfold dottedB; rw [h1]; rfl)
    go_enter Tryz.func144, Tryz.ntmps144
    go_wp2_with fail
    go_ret
    exact ⟨ret_bool HE.out.symm, rfl⟩
end Go.Proofs.YteigjobliflkdaaGreatDoor
/- Walk: dots.Normal. -/
namespace Go.Proofs.YteigjobliflkdaaGreatDoor
open Go.RowKit Go.Shelf
attribute [local go_sem] Oper.semAt_some

theorem box_result {fn : Func} {p : Tmp} (h : fn.results = #[.cell p 4]) {tmps : Array Value} {w : World} {g : Nat} {b : Bool} (hp : tmps.getD p undef = .pointer (some ⟨g, 0, none⟩)) (hs : Boxed w g 4 (.bool b)) :
    (results fn tmps).run Tryz.prog w = .ok (.bool b) w := by
  have hp' : tmps[p]?.getD undef = .pointer (some ⟨g, 0, none⟩) := by simpa using hp
  have hc := hs.cell
  simp [results, h, hp', asAddr, go_sem, hc]
theorem own_boxed {β : Type} {B g t : Nat} {v : Value} (hg : g < B) : OwnFrom B (fun (_ : β) W => Boxed W g t v) := fun s W W' row hs hg' hr =>
  (hg'.block g (Array.getElem?_eq_some_iff.1 hs).1 (fun e => by have := (hr g e.symm).1; omega)).trans hs
theorem own_pure {β : Type} (B : Nat) (p : β → Prop) : OwnFrom B (fun s (_ : World) => p s) := fun _ _ _ _ hs _ _ => hs

/-- A piece is fine. -/
def okP (x : ByteArray × Bool) : Bool := !dottedB x.1.data.toList && (!(x.1.data.toList == []) || x.2)
theorem pieces_ok : ∀ L : List (List UInt8), piecesOK L = (pieceL L).all okP
  | [] => rfl
  | [s] => by simp [piecesOK, pieceL, okP]
  | s :: t :: r => by
    have ih := pieces_ok (t :: r)
    rw [piecesOK, pieceL, List.all_cons, ← ih]
    · simp [okP]
    · intro h; cases h
def NormIn (w : World) (pre : List (ByteArray × Bool)) (W : World) : Prop := Boxed W w.heap.size 4 (.bool false) ∧ pre.all okP = true ∧ Below w.heap.size w W
def NormOut (w : World) (pre : List (ByteArray × Bool)) (W : World) : Prop := Boxed W w.heap.size 4 (.bool false) ∧ pre.all okP = false ∧ Below w.heap.size w W
theorem NormIn.own (w : World) {B : Nat} (hB : w.heap.size < B) : OwnFrom B (NormIn w) := OwnFrom.and (own_boxed hB) (OwnFrom.and (own_pure _ _) (ownFrom_below (Nat.le_refl _) (by omega)))
theorem NormOut.own (w : World) {B : Nat} (hB : w.heap.size < B) : OwnFrom B (NormOut w) := OwnFrom.and (own_boxed hB) (OwnFrom.and (own_pure _ _) (ownFrom_below (Nat.le_refl _) (by omega)))
theorem Boxed.other' {W : World} {B B' t : Nat} {v : Value} (h : Boxed W B t v) (hne : B ≠ B') (u : Value) : Boxed (W.setCell ⟨B', 0, none⟩ u) B t v := (setCell_other hne u).trans h
theorem Boxed.put {W : World} {B D t : Nat} {v : Value} {o : Obj} (h : Boxed W B t v) (hne : B ≠ D) : Boxed (W.putObj D o) B t v := (World.putObj_heap_other hne).trans h

theorem NormIn.set {w W : World} {pre : List (ByteArray × Bool)} (h : NormIn w pre W) (v : Value) : NormIn w pre (W.setCell ⟨w.heap.size + 1, 0, none⟩ v) :=
  ⟨Boxed.other' h.1 (by omega) v, h.2.1, h.2.2.setCell (p := ⟨w.heap.size + 1, 0, none⟩) (by show w.heap.size ≤ w.heap.size + 1; omega) v⟩
theorem NormOut.set {w W : World} {pre : List (ByteArray × Bool)} (h : NormOut w pre W) (v : Value) : NormOut w pre (W.setCell ⟨w.heap.size + 1, 0, none⟩ v) :=
  ⟨Boxed.other' h.1 (by omega) v, h.2.1, h.2.2.setCell (p := ⟨w.heap.size + 1, 0, none⟩) (by show w.heap.size ≤ w.heap.size + 1; omega) v⟩

theorem inRoundC {n : Nat} {f : FuncId} {args : Array Value} {w : World} {R : Ending → World → Prop} (l : Nat) (h : CallsIn Fence.wide n Tryz.prog f args w R) : CallsIn (Fence.wide.inRound l) n Tryz.prog f args w R := h
theorem all_part {α : Type} {f : α → Bool} {l m : List α} (h : l <+: m) (hl : l.all f = false) : m.all f = false := by
  obtain ⟨t, rfl⟩ := h
  rw [List.all_append, hl]; rfl
theorem dotted_B {s : ByteArray} {b : Bool} (h : dottedB s.data.toList = b) (w : World) : Calls Tryz.prog 144 #[.string s] w fun e w' => e = .returned (.bool b) ∧ w = w' := by
  have := dotted_any s w; rw [h] at this; exact this.mono fun _ _ h => ⟨h.1, h.2.symm⟩
theorem all_snocP {α : Type} {f : α → Bool} {l : List α} {x : α} {b : Bool} (h : l.all f = true) (hx : f x = b) : (l ++ [x]).all f = b := by
  rw [List.all_append, h]; simpa using hx

set_option maxRecDepth 100000 in
set_option maxHeartbeats 4000000 in
theorem normal_in (s : ByteArray) (w : World) (hG : Good w) (h0 : 0 < s.size) (hs : s.size ≤ 128) (h47 : s[0].toNat = 47) :
    CallsIn Fence.wide 3 Tryz.prog 102 #[.string s] w (RetV (.bool (piecesOK (segs 47 s.data.toList.tail))) w) := by
  have d1 : decide ((s.size : Int) < 1) = false := by simp; omega
  have d2 : decide ((128 : Int) < (s.size : Int)) = false := by simp; omega
  have e47 : ((s[0].toNat : Int) != 47) = false := by simp; omega
  have i1 : (1 : Int) ≤ s.size := by omega
  obtain ⟨p, hp⟩ : ∃ p, s.extract 1 s.size = p := ⟨_, rfl⟩
  have hpl : p.data.toList = s.data.toList.tail := by rw [← hp, Lib.extract_data, ← List.drop_one]; exact List.take_of_length_le (by simp)
  have hps : p.size ≤ 60000 := by rw [← size_len, hpl, List.length_tail, size_len]; omega
  rw [← hpl]
  have HPL := Lib.hid hpl
  obtain ⟨m, hm⟩ := hG.maxlen
  clear h47 hpl
  refine callsIn_of_wp_marks Tryz.func102 rfl trivial ?_ rfl
  simp only [Tryz.ntmps102, List.size_toArray, List.length_cons, List.length_nil, Nat.reduceAdd, Nat.reduceSub, Array.replicate_succ, Array.replicate_zero, List.push_toArray, List.append_toArray, List.nil_append, List.cons_append]
  gi_wp2_with fail
  refine ⟨trivial, (pieces_in 2 _ _).mono ?_⟩
  rintro e w2 ⟨rfl, hw2⟩
  have hsz : w2.heap.size = w.heap.size + 2 := by rw [hw2]; simp
  have hBx : Boxed w2 w.heap.size 4 (.bool false) := by rw [hw2]; exact heap_alloc2_old _ _ _
  have hBp : Boxed w2 (w.heap.size + 1) 9 (.string p) := by rw [hw2]; exact heap_alloc2_new _ _ _
  have hB2 : Below w.heap.size w w2 := by rw [hw2]; exact ((Below.refl _ _).alloc (Nat.le_refl _) _).alloc (by simp) _
  have hm2 : w2.cell? ⟨0, 0, none⟩ = some (.int .i64 m) := (hB2.cell (p := ⟨0, 0, none⟩) (World.block_lt_of_cell? w _ hm)).trans hm
  have h8 := hG.size
  rw [show (w.alloc (.cells #[.bool false] 4)).heap.size = w.heap.size + 1 by simp]
  clear hw2 hm
  gi_wp2
  refine rangeBox (n := 3) (by omega) (gf := 187) (lb := #[.pointer (some ⟨w.heap.size + 1, 0, none⟩)]) rfl (enters_of Tryz.func187 (by kernel_rfl) rfl) (by omega) (by omega)
    (pieces1_box 2 (by omega) (w.heap.size + 1) p w2 m hm2 hBp (by omega) hps) (fun _ => rfl) (NormIn w) (NormOut w) (NormIn.own w (by omega)) (NormOut.own w (by omega))
    (fun _ _ v h => NormIn.set h v) (fun _ _ v h => NormOut.set h v)
    ⟨hBx, rfl, hB2⟩ ?a1 ?assign ?body ?done ?stop
  case assign =>
    intro l x W K hK
    gi_wp2
    exact hK
  case body =>
    rintro l pre ⟨x, la⟩ W ⟨hb, hok, hB⟩ hlt
    have hbc := hb.cell
    have hbf := hb.frozen
    have HBx := Lib.hid hb
    have HOK := Lib.hid hok
    clear hb hok
    cases hd : dottedB x.data.toList with
    | true =>
      have HD := Lib.hid (dotted_B hd)
      have HF := Lib.hid (all_snocP (x := (x, la)) HOK.out (show okP (x, la) = false by simp [okP, hd]))
      clear hd
      gi_wp2_with fail
      refine ⟨trivial, (inRoundC l (callsIn_wide.2 (HD.out _))).mono ?_⟩
      rintro e W' ⟨rfl, rfl⟩
      gi_wp2
      exact ⟨(KeepsOthers.setCell _ _ _).from _, HBx.out.set _, HF.out, hB.setCell (p := ⟨w.heap.size, 0, none⟩) (Nat.le_refl _) _⟩
    | false =>
      have HD := Lib.hid (dotted_B hd)
      by_cases h0 : x.size = 0
      · have hx0 := bs_nil h0
        have hl0 : x.data.toList = [] := List.length_eq_zero_iff.1 (by rw [size_len]; exact h0)
        cases la with
        | true =>
          have HF := Lib.hid (all_snocP (x := (x, true)) HOK.out (show okP (x, true) = true by simp [okP, hd]))
          clear hd hl0
          gi_wp2_with fail
          refine ⟨trivial, (inRoundC l (callsIn_wide.2 (HD.out _))).mono ?_⟩
          rintro e W' ⟨rfl, rfl⟩
          gi_wp2
          exact ⟨KeepsFrom.refl _ _, Two.refl _ _ _, HBx.out, HF.out, hB⟩
        | false =>
          have HF := Lib.hid (all_snocP (x := (x, false)) HOK.out (show okP (x, false) = false by simp [okP, hl0]))
          clear hd hl0
          gi_wp2_with fail
          refine ⟨trivial, (inRoundC l (callsIn_wide.2 (HD.out _))).mono ?_⟩
          rintro e W' ⟨rfl, rfl⟩
          gi_wp2
          exact ⟨(KeepsOthers.setCell _ _ _).from _, HBx.out.set _, HF.out, hB.setCell (p := ⟨w.heap.size, 0, none⟩) (Nat.le_refl _) _⟩
      · have hx0 := bs_ne (s := x) (by omega)
        have hl0 : x.data.toList ≠ [] := fun e => h0 (by rw [← size_len, e]; rfl)
        have HF := Lib.hid (all_snocP (x := (x, la)) HOK.out (show okP (x, la) = true by unfold okP; simp only; rw [hd, beq_eq_false_iff_ne.2 hl0]; rfl))
        clear hd hl0
        gi_wp2_with fail
        refine ⟨trivial, (inRoundC l (callsIn_wide.2 (HD.out _))).mono ?_⟩
        rintro e W' ⟨rfl, rfl⟩
        gi_wp2
        exact ⟨KeepsFrom.refl _ _, Two.refl _ _ _, HBx.out, HF.out, hB⟩
  case done =>
    rintro D ys W hD rfl ⟨hb, hok, hB⟩ hK
    have hDw : w.heap.size ≤ D := by omega
    have hbc := hb.cell
    have hbf := hb.frozen
    have HBx := Lib.hid hb
    have HOK := Lib.hid hok
    clear hb hok
    gi_wp2
    have hK' := (setCell_other (W := W) (B := w.heap.size) (k := D) (by omega) (.bool true)).trans hK
    refine ⟨by simp, .inl ⟨_, _, rfl, run_takeDeferred hK', ?_⟩⟩
    exact ⟨_, box_result Tryz.results102 rfl (Boxed.put (Boxed.set HBx.out (.bool true)) (show w.heap.size ≠ D by omega)), RetV.mk (by rw [pieces_ok, HOK.out]) ((hB.setCell (p := ⟨w.heap.size, 0, none⟩) (Nat.le_refl _) _).trans (belowK_b (w := w) (Nat.le_refl _) _ D _ _ hDw hK' rfl rfl))⟩
  case stop =>
    rintro D pre W hD hpre ⟨hb, hok, hB⟩ hK
    have hDw : w.heap.size ≤ D := by omega
    have hDn : w.heap.size ≠ D := by omega
    have HBx := Lib.hid hb
    have HOK := Lib.hid (all_part hpre hok)
    clear hb hok hpre
    gi_wp2
    refine ⟨by simp, .inl ⟨_, _, rfl, run_takeDeferred hK, ?_⟩⟩
    exact ⟨_, box_result Tryz.results102 rfl (Boxed.put HBx.out (show w.heap.size ≠ D by omega)), RetV.mk (by rw [pieces_ok, HOK.out]) (hB.trans (belowK_b (w := w) (Nat.le_refl _) _ D _ _ hDw hK rfl rfl))⟩

/-- Normal. -/
theorem normalP_any (s : ByteArray) (w : World) (hG : Good w) (hs : s.size ≤ 60000) : Calls Tryz.prog 102 #[.string s] w (RetV (.bool (dNormal s.data.toList)) w) := by
  by_cases h1 : s.size < 1
  · have HE := Lib.hid (show dNormal s.data.toList = false by unfold dNormal; rw [size_len, decide_eq_false (show ¬ 1 ≤ s.size by omega)]; rfl)
    have d1 : decide ((s.size : Int) < 1) = true := by simp; omega
    go_enter Tryz.func102, Tryz.ntmps102
    go_wp2_with fail
    exact bodyPost_ret (box_result Tryz.results102 rfl (Boxed.new _ _ _)) rfl (RetV.mk (by rw [HE.out]) ((Below.refl _ _).alloc (Nat.le_refl _) _))
  have d1 : decide ((s.size : Int) < 1) = false := by simp; omega
  by_cases h2 : 128 < s.size
  · have HE := Lib.hid (show dNormal s.data.toList = false by unfold dNormal; rw [size_len, decide_eq_false (show ¬ s.size ≤ 128 by omega)]; simp)
    have d2 : decide ((128 : Int) < (s.size : Int)) = true := by simp; omega
    go_enter Tryz.func102, Tryz.ntmps102
    go_wp2_with fail
    exact bodyPost_ret (box_result Tryz.results102 rfl (Boxed.new _ _ _)) rfl (RetV.mk (by rw [HE.out]) ((Below.refl _ _).alloc (Nat.le_refl _) _))
  have d2 : decide ((128 : Int) < (s.size : Int)) = false := by simp; omega
  have hpos : 0 < s.size := by omega
  have hh : s.data.toList.head? = some s[0] := by
    rw [List.head?_eq_getElem?, List.getElem?_eq_getElem (by rw [size_len]; exact hpos)]; rfl
  by_cases h47 : s[0].toNat = 47
  · have e := normal_in s w hG hpos (by omega) h47
    rw [← dNormal_eq (by rw [size_len]; exact hpos) (by rw [size_len]; omega) (by rw [hh, beq_iff_eq]; exact congrArg some (UInt8.toNat_inj.1 h47))] at e
    exact callsIn_wide.1 e
  · have HE := Lib.hid (show dNormal s.data.toList = false by
      unfold dNormal
      rw [hh, show (some s[0] == some (47 : UInt8)) = false by rw [beq_eq_false_iff_ne]; intro e; injection e with e; rw [e] at h47; exact h47 rfl]
      simp)
    have e47 : ((s[0].toNat : Int) != 47) = true := by simp; omega
    clear h47 hh
    go_enter Tryz.func102, Tryz.ntmps102
    go_wp2_with fail
    exact bodyPost_ret (box_result Tryz.results102 rfl (Boxed.new _ _ _)) rfl (RetV.mk (by rw [HE.out]) ((Below.refl _ _).alloc (Nat.le_refl _) _))
end Go.Proofs.YteigjobliflkdaaGreatDoor
