import Derived.RangeFuncBox
import Derived.RangeFuncLeaves
import Derived.Shelf.Abstract
import Derived.OwnWalkIn
import Derived.TacticsInMore
import Derived.LoopNIn
import Derived.LoopIn
import Derived.Maps.AppendAt
import Derived.Test.YteigjobliflkdaaGreatDoorH15g
namespace Go.Proofs.YteigjobliflkdaaGreatDoor
open Go.RowKit Go.Shelf

attribute [local go_sem] Oper.semAt_some

/-- What has come when k rounds are over: f 0, .., f (k - 1). -/
def upto {α : Type} (f : Nat → α) (k : Nat) : List α := (List.range k).map f
theorem upto_succ {α : Type} (f : Nat → α) (k : Nat) : upto f (k + 1) = upto f k ++ [f k] := by simp [upto, List.range_succ]
theorem upto_length {α : Type} (f : Nat → α) (k : Nat) : (upto f k).length = k := by simp [upto]

/-- The element of round j: the last one first. -/
def backAt (xs : List (List UInt8)) (j : Nat) : Int × ByteArray := ((xs.length : Int) - 1 - j, ⟨(xs[xs.length - 1 - j]?.getD []).toArray⟩)

/-- The two blocks that the iterator reads lie as they lay. -/
def Two (b Bs : Nat) (A C : World) : Prop := C.heap[b]? = A.heap[b]? ∧ C.heap[Bs]? = A.heap[Bs]?
theorem Two.refl (b Bs : Nat) (A : World) : Two b Bs A A := ⟨rfl, rfl⟩
theorem Two.trans {b Bs : Nat} {A B C : World} (h : Two b Bs A B) (k : Two b Bs B C) : Two b Bs A C := ⟨k.1.trans h.1, k.2.trans h.2⟩
theorem Two.cell {b Bs : Nat} {A C : World} (h : Two b Bs A C) (j : Nat) : C.cell? ⟨b, j, none⟩ = A.cell? ⟨b, j, none⟩ := by unfold World.cell?; simp only [h.1]
theorem Two.cell' {b Bs : Nat} {A C : World} (h : Two b Bs A C) (j : Nat) : C.cell? ⟨Bs, j, none⟩ = A.cell? ⟨Bs, j, none⟩ := by unfold World.cell?; simp only [h.2]
theorem Two.put {b Bs : Nat} {w : World} (hb : b < w.heap.size) (hs : Bs < w.heap.size) (W : World) (l : Nat) (o o' : Obj) (hl : w.heap.size ≤ l) (h : W.heap[l]? = some o) (_ : o.isCells = false) (_ : o.isWalk = false) : Two b Bs W (W.putObj l o') :=
  ⟨(grownBy_putObj' W l o').block b (by have := (Array.getElem?_eq_some_iff.1 h).1; omega) (by simp; omega), (grownBy_putObj' W l o').block Bs (by have := (Array.getElem?_eq_some_iff.1 h).1; omega) (by simp; omega)⟩
theorem Two.of_below {n₀ b Bs : Nat} {A C : World} (hb : b < n₀) (hs : Bs < n₀) (h : Below n₀ A C) : Two b Bs A C := ⟨h.block b hb, h.block Bs hs⟩

set_option maxRecDepth 100000 in
set_option maxHeartbeats 2000000 in
theorem back1_in (F : Fence) (n : Nat) (h8 : F.fn 169) (hro : F.round = none) (hn : 1 ≤ n) (l Bs b cap : Nat) (xs : List (List UInt8)) (hlen : xs.length ≤ 100000) (J Jx : List (Int × ByteArray) → World → Prop)
    (hY : ∀ pre x W, J pre W → pre.length < xs.length → YieldAt F (n - 1) Tryz.prog l #[.int .i64 x.1, .string x.2] W fun e W' =>
      (e = .returned (.bool true) ∧ J (pre ++ [x]) W' ∧ Two b Bs W W') ∨ (e = .returned (.bool false) ∧ Jx (pre ++ [x]) W'))
    (W : World) (hBs : W.cell? ⟨Bs, 0, none⟩ = some (.slice (some ⟨b, 0, none⟩) xs.length cap)) (hc : ∀ j, j < xs.length → W.cell? ⟨b, j, none⟩ = some (.string ⟨(xs[j]?.getD []).toArray⟩)) (h0 : J [] W) :
    CallsIn F n Tryz.prog 169 #[.func (.yield l) #[] #[], .pointer (some ⟨Bs, 0, none⟩)] W fun e W' => (∃ v, e = .returned v) ∧
      ((∃ ys, ys = upto (backAt xs) xs.length ∧ J ys W') ∨ (∃ pre, (∃ k, k ≤ xs.length ∧ pre = upto (backAt xs) k) ∧ Jx pre W')) := by
  have HC := Lib.hid hc
  clear hc
  refine callsIn_of_wp Tryz.func169 rfl h8 ?_ hro
  simp only [Tryz.ntmps169, List.size_toArray, List.length_cons, List.length_nil, Nat.reduceAdd, Nat.reduceSub, Array.replicate_succ, Array.replicate_zero, List.push_toArray, List.append_toArray, List.nil_append, List.cons_append]
  gi_wp2
  gi_loopw [3] (fun i wr => ∃ k : Nat, k ≤ xs.length ∧ i = .int .i64 ((xs.length : Int) - 1 - k) ∧ J (upto (backAt xs) k) wr ∧ Two b Bs W wr)
    (fun i _ => (intOf i + 1).toNat)
  case atStart => exact ⟨0, Nat.zero_le _, by simp, h0, Two.refl _ _ _⟩
  case round =>
    obtain ⟨k, hk, rfl, hJs, hnx⟩ := hrel
    by_cases hlt : k < xs.length
    · obtain ⟨fn, tmps, assign, body, hy, hR⟩ := hY _ (backAt xs k) wr hJs (by rw [upto_length]; exact hlt)
      unfold backAt at hy
      dsimp only at hy
      have hcx := (hnx.cell _).trans (HC.out (xs.length - 1 - k) (by omega))
      have hbx := (hnx.cell' _).trans hBs
      clear hBs
      gi_wp2
      refine hR.mono ?_
      rintro e W3 (⟨rfl, hJ3, hk3⟩ | ⟨rfl, hJx3⟩)
      · gi_wp2
        go_roundw
        case rel => exact ⟨k + 1, by omega, congrArg (Value.int .i64) (by omega), by rw [upto_succ]; exact hJ3, hnx.trans hk3⟩
        case measure => (simp [intOf]; try omega)
      · gi_wp2
        refine bodyPost_ret (results_none rfl _ _ _) rfl ?_
        exact ⟨⟨_, rfl⟩, .inr ⟨_, ⟨k + 1, by omega, (upto_succ _ _).symm⟩, hJx3⟩⟩
    · obtain rfl : k = xs.length := by omega
      gi_wp2
      go_end0
      exact ⟨⟨_, rfl⟩, .inl ⟨_, rfl, hJs⟩⟩

set_option maxHeartbeats 1000000 in
theorem back_in (F : Fence) (n : Nat) (h5 : F.fn 130) (hro : F.round = none) (a : Option Addr) (len cap : Nat) (w : World) :
    CallsIn F n Tryz.prog 130 #[.slice a len cap] w fun e w' => e = .returned (.func (.func 169) #[] #[.pointer (some ⟨w.heap.size, 0, none⟩)]) ∧ w' = w.alloc (.cells #[.slice a len cap] 34) := by
  refine callsIn_of_wp Tryz.func130 rfl h5 ?_ hro
  simp only [Tryz.ntmps130, List.size_toArray, List.length_cons, List.length_nil, Nat.reduceAdd, Nat.reduceSub, Array.replicate_succ, Array.replicate_zero, List.push_toArray, List.append_toArray, List.nil_append, List.cons_append]
  gi_wp2
  go_ret
  exact ⟨rfl, rfl⟩

theorem back_stops (F : Fence) (n : Nat) (h7 : F.fn 169) (hro : F.round = none) (hn : 1 ≤ n) (Bs b cap : Nat) (xs : List (List UInt8)) (hlen : xs.length ≤ 100000) (w : World) (hb : b < w.heap.size) (hBs : Bs < w.heap.size)
    (hc : w.cell? ⟨Bs, 0, none⟩ = some (.slice (some ⟨b, 0, none⟩) xs.length cap)) (hI : ∀ j, j < xs.length → w.cell? ⟨b, j, none⟩ = some (.string ⟨(xs[j]?.getD []).toArray⟩)) :
    SeqStopsK F n Tryz.prog 169 #[.pointer (some ⟨Bs, 0, none⟩)] (fun x : Int × ByteArray => #[Value.int .i64 x.1, .string x.2]) (Two b Bs) (fun ys => ys = upto (backAt xs) xs.length) (fun _ => True) xs.length w := fun l J Jx W hW _ _ hY h0 => by
  have hW' := Two.of_below hb hBs hW
  refine (back1_in F n h7 hro hn l Bs b cap xs hlen J Jx hY W ((hW'.cell' 0).trans hc) (fun j hj => (hW'.cell j).trans (hI j hj)) h0).mono ?_
  rintro e W' ⟨he, ⟨ys, rfl, hj⟩ | ⟨pre, _, hj⟩⟩
  · exact ⟨he, .inl ⟨_, rfl, hj⟩⟩
  · exact ⟨he, .inr ⟨_, trivial, hj⟩⟩

/-- What backwards collects. -/
def outOf (pre : List (Int × ByteArray)) : List Value := pre.map fun x => Value.string x.2
theorem outOf_all (xs : List (List UInt8)) : outOf (upto (backAt xs) xs.length) = xs.reverse.map S := by
  apply List.ext_getElem
  · simp [outOf, upto]
  · intro i h1 h2
    have hi : i < xs.length := by simpa [outOf, upto] using h1
    simp [outOf, upto, backAt, S, List.getElem_reverse]
    rw [List.getElem?_eq_getElem (by omega)]; rfl
end Go.Proofs.YteigjobliflkdaaGreatDoor
