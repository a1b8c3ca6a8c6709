/- Texts of this claim, joined in build order: I1, I2, I3. -/
import Derived.Test.YteigjobliflkdaaGreatDoorZ12
import Derived.Test.YteigjobliflkdaaGreatDoorZ14
import Derived.Laws.RangeAny
import Derived.Deep.LoopGhost
import Derived.WalkMore
import Derived.ScopeJumps
/- Walks: strings.IndexRune, strings.IndexAny where no ASCII is asked of the text; location.Safe everywhere. -/
namespace Go.Proofs.YteigjobliflkdaaGreatDoor
open Go.RowKit

def crlf : ByteArray := ⟨#[0, 13, 10]⟩
theorem enc_forms {r : Int} (hv : Utf8.valid r = true) (h : 128 ≤ r) : (∃ a b : UInt8, Utf8.encode r = ⟨#[a, b]⟩ ∧ 128 ≤ b.toNat) ∨ (∃ a b c : UInt8, Utf8.encode r = ⟨#[a, b, c]⟩ ∧ 128 ≤ c.toNat) ∨ (∃ a b c d : UInt8, Utf8.encode r = ⟨#[a, b, c, d]⟩ ∧ 128 ≤ d.toNat) := by
  have hc : ¬ r.toNat < 128 := by omega
  unfold Utf8.encode
  simp only [hv, if_true, hc, if_false]
  split
  · exact .inl ⟨_, _, rfl, by simp; omega⟩
  · split
    · exact .inr (.inl ⟨_, _, _, rfl, by simp; omega⟩)
    · exact .inr (.inr ⟨_, _, _, _, rfl, by simp; omega⟩)
theorem next_crlf0 (w : World) (ty : TypeId) : (Instr.next (.pointer (some ⟨w.heap.size, 0, none⟩)) true ty).run Tryz.prog (w.iter ⟨#[0, 13, 10]⟩ 0) = .ok (.tuple #[.bool true, .int .i64 0, .int .i32 0]) (w.iter ⟨#[0, 13, 10]⟩ 1) := run_next_ascii (P := Tryz.prog) w ⟨#[0, 13, 10]⟩ 0 ty (by decide) (by decide)
theorem next_crlf1 (w : World) (ty : TypeId) : (Instr.next (.pointer (some ⟨w.heap.size, 0, none⟩)) true ty).run Tryz.prog (w.iter ⟨#[0, 13, 10]⟩ 1) = .ok (.tuple #[.bool true, .int .i64 1, .int .i32 13]) (w.iter ⟨#[0, 13, 10]⟩ 2) := run_next_ascii (P := Tryz.prog) w ⟨#[0, 13, 10]⟩ 1 ty (by decide) (by decide)
theorem next_crlf2 (w : World) (ty : TypeId) : (Instr.next (.pointer (some ⟨w.heap.size, 0, none⟩)) true ty).run Tryz.prog (w.iter ⟨#[0, 13, 10]⟩ 2) = .ok (.tuple #[.bool true, .int .i64 2, .int .i32 10]) (w.iter ⟨#[0, 13, 10]⟩ 3) := run_next_ascii (P := Tryz.prog) w ⟨#[0, 13, 10]⟩ 2 ty (by decide) (by decide)
theorem next_crlf3 (w : World) (ty : TypeId) : (Instr.next (.pointer (some ⟨w.heap.size, 0, none⟩)) true ty).run Tryz.prog (w.iter ⟨#[0, 13, 10]⟩ 3) = .ok (.tuple #[.bool false]) (w.iter ⟨#[0, 13, 10]⟩ 3) := run_next_end (P := Tryz.prog) w ⟨#[0, 13, 10]⟩ 3 ty (by decide)
theorem iter_below (w : World) (s : ByteArray) (i : Nat) : Below w.heap.size w (w.iter s i) := (Below.refl _ _).alloc (Nat.le_refl _) _

set_option maxRecDepth 100000 in
set_option maxHeartbeats 4000000 in
theorem valid_rune (r : Int) (w : World) : Calls Tryz.prog 220 #[.int .i32 r] w fun e w' => e = .returned (.bool (Utf8.valid r)) ∧ w' = w := by
  have HV := Lib.hid (show Utf8.valid r = ((decide (0 ≤ r) && decide (r < 55296)) || (decide (57344 ≤ r) && decide (r ≤ 1114111))) from rfl)
  by_cases h1 : 0 ≤ r
  · have d1 : decide (0 ≤ r) = true := by simpa using h1
    by_cases h2 : r < 55296
    · have d2 : decide (r < 55296) = true := by simpa using h2
      go_enter Tryz.func220, Tryz.ntmps220
      go_wp2_with fail
      go_ret
      exact ⟨by rw [HV.out, d1, d2]; rfl, rfl⟩
    · have d2 : decide (r < 55296) = false := by simpa using h2
      by_cases h3 : 57343 < r
      · have d3 : decide (57343 < r) = true := by simpa using h3
        have d3' : decide (57344 ≤ r) = true := by simp; omega
        by_cases h4 : r ≤ 1114111
        · have d4 : decide (r ≤ 1114111) = true := by simpa using h4
          go_enter Tryz.func220, Tryz.ntmps220
          go_wp2_with fail
          go_ret
          exact ⟨by rw [HV.out, d1, d2, d3', d4]; rfl, rfl⟩
        · have d4 : decide (r ≤ 1114111) = false := by simpa using h4
          go_enter Tryz.func220, Tryz.ntmps220
          go_wp2_with fail
          go_ret
          exact ⟨by rw [HV.out, d1, d2, d3', d4]; rfl, rfl⟩
      · have d3 : decide (57343 < r) = false := by simpa using h3
        have d3' : decide (57344 ≤ r) = false := by simp; omega
        go_enter Tryz.func220, Tryz.ntmps220
        go_wp2_with fail
        go_ret
        exact ⟨by rw [HV.out, d1, d2, d3']; rfl, rfl⟩
  · have d1 : decide (0 ≤ r) = false := by simpa using h1
    have d3 : decide (57343 < r) = false := by simp; omega
    have d3' : decide (57344 ≤ r) = false := by simp; omega
    go_enter Tryz.func220, Tryz.ntmps220
    go_wp2_with fail
    go_ret
    exact ⟨by rw [HV.out, d1, d3']; rfl, rfl⟩
theorem valid_B {r : Int} {b : Bool} (h : Utf8.valid r = b) (w : World) : Calls Tryz.prog 220 #[.int .i32 r] w fun e w' => e = .returned (.bool b) ∧ w = w' := by
  have := valid_rune r w; rw [h] at this; exact this.mono fun _ _ h => ⟨h.1, h.2.symm⟩

set_option maxRecDepth 100000 in
set_option maxHeartbeats 8000000 in
/-- No rune of two bytes or more stands among the three. -/
theorem rune_crlf (r : Int) (w : World) (h : 128 ≤ r) (h2 : r ≤ 2147483647) : Calls Tryz.prog 194 #[.string ⟨#[0, 13, 10]⟩, .int .i32 r] w fun e w' => e = .returned (.int .i64 (-1)) ∧ Below w.heap.size w w' := by
  have d1 : decide ((0 : Int) ≤ r) = true := by simp; omega
  have d2 : decide (r < 128) = false := by simp; omega
  by_cases he : r = 65533
  · subst he
    have n0 := next_crlf0 w
    have n1 := next_crlf1 w
    have n2 := next_crlf2 w
    have n3 := next_crlf3 w
    have HIB := Lib.hid (iter_below w ⟨#[0, 13, 10]⟩ 3)
    go_enter Tryz.func194, Tryz.ntmps194
    go_wp2_with fail
    go_loopg [5, 6] 3 (fun gh _ _ wr => (gh = 3 ∧ wr = w.iter ⟨#[0, 13, 10]⟩ 0) ∨ (gh = 2 ∧ wr = w.iter ⟨#[0, 13, 10]⟩ 1) ∨ (gh = 1 ∧ wr = w.iter ⟨#[0, 13, 10]⟩ 2) ∨ (gh = 0 ∧ wr = w.iter ⟨#[0, 13, 10]⟩ 3))
    case atStart => exact .inl ⟨rfl, rfl⟩
    case round =>
      rcases hrel with ⟨rfl, rfl⟩ | ⟨rfl, rfl⟩ | ⟨rfl, rfl⟩ | ⟨rfl, rfl⟩
      · go_wp2_with fail
        go_roundg 2
        case measure => omega
        case rel => exact .inr (.inl ⟨rfl, rfl⟩)
      · go_wp2_with fail
        go_roundg 1
        case measure => omega
        case rel => exact .inr (.inr (.inl ⟨rfl, rfl⟩))
      · go_wp2_with fail
        go_roundg 0
        case measure => omega
        case rel => exact .inr (.inr (.inr ⟨rfl, rfl⟩))
      · go_wp2_with fail
        go_ret
        exact ⟨rfl, HIB.out⟩
  have d3 : (r == 65533) = false := by simpa using he
  cases hv : Utf8.valid r with
  | false =>
    have HV := Lib.hid (valid_B hv)
    clear hv
    go_enter Tryz.func194, Tryz.ntmps194
    go_wp2_with fail
    refine (HV.out _).mono ?_
    rintro e w1 ⟨rfl, rfl⟩
    go_wp2_with fail
    go_ret
    exact ⟨rfl, Below.refl _ _⟩
  | true =>
    have HV := Lib.hid (valid_B hv)
    rcases enc_forms hv h with ⟨a, b, hen, hb⟩ | ⟨a, b, c, hen, hb⟩ | ⟨a, b, c, d, hen, hb⟩
    · clear hv
      have e1 : (((⟨#[0, 13, 10]⟩ : ByteArray)[1].toNat : Int) != (((⟨#[a, b]⟩ : ByteArray)[1]'(show 1 < 2 by decide)).toNat : Int)) = true := by
        show ((13 : Int) != (b.toNat : Int)) = true
        simp; omega
      have HI := Lib.hid (fun w => index_B (s := (⟨#[0, 13, 10]⟩ : ByteArray).extract 2 3) (c := ((⟨#[a, b]⟩ : ByteArray)[1]'(show 1 < 2 by decide))) (x := -1) (by
        show Lib.indexByte [10] b = -1
        have : (10 : UInt8) ≠ b := fun e => by rw [← e] at hb; exact absurd hb (by decide)
        simp [Lib.indexByte, this]) w)
      go_enter Tryz.func194, Tryz.ntmps194
      go_wp2_with fail
      refine (HV.out _).mono ?_
      rintro e w1 ⟨rfl, rfl⟩
      go_wp2_with fail
      go_step3
      go_wp2_with fail
      go_loopw [9] (fun i wr => i = .int .i64 1 ∧ w = wr) (fun i _ => 2 - (intOf i).toNat)
      case atStart => exact ⟨rfl, rfl⟩
      case round =>
        obtain ⟨rfl, rfl⟩ := hrel
        go_wp2_with fail
        go_step3
        go_wp2_with fail
        go_quiet (fail)
        go_wp2_with fail
        go_region_with (first | (go_at_call 109; refine (HI.out _).mono ?_; rintro e wx ⟨rfl, rfl⟩))
        all_goals
          go_wp2_with fail
          simp +zetaDelta only [Exit.inBlock, Exit.then, Exit.noGoto_ret]
          go_ret
          exact ⟨rfl, by first | exact below_drewN (Below.refl _ _) _ | exact below_drewN (below_drewN (Below.refl _ _) _) _ | exact (below_drewN (Below.refl _ _) _).drew | exact (below_drewN (below_drewN (Below.refl _ _) _) _).drew⟩
    · clear hv
      have e1 : (((⟨#[0, 13, 10]⟩ : ByteArray)[2].toNat : Int) != (((⟨#[a, b, c]⟩ : ByteArray)[2]'(show 2 < 3 by decide)).toNat : Int)) = true := by
        show ((10 : Int) != (c.toNat : Int)) = true
        simp; omega
      have HI := Lib.hid (fun w => index_B (s := (⟨#[0, 13, 10]⟩ : ByteArray).extract 3 3) (c := ((⟨#[a, b, c]⟩ : ByteArray)[2]'(show 2 < 3 by decide))) (x := -1) (by
        show Lib.indexByte [] c = -1
        skip
        rfl) w)
      go_enter Tryz.func194, Tryz.ntmps194
      go_wp2_with fail
      refine (HV.out _).mono ?_
      rintro e w1 ⟨rfl, rfl⟩
      go_wp2_with fail
      go_step3
      go_wp2_with fail
      go_loopw [9] (fun i wr => i = .int .i64 2 ∧ w = wr) (fun i _ => 2 - (intOf i).toNat)
      case atStart => exact ⟨rfl, rfl⟩
      case round =>
        obtain ⟨rfl, rfl⟩ := hrel
        go_wp2_with fail
        go_step3
        go_wp2_with fail
        go_quiet (fail)
        go_wp2_with fail
        go_region_with (first | (go_at_call 109; refine (HI.out _).mono ?_; rintro e wx ⟨rfl, rfl⟩))
        all_goals
          go_wp2_with fail
          simp +zetaDelta only [Exit.inBlock, Exit.then, Exit.noGoto_ret]
          go_ret
          exact ⟨rfl, by first | exact below_drewN (Below.refl _ _) _ | exact below_drewN (below_drewN (Below.refl _ _) _) _ | exact (below_drewN (Below.refl _ _) _).drew | exact (below_drewN (below_drewN (Below.refl _ _) _) _).drew⟩
    · clear hv
      go_enter Tryz.func194, Tryz.ntmps194
      go_wp2_with fail
      refine (HV.out _).mono ?_
      rintro e w1 ⟨rfl, rfl⟩
      go_wp2_with fail
      go_step3
      go_wp2_with fail
      go_loopw [9] (fun i wr => i = .int .i64 3 ∧ w = wr) (fun i _ => 2 - (intOf i).toNat)
      case atStart => exact ⟨rfl, rfl⟩
      case round =>
        obtain ⟨rfl, rfl⟩ := hrel
        go_wp2_with fail
        rw [Exit.noGoto_ret]
        go_ret
        exact ⟨rfl, Below.refl _ _⟩
end Go.Proofs.YteigjobliflkdaaGreatDoor
/- Walks: strings.IndexAny for the three bytes, any text; location.Safe; LocationReads. -/
namespace Go.Proofs.YteigjobliflkdaaGreatDoor
open Go.RowKit

theorem get_lt (s : ByteArray) (k : Nat) (h : k < s.size) : s.get! k = s[k]'h := by
  simp [ByteArray.get!, getElem!_pos, h]
  rfl
/-- What is read of a byte that is no ASCII is no ASCII, all of it. -/
theorem decode_wide (s : ByteArray) (pos : Nat) (h : pos < s.size) (ha : 128 ≤ (s[pos]'h).toNat) (j : Nat) (h1 : pos ≤ j) (h2 : j < pos + (Utf8.decode s pos).2) : ∃ hj : j < s.size, 128 ≤ (s[j]'hj).toNat := by
  have hn : ¬ (s[pos]'h).toNat < 128 := by omega
  have hcont : ∀ k, ((decide (pos + k < s.size) && (s.get! (pos + k)).toNat / 64 == 2) = true) → ∃ hj : pos + k < s.size, 128 ≤ (s[pos + k]'hj).toNat := fun k hk => by
    simp only [Bool.and_eq_true, decide_eq_true_eq, beq_iff_eq] at hk
    refine ⟨hk.1, ?_⟩
    rw [get_lt s _ hk.1] at hk
    omega
  have h0 : ∃ hj : pos + 0 < s.size, 128 ≤ (s[pos + 0]'hj).toNat := ⟨h, ha⟩
  obtain ⟨k, rfl⟩ : ∃ k, j = pos + k := ⟨j - pos, by omega⟩
  simp only [Utf8.decode, get_at s pos h, hn, if_false] at h2
  have hk0 : ∀ w, w = 1 → pos + k < pos + w → ∃ hj : pos + k < s.size, 128 ≤ (s[pos + k]'hj).toNat := fun w hw hl => by
    have : k = 0 := by omega
    subst this; exact h0
  split at h2
  · rename_i hc
    simp only [Bool.and_eq_true] at hc
    split at h2
    · rcases (show k = 0 ∨ k = 1 by omega) with rfl | rfl
      · exact h0
      · exact hcont 1 (by simpa using hc.2)
    · exact hk0 _ rfl h2
  · split at h2
    · rename_i hc
      simp only [Bool.and_eq_true] at hc
      split at h2
      · rcases (show k = 0 ∨ k = 1 ∨ k = 2 by omega) with rfl | rfl | rfl
        · exact h0
        · exact hcont 1 (by simpa using hc.1.2)
        · exact hcont 2 (by simpa using hc.2)
      · exact hk0 _ rfl h2
    · split at h2
      · rename_i hc
        simp only [Bool.and_eq_true] at hc
        split at h2
        · rcases (show k = 0 ∨ k = 1 ∨ k = 2 ∨ k = 3 by omega) with rfl | rfl | rfl | rfl
          · exact h0
          · exact hcont 1 (by simpa using hc.1.1.2)
          · exact hcont 2 (by simpa using hc.1.2)
          · exact hcont 3 (by simpa using hc.2)
        · exact hk0 _ rfl h2
      · exact hk0 _ rfl h2

theorem next_at (W : World) (g : Nat) (s : ByteArray) (pos : Nat) (ty : TypeId) (hg : W.heap[g]? = some (.stringIter s pos)) (h : pos < s.size) :
    (Instr.next (.pointer (some ⟨g, 0, none⟩)) true ty).run Tryz.prog W = .ok (.tuple #[.bool true, .int .i64 pos, .int .i32 (Utf8.decode s pos).1]) (W.putObj g (.stringIter s (pos + (Utf8.decode s pos).2))) := by
  simp only [Instr.next, getObj, setObj, Sem.run_bind, Sem.run, hg, Result.andThen, h, if_true]
  simp [goInt, World.putObj]
theorem next_at_end (W : World) (g : Nat) (s : ByteArray) (pos : Nat) (ty : TypeId) (hg : W.heap[g]? = some (.stringIter s pos)) (h : ¬ pos < s.size) :
    (Instr.next (.pointer (some ⟨g, 0, none⟩)) true ty).run Tryz.prog W = .ok (.tuple #[.bool false]) W := by
  simp [Instr.next, getObj, Sem.run, hg, h]
theorem below_putObj {n : Nat} {w W : World} (h : Below n w W) {g : Nat} (hg : n ≤ g) (o : Obj) : Below n w (W.putObj g o) := by
  refine h.trans ⟨rfl, rfl, rfl, by simp [World.putObj], fun k hk => World.putObj_heap_other (by omega)⟩

theorem crlf_wide (b : UInt8) (h : 128 ≤ b.toNat) : ([0, 13, 10] : List UInt8).contains b = false := by
  have : ∀ n : Nat, n < 256 → 128 ≤ n → ([0, 13, 10] : List UInt8).contains (UInt8.ofNat n) = false := by decide +kernel
  have h1 := this b.toNat b.toNat_lt h
  rwa [UInt8.ofNat_toNat] at h1
theorem noAny_wide {s : ByteArray} {i : Nat} (h : Lib.NoAny s.data.toList [0, 13, 10] i) (hi : i < s.size) (ha : 128 ≤ (s[i]'hi).toNat) : Lib.NoAny s.data.toList [0, 13, 10] (i + (Utf8.decode s i).2) := fun j b hj hb => by
  rcases Nat.lt_or_ge j i with h1 | h1
  · exact h j b h1 hb
  · obtain ⟨hjs, hw⟩ := decode_wide s i hi ha j h1 hj
    rw [Lib.data_getElem? s j hjs] at hb
    injection hb with hb
    rw [← hb]; exact crlf_wide _ hw
theorem decode_end (s : ByteArray) (i : Nat) (hi : i < s.size) (ha : 128 ≤ (s[i]'hi).toNat) : i < i + (Utf8.decode s i).2 ∧ i + (Utf8.decode s i).2 ≤ s.size := by
  have h1 := (decode_high s i hi ha).2
  obtain ⟨h2, _⟩ := decode_wide s i hi ha (i + (Utf8.decode s i).2 - 1) (by omega) (by omega)
  exact ⟨by omega, by omega⟩

set_option maxRecDepth 100000 in
set_option maxHeartbeats 8000000 in
theorem indexAny_few {s : ByteArray} (h8 : s.size ≤ 8) : IndexC s (Lib.indexAny s.data.toList [0, 13, 10]) := fun w => by
  have h8z : decide ((8 : Int) < (s.size : Int)) = false := by simp; omega
  go_enter Tryz.func158, Tryz.ntmps158
  go_wp2_with fail
  refine (Tryz.strings_shouldUseASCIISet (s.size : Int) _).mono ?_
  rintro e w1 ⟨rfl, rfl⟩
  rw [h8z]
  go_wp2_with fail
  go_loopg [9, 10] (s.size + 1) (fun gh _ _ wx => ∃ i : Nat, i ≤ s.size ∧ gh = s.size + 1 - i ∧ wx.heap[w1.heap.size]? = some (.stringIter s i) ∧ Hid (Below w1.heap.size w1 wx ∧ Lib.NoAny s.data.toList [0, 13, 10] i))
  case atStart => exact ⟨0, by omega, rfl, World.iter_heap _ _ _, iter_below _ _ _, Lib.NoAny.zero _ _⟩
  case round =>
    obtain ⟨i, hi, hg, hit, HP⟩ := hrel
    have hlt1 : w1.heap.size < wr.heap.size := (Array.getElem?_eq_some_iff.1 hit).1
    by_cases hlt : i < s.size
    · have HPut := Lib.hid (fun o => below_putObj HP.out.1 (Nat.le_refl _) o)
      by_cases ha : (s[i]'hlt).toNat < 128
      · have hnx := fun ty => next_at wr _ s i ty hit hlt
        rw [decode_ascii s i hlt ha] at hnx
        have hsame : (wr.putObj w1.heap.size (.stringIter s (i + 1))).heap[w1.heap.size]? = some (.stringIter s (i + 1)) := World.putObj_heap_same hlt1
        obtain ⟨x, hx⟩ : ∃ x : UInt8, s[i]'hlt = x := ⟨_, rfl⟩
        have hxl : s.data.toList[i]? = some x := by rw [← hx]; exact Lib.data_getElem? s i hlt
        rw [hx] at hnx ha
        have HX := Lib.hid hxl
        have hcon := Lib.contains_iff_indexByte ([0, 13, 10] : List UInt8) x
        have HR := Lib.hid (fun w => Tryz.strings_IndexRune_ascii ⟨#[0, 13, 10]⟩ (x.toNat : Int) w (by omega) (by omega))
        rw [show ((x.toNat : Nat) : Int).toNat.toUInt8 = x by simp] at HR
        clear hit hx hxl
        cases hin : ([0, 13, 10] : List UInt8).contains x
        · rw [hin] at hcon
          have hlt0 : ¬ ((0 : Int) ≤ Lib.indexByte [0, 13, 10] x) := of_decide_eq_false hcon.symm
          clear hcon
          go_wp2_with fail
          refine (HR.out _).mono ?_
          rintro e w2 ⟨rfl, rfl⟩
          go_wp2_with fail
          go_roundg (s.size + 1 - (i + 1))
          case measure => omega
          case rel => exact ⟨i + 1, by omega, rfl, hsame, HPut.out _, HP.out.2.succ HX.out hin⟩
        · rw [hin] at hcon
          have hge : (0 : Int) ≤ Lib.indexByte [0, 13, 10] x := of_decide_eq_true hcon.symm
          clear hcon
          go_wp2_with fail
          refine (HR.out _).mono ?_
          rintro e w2 ⟨rfl, rfl⟩
          go_wp2_with fail
          go_ret
          exact ⟨by rw [Lib.indexAny_hit HP.out.2 HX.out hin]; rfl, HPut.out _⟩
      · have ha : 128 ≤ (s[i]'hlt).toNat := by omega
        have hnx := fun ty => next_at wr _ s i ty hit hlt
        have HN := Lib.hid (noAny_wide HP.out.2 hlt ha)
        have hde := decode_end s i hlt ha
        have hdh := (decode_high s i hlt ha).1
        have hdl := decode_le s i
        obtain ⟨r, hr⟩ : ∃ r, (Utf8.decode s i).1 = r := ⟨_, rfl⟩
        obtain ⟨k, hk⟩ : ∃ k, (Utf8.decode s i).2 = k := ⟨_, rfl⟩
        rw [hr] at hdh hdl
        rw [hk] at hde HN
        simp only [hr, hk] at hnx
        have hsame : (wr.putObj w1.heap.size (.stringIter s (i + k))).heap[w1.heap.size]? = some (.stringIter s (i + k)) := World.putObj_heap_same hlt1
        have HR := Lib.hid (fun w => rune_crlf (r : Int) w (by omega) (by omega))
        have hlt2 : w1.heap.size < (wr.putObj w1.heap.size (.stringIter s (i + k))).heap.size := (Array.getElem?_eq_some_iff.1 hsame).1
        clear hit ha hr hk
        go_wp2_with fail
        refine (HR.out _).mono ?_
        rintro e w2 ⟨rfl, HB2⟩
        have hs2 : w2.heap[w1.heap.size]? = some (.stringIter s (i + k)) := (HB2.block _ hlt2).trans hsame
        have HB3 := Lib.hid ((HPut.out (.stringIter s (i + k))).trans (HB2.mono (Nat.le_of_lt hlt2)))
        clear HB2 hsame
        go_wp2_with fail
        go_roundg (s.size + 1 - (i + k))
        case measure => omega
        case rel => exact ⟨i + k, by omega, rfl, hs2, HB3.out, HN.out⟩
    · have hnx := fun ty => next_at_end wr _ s i ty hit hlt
      have HN := Lib.hid (show Lib.NoAny s.data.toList [0, 13, 10] s.data.toList.length from by rw [size_len, show s.size = i by omega]; exact HP.out.2)
      go_wp2_with fail
      go_ret
      exact ⟨by rw [Lib.indexAny_none HN.out]; rfl, HP.out.1⟩

theorem info153 : (Tryz.prog.info? (Tryz.lays153_ren.t 116)).map (fun i => (i.zero, i.size)) = some (some (.agg (Array.replicate 256 (.bool false))), 256) := by kernel_rfl
theorem indexAny_many {s : ByteArray} (h8 : 8 < s.size) (hs : s.size ≤ 60000) : IndexC s (Lib.indexAny s.data.toList [0, 13, 10]) := fun w => by
  refine (Any.strings_IndexAny_long Tryz.lays153 (zero_of_info info153).1 (zero_of_info info153).2 s ⟨#[0, 13, 10]⟩ w (by decide) h8 (by omega) (by decide) (ascii_of _ (by decide))).mono fun e w' h => ⟨h.1, ?_⟩
  rw [h.2]
  exact ((Below.refl _ _).alloc (Nat.le_refl _) _).alloc (by simp) _
theorem safe_B {s : ByteArray} {b : Bool} (hb : safeB s.data.toList = b) (hs : s.size ≤ 60000) (w : World) : Calls Tryz.prog 57 #[.string s] w (RetV (.bool b) w) := by
  rcases Nat.lt_or_ge 8 s.size with h | h
  · exact safe_of (indexAny_many h hs) hb w
  · exact safe_of (indexAny_few h) hb w
end Go.Proofs.YteigjobliflkdaaGreatDoor
/- Walk: LocationReads. -/
namespace Go.Proofs.YteigjobliflkdaaGreatDoor
open Go.RowKit

theorem vLoc_form (r : Option (List UInt8 × List UInt8 × List UInt8)) : ∃ (a b c : ByteArray) (x : Int), vLoc r = .tuple #[.string a, .string b, .string c, .int .i64 x] := by
  cases r with
  | none => exact ⟨⟨#[]⟩, ⟨#[]⟩, ⟨#[]⟩, 3, rfl⟩
  | some x => exact ⟨⟨x.1.toArray⟩, ⟨x.2.1.toArray⟩, ⟨x.2.2.toArray⟩, 0, rfl⟩
set_option maxRecDepth 100000 in
set_option maxHeartbeats 8000000 in
theorem locationReads_t (s n : ByteArray) (w : World) (hG : Good w) : Calls Tryz.prog 11 #[.string s, .string n] w (RetV (.bool true) w) := by
  by_cases hd1 : 800 < s.size
  · have d1 : decide ((800 : Int) < (s.size : Int)) = true := by simp; omega
    go_enter Tryz.func11, Tryz.ntmps11
    go_wp2_with fail
    refine (awake17_t _ hG).mono ?_
    rintro e w1 ⟨rfl, HB⟩
    go_wp2_with fail
    go_ret
    exact RetV.mk rfl HB
  have d1 : decide ((800 : Int) < (s.size : Int)) = false := by simp; omega
  by_cases hd2 : 800 < n.size
  · have d2 : decide ((800 : Int) < (n.size : Int)) = true := by simp; omega
    go_enter Tryz.func11, Tryz.ntmps11
    go_wp2_with fail
    refine (awake17_t _ hG).mono ?_
    rintro e w1 ⟨rfl, HB⟩
    go_wp2_with fail
    go_ret
    exact RetV.mk rfl HB
  have d2 : decide ((800 : Int) < (n.size : Int)) = false := by simp; omega
  obtain ⟨a, b, c, x, hsp⟩ := vLoc_form (locSplit s.data.toList)
  obtain ⟨m, y, hown⟩ : ∃ m y, locOwn s.data.toList n.data.toList = (m, y) := ⟨_, _, rfl⟩
  obtain ⟨z, hz⟩ : ∃ z, safeB s.data.toList = z := ⟨_, rfl⟩
  have C1 := Lib.hid (fun w hG => by have := splitL_any s w hG (by omega); rw [hsp] at this; exact this)
  have C2 := Lib.hid (fun w => by have := split_refL s w (by omega); rw [hsp] at this; exact this)
  have C3 := Lib.hid (own_B hown (by omega) (by omega))
  have C4 := Lib.hid (ownR_B hown (by omega) (by omega))
  have C5 := Lib.hid (safe_B hz (by omega))
  have C6 := Lib.hid (fun w => by have := safe_ref s w (by omega); rw [hz] at this; exact this)
  have hset := setB_run stayN stayN
  rw [setB_self] at hset
  clear hsp hown hz
  go_enter Tryz.func11, Tryz.ntmps11
  go_wp2_with fail
  refine (C1.out _ hG).mono ?_
  rintro e w1 ⟨rfl, HBc⟩
  replace hG := hG.next HBc
  go_wp2_with fail
  refine (C2.out _).mono ?_
  rintro e w1 ⟨rfl, HB⟩
  replace HBc := below2 HBc HB
  replace hG := hG.next HB
  clear HB
  go_wp2_with fail
  refine (C3.out _ hG).mono ?_
  rintro e w1 ⟨rfl, HB⟩
  replace HBc := below2 HBc HB
  replace hG := hG.next HB
  clear HB
  go_wp2_with fail
  refine (C4.out _).mono ?_
  rintro e w1 ⟨rfl, HB⟩
  replace HBc := below2 HBc HB
  replace hG := hG.next HB
  clear HB
  cases m <;> cases z
  all_goals
    go_wp2_with fail
    refine (C5.out _).mono ?_
    rintro e w1 ⟨rfl, HB⟩
    replace HBc := below2 HBc HB
    replace hG := hG.next HB
    clear HB
    go_wp2_with fail
    refine (C6.out _).mono ?_
    rintro e w1 ⟨rfl, rfl⟩
    go_wp2_with fail
    refine (locStay_any _).mono ?_
    rintro e w1 ⟨rfl, HB⟩
    replace HBc := below2 HBc HB
    replace hG := hG.next HB
    clear HB
    unfold setV
    go_wp2_with fail
    refine (stay_refB _).mono ?_
    rintro e w1 ⟨rfl, HB⟩
    replace HBc := below2 HBc HB
    replace hG := hG.next HB
    clear HB
    unfold setV
    go_wp2_with fail
    refine (awake17_t _ hG).mono ?_
    rintro e w1 ⟨rfl, HB⟩
    replace HBc := below2 HBc HB
    replace hG := hG.next HB
    clear HB
    go_wp2_with fail
    go_ret
    exact RetV.mk rfl HBc
end Go.Proofs.YteigjobliflkdaaGreatDoor
