/- Walks: waypostref15's Normal, Is, Same, Labels. -/
import Derived.Test.YteigjobliflkdaaGreatDoorR15b
import Derived.Lib.ItoaLen
namespace Go.Proofs.YteigjobliflkdaaGreatDoor
open Go.RowKit

/-- A string, or an error. -/
def vStr : Except Int (List UInt8) → Value
  | .error e => .tuple #[.string ⟨#[]⟩, .int .i64 e]
  | .ok n => .tuple #[S n, .int .i64 0]

theorem strOk {f : Nat} {args : Array Value} {w : World} {x : Except Int (List UInt8)} {n : List UInt8} (H : Calls Tryz.prog f args w (RetV (vStr x) w)) (h : x = .ok n) :
    Calls Tryz.prog f args w fun e w' => e = .returned (.tuple #[.string ⟨n.toArray⟩, .int .i64 0]) ∧ Below w.heap.size w w' := by subst h; exact H
theorem strErr {f : Nat} {args : Array Value} {w : World} {x : Except Int (List UInt8)} {e : Int} (H : Calls Tryz.prog f args w (RetV (vStr x) w)) (h : x = .error e) :
    Calls Tryz.prog f args w fun e' w' => e' = .returned (.tuple #[.string ⟨#[]⟩, .int .i64 e]) ∧ Below w.heap.size w w' := by subst h; exact H
/-- Split's contract, at a function's number. -/
def SplitC (f : Nat) : Prop := ∀ (s : ByteArray) (w : World), s.size ≤ 60000 → Calls Tryz.prog f #[.string s] w (RetV (vSplit (hostSplit s.data.toList)) w)
theorem SplitC.ok {f : Nat} (H : SplitC f) {s : ByteArray} {n : List UInt8} {p : Int} (h : hostSplit s.data.toList = .ok (n, p)) (hs : s.size ≤ 60000) (w : World) :
    Calls Tryz.prog f #[.string s] w fun e w' => e = .returned (.tuple #[.string ⟨n.toArray⟩, .int .i64 p, .int .i64 0]) ∧ Below w.heap.size w w' := by
  have := H s w hs; rw [h] at this; exact this
theorem SplitC.err {f : Nat} (H : SplitC f) {s : ByteArray} {x : Int} (h : hostSplit s.data.toList = .error x) (hs : s.size ≤ 60000) (w : World) :
    Calls Tryz.prog f #[.string s] w fun e w' => e = .returned (.tuple #[.string ⟨#[]⟩, .int .i64 0, .int .i64 x]) ∧ Below w.heap.size w w' := by
  have := H s w hs; rw [h] at this; exact this
theorem split_refC : SplitC 27 := split_ref
theorem err_ne {l : List UInt8} {e : Int} (h : hostSplit l = .error e) : (e != 0) = true ∧ (e == 0) = false := by
  rcases hostSplit_err h with rfl | rfl | rfl <;> decide

/-- m is still to be written before O. -/
def DecAt (n m : Nat) (O : List UInt8) : Prop := Lib.decDigits n = (if m = 0 then [] else Lib.decDigits m) ++ O
theorem DecAt.next {n m : Nat} {O : List UInt8} (h : DecAt n m O) (hm : 0 < m) : DecAt n (m / 10) (UInt8.ofNat (48 + m % 10) :: O) := by
  unfold DecAt at h ⊢
  rw [h, if_neg (by omega)]
  by_cases h10 : m < 10
  · rw [if_pos (by omega), Lib.decDigits_one h10, Nat.mod_eq_of_lt h10]; rfl
  · rw [if_neg (by omega)]
    conv => lhs; rw [Lib.decDigits, dif_neg h10]
    simp

set_option maxRecDepth 100000 in
set_option maxHeartbeats 800000 in
theorem decimal_ref (n : Nat) (w : World) (h1 : 1 ≤ n) (h2 : n ≤ 65535) :
    Calls Tryz.prog 140 #[.int .i64 n] w fun e w' => e = .returned (.string ⟨(Lib.itoa n).toArray⟩) ∧ Below w.heap.size w w' := by
  have HI := Lib.hid (Lib.itoa_nonneg n)
  go_enter Tryz.func140, Tryz.ntmps140
  go_wp2_with (fail)
  go_loopw [0, 3] (fun i o wr => ∃ (m : Nat) (t : ByteArray), m ≤ 65535 ∧ t.size + m ≤ 65535 ∧ i = .int .i64 m ∧ o = .string t ∧ Hid (DecAt n m t.data.toList) ∧ Below w.heap.size w wr) (fun i _ _ => (intOf i).toNat)
  case atStart => exact ⟨n, ⟨#[]⟩, by omega, by show 0 + n ≤ 65535; omega, rfl, rfl, by show DecAt _ _ _; unfold DecAt; rw [if_neg (by omega)]; simp, Below.refl _ _⟩
  case round =>
    obtain ⟨m, t, hm, ht, rfl, rfl, HD, HB⟩ := hrel
    by_cases hpos : 0 < m
    · have hcv := conv_one wr (48 + (m : Int) % 10) (by omega) (by omega)
      have HN := Lib.hid (HD.out.next hpos)
      go_wp2_with (fail)
      go_roundw
      case rel => exact ⟨m / 10, ⟨#[48 + UInt8.ofNat (m % 10)]⟩ ++ t, by omega, by rw [ByteArray.size_append]; show 1 + t.size + m / 10 ≤ 65535; omega, congrArg (Value.int .i64) (by omega), rfl, by
        have h := HN.out
        show DecAt _ _ _
        rw [show (48 : UInt8) + UInt8.ofNat (m % 10) = UInt8.ofNat (48 + m % 10) by rw [UInt8.ofNat_add]; rfl]
        simpa using h, HB.alloc HB.size _⟩
      case measure => (simp [intOf]; try omega)
    · go_wp2_with (fail)
      go_ret
      have := HD.out
      unfold DecAt at this
      rw [if_pos (by omega)] at this
      exact ⟨ret_str (by rw [HI.out, this]; simp), HB⟩
theorem itoa_len (n : Nat) (h : n ≤ 65535) : (Lib.itoa n).length ≤ 21 := Lib.itoa_length_le n (by omega) (by omega)
theorem bs_ext {a b : ByteArray} (h : a.data.toList = b.data.toList) : a = b := by
  have := Array.toList_inj.1 h
  cases a; cases b; simp_all
theorem tup2 {a a' b b' : Value} (h1 : a = a') (h2 : b = b') : Value.tuple #[a, b] = .tuple #[a', b'] := by rw [h1, h2]
theorem tup3 {a a' b b' c c' : Value} (h1 : a = a') (h2 : b = b') (h3 : c = c') : Value.tuple #[a, b, c] = .tuple #[a', b', c'] := by rw [h1, h2, h3]
theorem size_mk (l : List UInt8) : (⟨l.toArray⟩ : ByteArray).size = l.length := by simp [ByteArray.size]

set_option maxRecDepth 100000 in
set_option maxHeartbeats 800000 in
theorem written_ref (s : ByteArray) (p : Int) (w : World) (hs : s.size ≤ 60000) (h1 : 1 ≤ p) (h2 : p ≤ 65535) :
    Calls Tryz.prog 99 #[.string s, .int .i64 p] w (RetV (vStr (hostWritten s.data.toList p)) w) := by
  obtain ⟨n, rfl⟩ := Int.eq_ofNat_of_zero_le (show 0 ≤ p by omega)
  by_cases h80 : (n : Int) = 80
  · have hb : ((n : Int) != 80) = false := by simp; omega
    by_cases h64 : 64 < s.size
    · have HE := Lib.hid (show hostWritten s.data.toList n = .error 4 by unfold hostWritten hostWrite; rw [if_pos h80, if_pos (by rw [size_len]; exact h64)])
      clear h80
      go_enter Tryz.func99, Tryz.ntmps99
      go_wp2_with fail
      go_ret2
      exact RetV.of (f := vStr) _ HE.out rfl (Below.refl _ _)
    · have HE := Lib.hid (show hostWritten s.data.toList n = .ok s.data.toList by unfold hostWritten hostWrite; rw [if_pos h80, if_neg (by rw [size_len]; exact h64)])
      clear h80
      go_enter Tryz.func99, Tryz.ntmps99
      go_wp2_with fail
      go_ret2
      exact RetV.of (f := vStr) _ HE.out rfl (Below.refl _ _)
  · have hb : ((n : Int) != 80) = true := by simp; omega
    have HW := Lib.hid (show hostWrite s.data.toList n = s.data.toList ++ 58 :: Lib.itoa n by unfold hostWrite; rw [if_neg h80])
    have hil := itoa_len n (by omega)
    clear h80
    by_cases h64 : 64 < s.size + 1 + (Lib.itoa (n : Int)).length
    · have HE := Lib.hid (show hostWritten s.data.toList n = .error 4 by unfold hostWritten; rw [HW.out, if_pos (by simp; omega)])
      go_enter Tryz.func99, Tryz.ntmps99
      go_wp2_with (go_at_call 140; refine (decimal_ref _ _ (by omega) (by omega)).mono ?_; rintro e w1 ⟨rfl, HB⟩)
      go_ret2
      exact RetV.of (f := vStr) _ HE.out rfl HB
    · have HE := Lib.hid (show hostWritten s.data.toList n = .ok (s.data.toList ++ 58 :: Lib.itoa n) by unfold hostWritten; rw [HW.out, if_neg (by simp; omega)])
      go_enter Tryz.func99, Tryz.ntmps99
      go_wp2_with (go_at_call 140; refine (decimal_ref _ _ (by omega) (by omega)).mono ?_; rintro e w1 ⟨rfl, HB⟩)
      go_ret2
      exact RetV.of (f := vStr) _ HE.out (tup2 (congrArg Value.string (bs_ext (by simp [ByteArray.data_append]))) rfl) HB

theorem WrittenNormal {l n : List UInt8} {p : Int} (h : hostSplit l = .ok (n, p)) : hostNormal l = hostWritten n p := by unfold hostNormal; rw [h]
theorem written_ref' {n : List UInt8} {p : Int} (w : World) (hs : n.length ≤ 60000) (h1 : 1 ≤ p) (h2 : p ≤ 65535) :
    Calls Tryz.prog 99 #[.string ⟨n.toArray⟩, .int .i64 p] w (RetV (vStr (hostWritten n p)) w) := by
  have := written_ref ⟨n.toArray⟩ p w (by rw [size_mk]; exact hs) h1 h2
  simpa using this

set_option maxRecDepth 100000 in
set_option maxHeartbeats 800000 in
theorem normal_ref (s : ByteArray) (w : World) (hs : s.size ≤ 60000) :
    Calls Tryz.prog 29 #[.string s] w (RetV (vStr (hostNormal s.data.toList)) w) := by
  cases hh : hostSplit s.data.toList with
  | error x =>
    have hx := (err_ne hh).1
    have HE := Lib.hid (show hostNormal s.data.toList = .error x by unfold hostNormal; rw [hh])
    have HH := Lib.hid hh
    clear hh
    go_enter Tryz.func29, Tryz.ntmps29
    go_wp2_with (go_at_call 27; refine (split_refC.err HH.out hs _).mono ?_; rintro e w1 ⟨rfl, HB⟩)
    go_ret2
    exact RetV.of (f := vStr) _ HE.out rfl HB
  | ok r =>
    obtain ⟨n, p⟩ := r
    have hk := hostSplit_ok hh
    have HN := Lib.hid (WrittenNormal hh)
    have HH := Lib.hid hh
    obtain ⟨hp1, hp2, hn1, hn2, hn3⟩ := hk
    clear hh hn3
    rw [HN.out]
    cases hw : hostWritten n p with
    | error x =>
      have HW := Lib.hid hw
      clear hw
      go_enter Tryz.func29, Tryz.ntmps29
      go_wp2_with (first | (go_at_call 27; refine (split_refC.ok HH.out hs _).mono ?_; rintro e w1 ⟨rfl, HB⟩) | (go_at_call 99; refine (strErr (written_ref' _ (by omega) hp1 hp2) HW.out).mono ?_; rintro e w2 ⟨rfl, HB2⟩))
      go_ret2
      exact RetV.mk rfl (HB.trans (HB2.mono HB.size))
    | ok m =>
      have HW := Lib.hid hw
      clear hw
      go_enter Tryz.func29, Tryz.ntmps29
      go_wp2_with (first | (go_at_call 27; refine (split_refC.ok HH.out hs _).mono ?_; rintro e w1 ⟨rfl, HB⟩) | (go_at_call 99; refine (strOk (written_ref' _ (by omega) hp1 hp2) HW.out).mono ?_; rintro e w2 ⟨rfl, HB2⟩))
      go_ret2
      exact RetV.mk rfl (HB.trans (HB2.mono HB.size))

/-- Normal's contract, at a function's number. -/
def NormalC (f : Nat) : Prop := ∀ (s : ByteArray) (w : World), s.size ≤ 60000 → Calls Tryz.prog f #[.string s] w (RetV (vStr (hostNormal s.data.toList)) w)
theorem normal_refC : NormalC 29 := normal_ref
theorem hostNormal_err {l : List UInt8} {e : Int} (h : hostNormal l = .error e) : e = 2 ∨ e = 3 ∨ e = 4 := by
  unfold hostNormal at h
  split at h
  · rename_i x hx; injection h with h; subst h; exact hostSplit_err hx
  · unfold hostWritten at h; split at h
    · injection h with h; subst h; simp
    · cases h
theorem errn_ne {l : List UInt8} {e : Int} (h : hostNormal l = .error e) : (e != 0) = true ∧ (e == 0) = false := by
  rcases hostNormal_err h with rfl | rfl | rfl <;> decide

theorem is_ref (s : ByteArray) (w : World) (hs : s.size ≤ 60000) :
    Calls Tryz.prog 31 #[.string s] w (RetV (.bool (hostIs s.data.toList)) w) := by
  cases hh : hostNormal s.data.toList with
  | error x =>
    have hx := (errn_ne hh).2
    have HE := Lib.hid (show hostIs s.data.toList = false by unfold hostIs; rw [hh])
    have HH := Lib.hid hh
    clear hh
    go_enter Tryz.func31, Tryz.ntmps31
    go_wp2_with (go_at_call 29; refine (strErr (normal_ref s _ hs) HH.out).mono ?_; rintro e w1 ⟨rfl, HB⟩)
    go_ret
    exact RetV.of (f := Value.bool) _ HE.out rfl HB
  | ok n =>
    have HE := Lib.hid (show hostIs s.data.toList = (n == s.data.toList) by unfold hostIs; rw [hh])
    have HH := Lib.hid hh
    have HT := Lib.hid (Lib.toList_data s)
    have HT2 := Lib.hid (Lib.toList_data ⟨n.toArray⟩)
    clear hh
    go_enter Tryz.func31, Tryz.ntmps31
    go_wp2_with (go_at_call 29; refine (strOk (normal_ref s _ hs) HH.out).mono ?_; rintro e w1 ⟨rfl, HB⟩)
    go_ret
    exact RetV.of (f := Value.bool) _ HE.out (congrArg (fun l => Value.bool (n == l)) (Lib.toList_data s)) HB

/-- A bool and an error. -/
def vBool (r : Bool × Int) : Value := .tuple #[.bool r.1, .int .i64 r.2]

set_option maxRecDepth 100000 in
theorem same_ref (s t : ByteArray) (w : World) (hs : s.size ≤ 60000) (ht : t.size ≤ 60000) :
    Calls Tryz.prog 21 #[.string s, .string t] w (RetV (vBool (hostSame s.data.toList t.data.toList)) w) := by
  cases hh : hostSplit s.data.toList with
  | error x =>
    have hx := (err_ne hh).1
    have HE := Lib.hid (show hostSame s.data.toList t.data.toList = (false, x) by unfold hostSame; rw [hh])
    have HH := Lib.hid hh
    clear hh
    go_enter Tryz.func21, Tryz.ntmps21
    go_wp2_with (go_at_call 27; refine (split_refC.err HH.out hs _).mono ?_; rintro e w1 ⟨rfl, HB⟩)
    go_ret2
    exact RetV.of (f := vBool) _ HE.out rfl HB
  | ok r =>
    obtain ⟨n, p⟩ := r
    have HH := Lib.hid hh
    cases hg : hostSplit t.data.toList with
    | error x =>
      have hx := (err_ne hg).2
      have HE := Lib.hid (show hostSame s.data.toList t.data.toList = (false, x) by unfold hostSame; rw [hh, hg])
      have HG := Lib.hid hg
      clear hh hg
      go_enter Tryz.func21, Tryz.ntmps21
      go_wp2_with fail
      refine (split_refC.ok HH.out hs _).mono ?_
      rintro e w1 ⟨rfl, HB⟩
      go_wp2_with fail
      refine (split_refC.err HG.out ht _).mono ?_
      rintro e w2 ⟨rfl, HB2⟩
      go_wp2_with fail
      go_ret2
      exact RetV.of (f := vBool) _ HE.out rfl (HB.trans (HB2.mono HB.size))
    | ok r =>
      obtain ⟨m, q⟩ := r
      have HE := Lib.hid (show hostSame s.data.toList t.data.toList = (n == m && p == q, 0) by unfold hostSame; rw [hh, hg])
      have HG := Lib.hid hg
      clear hh hg
      go_enter Tryz.func21, Tryz.ntmps21
      go_wp2_with fail
      refine (split_refC.ok HH.out hs _).mono ?_
      rintro e w1 ⟨rfl, HB⟩
      go_wp2_with fail
      refine (split_refC.ok HG.out ht _).mono ?_
      rintro e w2 ⟨rfl, HB2⟩
      go_wp2_with fail
      · have e : n = m := by assumption
        go_ret2
        exact RetV.of (f := vBool) _ HE.out (tup2 (congrArg Value.bool (show (p == q) = (n == m && p == q) by rw [e]; simp)) rfl) (HB.trans (HB2.mono HB.size))
      · have e : ¬ n = m := by assumption
        go_ret2
        exact RetV.of (f := vBool) _ HE.out (tup2 (congrArg Value.bool (show false = (n == m && p == q) by rw [beq_eq_false_iff_ne.2 e]; rfl)) rfl) (HB.trans (HB2.mono HB.size))

/-- A slice of strings and an error. -/
def RetLabels (r : Except Int (List (List UInt8))) (w : World) (e : Ending) (w' : World) : Prop :=
  match r with
  | .error x => e = .returned (.tuple #[.slice none 0 0, .int .i64 x]) ∧ Below w.heap.size w w'
  | .ok L => ∃ g cap, e = .returned (.tuple #[.slice (some ⟨g, 0, none⟩) L.length cap, .int .i64 0]) ∧ w'.ownsRow w.heap.size 9 1 (.slice (some ⟨g, 0, none⟩) L.length cap) L.length (L.map S) ∧ Below w.heap.size w w'

theorem own_mono {w : World} {B B' e size : Nat} {v : Value} {n : Nat} {xs : List Value} (h : w.ownsRow B e size v n xs) (hB : B' ≤ B) : w.ownsRow B' e size v n xs := by
  obtain ⟨h1, h2 | ⟨g, cap, cur, a, b, c⟩⟩ := h
  · exact ⟨h1, Or.inl h2⟩
  · exact ⟨h1, Or.inr ⟨g, cap, cur, a, Nat.le_trans hB b, c⟩⟩

set_option maxRecDepth 100000 in
theorem labels_refL (s : ByteArray) (w : World) (hs : s.size ≤ 60000) :
    Calls Tryz.prog 33 #[.string s] w (RetLabels (hostLabels s.data.toList) w) := by
  cases hh : hostSplit s.data.toList with
  | error x =>
    have hx := (err_ne hh).1
    rw [show hostLabels s.data.toList = .error x by unfold hostLabels; rw [hh]]
    have HH := Lib.hid hh
    clear hh
    unfold RetLabels
    go_enter Tryz.func33, Tryz.ntmps33
    go_wp2_with (go_at_call 27; refine (split_refC.err HH.out hs _).mono ?_; rintro e w1 ⟨rfl, HB⟩)
    go_ret2
    exact ⟨rfl, HB⟩
  | ok r =>
    obtain ⟨n, p⟩ := r
    rw [show hostLabels s.data.toList = .ok (segs 46 n) by unfold hostLabels; rw [hh]]
    have hn : n.length ≤ 64 := (hostSplit_ok hh).2.2.1
    have HH := Lib.hid hh
    clear hh
    unfold RetLabels
    go_enter Tryz.func33, Tryz.ntmps33
    go_wp2_with fail
    refine (split_refC.ok HH.out hs _).mono ?_
    rintro e w1 ⟨rfl, HB⟩
    go_wp2_with fail
    refine (labels_ref _ _ (by rw [size_mk]; omega)).mono fun e w' h => ?_
    obtain ⟨g, cap, rfl, hown, HB2⟩ := h.one (segs_ne _ _)
    clear h
    go_wp2_with fail
    go_ret2
    exact ⟨g, cap, rfl, own_mono hown HB.size, HB.trans (HB2.mono HB.size)⟩
end Go.Proofs.YteigjobliflkdaaGreatDoor
