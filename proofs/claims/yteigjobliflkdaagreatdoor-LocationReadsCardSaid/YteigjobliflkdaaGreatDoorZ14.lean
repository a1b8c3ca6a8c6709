/- Texts of this claim, joined in build order: R18, R14c, R14d, R18b, T1. -/
import Derived.Test.YteigjobliflkdaaGreatDoorZ3
import Derived.Test.YteigjobliflkdaaGreatDoorZ2
import Derived.Test.YteigjobliflkdaaGreatDoorZ4
import Derived.Deep.LoopGhost
import Derived.StillTailTactics
import Derived.IntWalk
import Derived.Deep.RegionWith
import Derived.WalkSmall
import Derived.Test.YteigjobliflkdaaGreatDoorZ11
import Derived.Test.YteigjobliflkdaaGreatDoorZ10
/- Walks: waypostref18 (Chars, is, divided, Split), waypostref01.All. -/
namespace Go.Proofs.YteigjobliflkdaaGreatDoor
open Go.RowKit

def charUp (k : Nat) : Nat → Bool := fun n => charN n && decide (n < k)
theorem charUp_yes (k : Nat) (h : charN k = true) (n : Nat) : (charUp k n || decide (n = k)) = charUp (k + 1) n := by
  unfold charUp
  by_cases e : n = k
  · subst e; simp [h]
  · have : decide (n < k + 1) = decide (n < k) := by rw [decide_eq_decide]; omega
    rw [this]; simp [e]
theorem charUp_no (k : Nat) (h : charN k = false) (n : Nat) : charUp k n = charUp (k + 1) n := by
  unfold charUp
  by_cases e : n = k
  · subst e; simp [h]
  · have : decide (n < k + 1) = decide (n < k) := by rw [decide_eq_decide]; omega
    rw [this]
theorem charUp_start (n : Nat) : charUp 33 n = false := by
  unfold charUp charN
  rw [Bool.eq_false_iff]; simp; omega
theorem charUp_end (n : Nat) : charUp 127 n = charN n := by
  unfold charUp charN
  rw [Bool.eq_iff_iff]; simp; omega

set_option maxRecDepth 100000 in
set_option maxHeartbeats 8000000 in
theorem chars_ref (w : World) : Calls Tryz.prog 80 #[] w (RetV (setV charN) w) := by
  have HW := Lib.hid union2_ref
  have HO := Lib.hid of1_ref
  go_enter Tryz.func80, Tryz.ntmps80
  go_wp2_with fail
  go_loopg [2] 94 (fun gh i wr => ∃ k : Nat, 33 ≤ k ∧ k ≤ 127 ∧ gh = 127 - k ∧ i = .int .i64 k ∧ SetAt wr (w.heap.size + 1) (charUp k) ∧ SetAt wr w.heap.size (fun _ => false) ∧ Below w.heap.size w wr ∧ w.heap.size + 1 < wr.heap.size)
  case atStart => exact ⟨33, by omega, by omega, rfl, rfl, SetAt.congr (SetAt.zero (heap_alloc2_new _ _ _)) (fun n _ => (charUp_start n).symm), SetAt.zero (heap_alloc2_old _ _ _), ((Below.refl _ _).alloc (Nat.le_refl _) _).alloc (by simp) _, by simp⟩
  case round =>
    obtain ⟨k, hk0, hk, hgk, rfl, HA, HZ, HB, hlt1⟩ := hrel
    have HAh := Lib.hid HA
    have HZh := Lib.hid HZ
    by_cases hlt : k < 127
    · have d1 : decide ((k : Int) ≤ 126) = true := by simp; omega
      have hk256 : k < 256 := by omega
      by_cases h35 : k = 35
      · have HN := Lib.hid (HA.congr fun n _ => charUp_no k (by rw [h35]; rfl) n)
        have d2 : ((k : Int) != 35) = false := by simp; omega
        clear h35
        go_wp2_with fail
        go_roundg (126 - k)
        case measure => omega
        case rel => exact ⟨k + 1, by omega, by omega, by omega, by go_num, HN.out, HZh.out, HB, hlt1⟩
      · have hch : charN k = true := by simp only [charN, Bool.and_eq_true, decide_eq_true_eq, Bool.not_eq_true', decide_eq_false_iff_not]; omega
        have HN := Lib.hid (charUp_yes k hch)
        have d2 : ((k : Int) != 35) = true := by simp; omega
        have hwr : IntKind.u8.wrap (k : Int) = (k : Int) := by rw [IntKind.wrap_u8']; omega
        have c0 := HA.cell 0 (by decide)
        have c1 := HA.cell 1 (by decide)
        have c2 := HA.cell 2 (by decide)
        have c3 := HA.cell 3 (by decide)
        clear h35 hch
        go_wp2_with fail
        go_region_with (first
          | (go_at_call 117; refine (HO.out k hk256 _ _ (by exact heap_alloc_new _ _)).mono ?_; rintro e wx ⟨rfl, HBx⟩; unfold setV; (have HAx := Lib.hid (SetAt.below (SetAt.drew (SetAt.alloc HAh.out _)) HBx)); (have HZx := Lib.hid (SetAt.below (SetAt.drew (SetAt.alloc HZh.out _)) HBx)); (have e0 := HAx.out.cell 0 (by decide)); (have e1 := HAx.out.cell 1 (by decide)); (have e2 := HAx.out.cell 2 (by decide)); (have e3 := HAx.out.cell 3 (by decide)))
          | (go_at_call 118; refine (HW.out (charUp k) (fun n => decide (n = k)) _ _ (by exact heap_alloc_new _ _)).mono ?_; rintro e wy ⟨rfl, HBy⟩; unfold setV; (have HAy := Lib.hid (SetAt.below (SetAt.alloc HAx.out _) HBy)); (have HZy := Lib.hid (SetAt.below (SetAt.alloc HZx.out _) HBy)); (have hs3 : w.heap.size + 1 < wy.heap.size := by have q1 := HBx.size; have q2 := HBy.size; simp at q1 q2; omega); (have HPy := Lib.hid (HAy.out.put (Q := fun n => charUp k n || decide (n = k)))); (have g0 := HAy.out.cell 0 (by decide)); (have g1 := HAy.out.cell 1 (by decide)); (have g2 := HAy.out.cell 2 (by decide)); (have g3 := HAy.out.cell 3 (by decide)); (have y0 := HAy.out.frozen 0); (have y1 := HAy.out.frozen 1); (have y2 := HAy.out.frozen 2); (have y3 := HAy.out.frozen 3)))
        all_goals
          go_wp2_with fail
          go_roundg (126 - k)
          case measure => omega
          case rel => exact ⟨k + 1, by omega, by omega, by omega, by go_num, HPy.out.congr fun n _ => HN.out n, (((HZy.out.other (by omega)).other (by omega)).other (by omega)).other (by omega), ((((below2 (below2 (HB.alloc HB.size _).drew HBx) (below2 ((Below.refl _ _).alloc (Nat.le_refl _) _) HBy)).setCell (by simp) _).setCell (by simp) _).setCell (by simp) _).setCell (by simp) _, by simpa using hs3⟩
    · have hk' : k = 127 := by omega
      subst hk'
      have HE := Lib.hid (setV_congr fun n _ => charUp_end n)
      have c0 := HA.cell 0 (by decide)
      have c1 := HA.cell 1 (by decide)
      have c2 := HA.cell 2 (by decide)
      have c3 := HA.cell 3 (by decide)
      have z0 := HZ.cell 0 (by decide)
      have z1 := HZ.cell 1 (by decide)
      have z2 := HZ.cell 2 (by decide)
      have z3 := HZ.cell 3 (by decide)
      have y0 := HZ.frozen 0
      have y1 := HZ.frozen 1
      have y2 := HZ.frozen 2
      have y3 := HZ.frozen 3
      have HR := Lib.hid (HZ.put (Q := charUp 127))
      go_wp2_with fail
      exact bodyPost_ret (set_results Tryz.results80 rfl HR.out) rfl (RetV.mk HE.out ((((HB.setCell (Nat.le_refl _) _).setCell (Nat.le_refl _) _).setCell (Nat.le_refl _) _).setCell (Nat.le_refl _) _))

set_option maxRecDepth 100000 in
set_option maxHeartbeats 1600000 in
theorem all_ref (P : Nat → Bool) (s : ByteArray) (w : World) (hs : s.size ≤ 60000) :
    Calls Tryz.prog 164 #[setV P, .string s] w (RetV (.bool (s.data.toList.all fun b => P b.toNat)) w) := by
  unfold setV
  go_enter Tryz.func164, Tryz.ntmps164
  go_wp2_with fail
  go_loopw [5] (fun i wr => ∃ k : Nat, k ≤ s.size ∧ i = .int .i64 k ∧ Hid ((s.data.toList.take k).all (fun b => P b.toNat) = true) ∧ SetAt wr w.heap.size P ∧ Below w.heap.size w wr) (fun i _ => s.size - (intOf i).toNat)
  case atStart => exact ⟨0, Nat.zero_le _, rfl, rfl, heap_alloc_new _ _, (Below.refl _ _).alloc (Nat.le_refl _) _⟩
  case round =>
    obtain ⟨k, hk, rfl, HA, HS, HB⟩ := hrel
    by_cases hlt : k < s.size
    · have d1 : decide ((k : Int) < (s.size : Int)) = true := by simp; omega
      have c0 := HS.cell 0 (by decide)
      have c1 := HS.cell 1 (by decide)
      have c2 := HS.cell 2 (by decide)
      have c3 := HS.cell 3 (by decide)
      have HSh := Lib.hid HS
      have hz := HB.size
      cases hp : P s[k].toNat with
      | true =>
        have HN := Lib.hid (all_snoc (p := fun b => P b.toNat) s k hlt HA.out hp)
        have HH := Lib.hid (fun w => by have := has_ref P s[k] w; rw [hp] at this; exact this)
        clear hp
        go_wp2_with fail
        have b1 : (0 : Int) ≤ k := by omega
        have b2 : (k : Int) < s.size := by omega
        go_still_tail 4, (by kernel_rfl)
        change wpList _ _ _ _ _ wr.drew
        go_wp2_with fail
        refine (HH.out _).mono ?_
        rintro e wx ⟨rfl, HBx⟩
        go_wp2_with fail
        go_roundw
        case rel => exact ⟨k + 1, by omega, by go_num, HN, SetAt.below (SetAt.drew HSh.out) HBx, below2 HB.drew HBx⟩
        case measure => (simp [intOf]; try omega)
      | false =>
        have HN := Lib.hid (all_bad (p := fun b => P b.toNat) s k hlt hp)
        have HH := Lib.hid (fun w => by have := has_ref P s[k] w; rw [hp] at this; exact this)
        clear hp
        go_wp2_with fail
        have b1 : (0 : Int) ≤ k := by omega
        have b2 : (k : Int) < s.size := by omega
        go_still_tail 4, (by kernel_rfl)
        change wpList _ _ _ _ _ wr.drew
        go_wp2_with fail
        refine (HH.out _).mono ?_
        rintro e wx ⟨rfl, HBx⟩
        go_wp2_with fail
        go_ret
        exact RetV.mk (by rw [HN.out]; rfl) (below2 HB.drew HBx)
    · have d1 : decide ((k : Int) < (s.size : Int)) = false := by simp; omega
      have HN := Lib.hid (all_end (p := fun b => P b.toNat) s k (by omega) HA.out)
      go_wp2_with fail
      go_ret
      exact RetV.mk (by rw [HN.out]; rfl) HB

theorem all_refB {P : Nat → Bool} {s : ByteArray} {b : Bool} (h : (s.data.toList.all fun b => P b.toNat) = b) (hs : s.size ≤ 60000) (w : World) :
    Calls Tryz.prog 164 #[setV P, .string s] w (RetV (.bool b) w) := by
  have := all_ref P s w hs; rwa [h] at this
set_option maxRecDepth 100000 in
theorem is18_ref (s : ByteArray) (w : World) (hs : s.size ≤ 60000) :
    Calls Tryz.prog 125 #[.string s] w (RetV (.bool (s.data.toList.head? == some 47 && qryB s.data.toList)) w) := by
  by_cases h0 : s.size = 0
  · have := bs_nil h0
    have HF := Lib.hid (show (s.data.toList.head? == some 47 && qryB s.data.toList) = false by rw [show s.data.toList = [] from List.length_eq_zero_iff.1 (by rw [size_len]; exact h0)]; rfl)
    clear h0
    go_enter Tryz.func125, Tryz.ntmps125
    go_wp2_with (fail)
    go_ret
    exact RetV.mk (by rw [HF.out]; rfl) (Below.refl _ _)
  have hpos : 0 < s.size := by omega
  have hne := bs_ne hpos
  have hh : s.data.toList.head? = some s[0] := by
    rw [List.head?_eq_getElem?, List.getElem?_eq_getElem (by rw [size_len]; exact hpos)]; rfl
  clear h0
  by_cases h1 : s[0].toNat = 47
  · obtain ⟨qb, hqb⟩ : ∃ qb, qryB s.data.toList = qb := ⟨_, rfl⟩
    have HF := Lib.hid (show (s.data.toList.head? == some 47 && qryB s.data.toList) = qb by
      rw [hh, show (some s[0] == some (47 : UInt8)) = true by rw [beq_iff_eq]; exact congrArg some (UInt8.toNat_inj.1 h1), Bool.true_and]; exact hqb)
    have HQ := Lib.hid (all_refB (P := charN) (show (s.data.toList.all fun b => charN b.toNat) = qb from hqb) hs)
    clear hqb
    have e1 : ((s[0].toNat : Int) == 47) = true := by simp; omega
    clear h1 hh
    go_enter Tryz.func125, Tryz.ntmps125
    go_wp2_with (fail)
    refine (chars_ref _).mono ?_
    rintro e w1 ⟨rfl, HB1⟩
    go_wp2_with (fail)
    refine (HQ.out _).mono ?_
    rintro e w2 ⟨rfl, HB2⟩
    go_wp2_with (fail)
    go_ret
    exact RetV.mk (by rw [HF.out]; rfl) (below2 HB1 HB2)
  · have HF := Lib.hid (show (s.data.toList.head? == some 47 && qryB s.data.toList) = false by
      rw [hh, show (some s[0] == some (47 : UInt8)) = false by rw [beq_eq_false_iff_ne]; intro e; injection e with e; rw [e] at h1; exact h1 rfl]; rfl)
    have e1 : ((s[0].toNat : Int) == 47) = false := by simp; omega
    clear h1 hh
    go_enter Tryz.func125, Tryz.ntmps125
    go_wp2_with (fail)
    go_ret
    exact RetV.mk (by rw [HF.out]; rfl) (Below.refl _ _)

/-- Two texts. -/
def vTwo (a b : List UInt8) : Value := .tuple #[S a, S b]
set_option maxRecDepth 100000 in
set_option maxHeartbeats 800000 in
theorem divided_ref (s : ByteArray) (w : World) (hs : s.size ≤ 60000) :
    Calls Tryz.prog 126 #[.string s] w (RetV (vTwo (cut1 63 s.data.toList).1 (cut1 63 s.data.toList).2.1) w) := by
  go_enter Tryz.func126, Tryz.ntmps126
  go_wp2_with fail
  go_loop [4] (fun i => ∃ k : Nat, k ≤ s.size ∧ i = .int .i64 k ∧ Hid (∀ b ∈ s.data.toList.take k, b ≠ 63)) (fun i => s.size - (intOf i).toNat)
  case atStart => exact ⟨0, Nat.zero_le _, rfl, by intro b hb; simp at hb⟩
  case round =>
    obtain ⟨k, hk, rfl, HF⟩ := hrel
    by_cases hlt : k < s.size
    · have d1 : decide ((k : Int) < (s.size : Int)) = true := by simp; omega
      have HS := Lib.hid (sgetD s k hlt)
      by_cases hc : s[k].toNat = 63
      · have HC := Lib.hid (cut1_at (c := 63) (by rw [size_len]; exact hlt) HF.out (by rw [HS.out]; exact UInt8.toNat_inj.1 hc))
        have b1 : ((s[k].toNat : Int) == 63) = true := by simp; omega
        have HT := Lib.hid (show Value.tuple #[.string (s.extract 0 k), .string (s.extract (k + 1) s.size)] = vTwo (s.data.toList.take k) (s.data.toList.drop (k + 1)) by
          unfold vTwo; rw [S_extract, S_extract, List.drop_zero, show s.data.toList.take s.size = s.data.toList from List.take_of_length_le (by simp)])
        clear hc
        go_wp2_with fail
        have i1 : (0 : Int) ≤ k := by omega
        have i2 : (k : Int) ≤ s.size := by omega
        have i3 : (k : Int) + 1 ≤ s.size := by omega
        have i4 : (0 : Int) ≤ (k : Int) + 1 := by omega
        have wA : IntKind.i64.wrap ((k : Int) + 1) = (k : Int) + 1 := IntWalk.i64_in _ (by omega)
        have tA : ((k : Int) + 1).toNat = k + 1 := by omega
        go_quiet (fail)
        go_wp2_with fail
        go_ret2
        exact RetV.mk (by rw [HC.out]; exact HT.out) (below_drewN (Below.refl _ _) _)
      · have HN := Lib.hid (free_snoc (c := 63) (by rw [size_len]; exact hlt) HF.out (by rw [HS.out]; intro e; rw [e] at hc; exact hc rfl))
        have b1 : ((s[k].toNat : Int) == 63) = false := by simp; omega
        clear hc
        go_wp2_with fail
        go_round
        case rel => exact ⟨k + 1, by omega, by go_num, HN⟩
        case measure => simp [intOf]; omega
    · have d1 : decide ((k : Int) < (s.size : Int)) = false := by simp; omega
      have HC := Lib.hid (show cut1 63 s.data.toList = (s.data.toList, [], false) by
        have := HF.out
        rw [List.take_of_length_le (by rw [size_len]; omega)] at this
        exact cut1_free this)
      go_wp2_with fail
      go_ret2
      exact RetV.mk (by rw [HC.out, vTwo, ← S_of]; rfl) (Below.refl _ _)

/-- Two texts and an error. -/
def vTgt (r : Except Int (List UInt8 × List UInt8)) : Value := match r with
  | .error e => .tuple #[.string ⟨#[]⟩, .string ⟨#[]⟩, .int .i64 e]
  | .ok x => .tuple #[S x.1, S x.2, .int .i64 0]
set_option maxRecDepth 100000 in
set_option maxHeartbeats 800000 in
theorem split18_ref (s : ByteArray) (w : World) (hs : s.size ≤ 60000) :
    Calls Tryz.prog 71 #[.string s] w (RetV (vTgt (tgtSplit s.data.toList)) w) := by
  by_cases h1 : 1024 < s.size
  · have HF := Lib.hid (show tgtSplit s.data.toList = .error 4 by unfold tgtSplit; rw [if_pos (by rw [size_len]; exact h1)])
    have d1 : decide ((1024 : Int) < (s.size : Int)) = true := by simp; omega
    go_enter Tryz.func71, Tryz.ntmps71
    go_wp2_with fail
    go_ret3
    exact RetV.mk (by rw [HF.out]; rfl) (Below.refl _ _)
  have d1 : decide ((1024 : Int) < (s.size : Int)) = false := by simp; omega
  cases hi : (s.data.toList.head? == some 47 && qryB s.data.toList) with
  | false =>
    have HF := Lib.hid (show tgtSplit s.data.toList = .error 3 by unfold tgtSplit; rw [if_neg (by rw [size_len]; exact h1), if_pos hi])
    have HI := Lib.hid (fun w => by have := is18_ref s w hs; rw [hi] at this; exact this)
    clear hi
    go_enter Tryz.func71, Tryz.ntmps71
    go_wp2_with fail
    refine (HI.out _).mono ?_
    rintro e w1 ⟨rfl, HB1⟩
    go_wp2_with fail
    go_ret3
    exact RetV.mk (by rw [HF.out]; rfl) HB1
  | true =>
    have HF := Lib.hid (show tgtSplit s.data.toList = .ok ((cut1 63 s.data.toList).1, (cut1 63 s.data.toList).2.1) by unfold tgtSplit; rw [if_neg (by rw [size_len]; exact h1), if_neg (by rw [hi]; decide)])
    have HI := Lib.hid (fun w => by have := is18_ref s w hs; rw [hi] at this; exact this)
    have HD := Lib.hid (fun w => divided_ref s w hs)
    unfold vTwo S at HD
    clear hi
    go_enter Tryz.func71, Tryz.ntmps71
    go_wp2_with fail
    refine (HI.out _).mono ?_
    rintro e w1 ⟨rfl, HB1⟩
    go_wp2_with fail
    refine (HD.out _).mono ?_
    rintro e w2 ⟨rfl, HB2⟩
    go_wp2_with fail
    go_ret3
    exact RetV.mk (by rw [HF.out]; rfl) (below2 HB1 HB2)
end Go.Proofs.YteigjobliflkdaaGreatDoor
/- Walk: waypostref14.put. -/
namespace Go.Proofs.YteigjobliflkdaaGreatDoor
open Go.RowKit

theorem cat3 (t x : ByteArray) (l m : List UInt8) (ht : t.data.toList = l) (hx : x.data.toList = m) : (t ++ ⟨#[47]⟩ ++ x).data.toList = l ++ 47 :: m := by
  rw [← ht, ← hx]; simp [ByteArray.data_append]

set_option maxRecDepth 100000 in
set_option maxHeartbeats 1600000 in
theorem put_row (g cap : Nat) (L : List (List UInt8)) (op : Bool) (w : World) (hL : L.length ≤ 60000) (hs : (slashes L).length ≤ 60000) (hT : ∀ j, j < L.length → w.cell? ⟨g, j, none⟩ = some (.string ⟨(L[j]?.getD []).toArray⟩)) :
    Calls Tryz.prog 199 #[.slice (some ⟨g, 0, none⟩) L.length cap, .bool op] w fun e w' => e = .returned (S (dPut L op)) ∧ w = w' := by
  have HT := Lib.hid hT
  clear hT
  go_enter Tryz.func199, Tryz.ntmps199
  go_wp2_with fail
  go_loop [5, 6] (fun o i => ∃ (k : Nat) (t : ByteArray), k ≤ L.length ∧ i = .int .i64 k ∧ o = .string t ∧ Hid (t.data.toList = slashes (L.take k))) (fun _ i => L.length - (intOf i).toNat)
  case atStart => exact ⟨0, ⟨#[]⟩, Nat.zero_le _, rfl, rfl, rfl⟩
  case round =>
    obtain ⟨k, t, hk, rfl, rfl, HD⟩ := hrel
    have hts : t.size ≤ 60000 := by have := slashes_le L k; rw [← size_len, HD.out]; omega
    by_cases hlt : k < L.length
    · have d2 : decide ((k : Int) < (L.length : Int)) = true := by simp; omega
      have hc := HT.out k hlt
      have hp := slashes_piece L k hlt
      have HX := Lib.hid (slashes_take L k hlt)
      obtain ⟨x, hx⟩ : ∃ x : ByteArray, x.data.toList = L[k]?.getD [] := ⟨⟨(L[k]?.getD []).toArray⟩, rfl⟩
      rw [← hx, bs_mk] at hc
      have hxs : x.size ≤ 60000 := by rw [← size_len, hx]; omega
      have HC := Lib.hid (cat3 t x _ _ HD.out hx)
      clear hx hp
      go_wp2_with fail
      go_round
      case rel => exact ⟨k + 1, _, by omega, by go_num, rfl, by show _ = _; rw [HX.out]; exact HC.out⟩
      case measure => simp [intOf]; omega
    · have d2 : decide ((k : Int) < (L.length : Int)) = false := by simp; omega
      have HE := Lib.hid (show t.data.toList = slashes L by rw [HD.out, List.take_of_length_le (by omega)])
      have HL0 := Lib.hid (slashes_empty L)
      cases op with
      | true =>
        have HF := Lib.hid (show S (dPut L true) = .string (t ++ ⟨#[47]⟩) by rw [dPut_eq, ← HE.out]; unfold S; congr 1 <;> exact bs_ext (by simp [ByteArray.data_append]))
        go_wp2_with fail
        go_ret
        exact ⟨congrArg Ending.returned HF.out.symm, rfl⟩
      | false =>
        by_cases h0 : L = []
        · have HF := Lib.hid (show S (dPut L false) = .string (t ++ ⟨#[47]⟩) by rw [dPut_eq, ← HE.out, h0]; unfold S; congr 1 <;> exact bs_ext (by simp [ByteArray.data_append]))
          have e1 : t.toList = [] := by rw [Lib.toList_data, HE.out, h0]; rfl
          clear h0
          go_wp2_with fail
          go_ret
          exact ⟨congrArg Ending.returned HF.out.symm, rfl⟩
        · have HF := Lib.hid (show S (dPut L false) = .string t by rw [dPut_eq, ← HE.out, show (L == []) = false by simpa using h0]; unfold S; congr 1 <;> exact bs_ext (by simp))
          have e1 : t.toList.isEmpty = false := by
            rw [Lib.toList_data, HE.out]
            cases L with
            | nil => exact absurd rfl h0
            | cons a L => rfl
          have e2 : (t.toList == []) = false := by rw [beq_eq_false_iff_ne]; intro e; rw [e] at e1; cases e1
          clear h0
          go_wp2_with fail
          go_ret
          exact ⟨congrArg Ending.returned HF.out.symm, rfl⟩

set_option maxRecDepth 100000 in
theorem put_nil (op : Bool) (w : World) : Calls Tryz.prog 199 #[.slice none 0 0, .bool op] w fun e w' => e = .returned (S (dPut [] op)) ∧ w = w' := by
  go_enter Tryz.func199, Tryz.ntmps199
  go_wp2_with fail
  go_loop [5, 6] (fun o i => i = .int .i64 0 ∧ o = .string ⟨#[]⟩) (fun _ i => 0)
  case atStart => exact ⟨rfl, rfl⟩
  case round =>
    obtain ⟨rfl, rfl⟩ := hrel
    cases op
    all_goals
      go_wp2_with fail
      go_ret
      exact ⟨rfl, rfl⟩
theorem put_ref {B : Nat} {v : Value} {L : List (List UInt8)} {w : World} (h : w.ownsRow B 9 1 v L.length (L.map S)) (op : Bool) (hL : L.length ≤ 60000) (hs : (slashes L).length ≤ 60000) :
    Calls Tryz.prog 199 #[v, .bool op] w fun e w' => e = .returned (S (dPut L op)) ∧ w = w' := by
  rcases h.2 with ⟨rfl, h0⟩ | ⟨g, cap, cur, rfl, _⟩
  · obtain rfl : L = [] := List.length_eq_zero_iff.1 h0
    exact put_nil op w
  · exact put_row g cap L op w hL hs (fun j hj => own_cell h j hj rfl)
end Go.Proofs.YteigjobliflkdaaGreatDoor
/- Walk: waypostref14.Clean. -/
namespace Go.Proofs.YteigjobliflkdaaGreatDoor
open Go.RowKit

/-- What a path's cleaning hands back, as two values. -/
def cleanT (r : Except Int (List UInt8)) : Value := match r with
  | .error e => .tuple #[.string ⟨#[]⟩, .int .i64 e]
  | .ok p => .tuple #[S p, .int .i64 0]
def OwnT (w : World) (B : Nat) (v : Value) (L : List (List UInt8)) : Prop := w.ownsRow B 9 1 v L.length (L.map S)
theorem OwnT.nil (w : World) (B : Nat) : OwnT w B (.slice none 0 0) [] := World.ownsRow_nil _ _ _ _
theorem OwnT.below {w w' : World} {B : Nat} {v : Value} {L : List (List UInt8)} (h : OwnT w B v L) (hB : Below w.heap.size w w') : OwnT w' B v L := own_below h hB
theorem OwnT.ne {w : World} {B : Nat} {v : Value} {L : List (List UInt8)} (h : OwnT w B v L) (hL : L ≠ []) : ∃ g cap, v = .slice (some ⟨g, 0, none⟩) L.length cap ∧ L.length ≤ cap ∧ cap ≤ maxLen := by
  rcases h.2 with ⟨_, h0⟩ | ⟨g, cap, cur, rfl, _, _, h1, h2, _⟩
  · exact absurd (List.length_eq_zero_iff.1 h0) hL
  · exact ⟨g, cap, rfl, h1, h2⟩
theorem OwnT.pop {w : World} {B g cap : Nat} {L : List (List UInt8)} (h : OwnT w B (.slice (some ⟨g, 0, none⟩) L.length cap) L) (hL : L ≠ []) : OwnT w B (.slice (some ⟨g, 0, none⟩) (L.length - 1) cap) L.dropLast := by
  obtain ⟨x, hx⟩ : ∃ x, L = L.dropLast ++ [x] := ⟨L.getLast hL, (List.dropLast_concat_getLast hL).symm⟩
  have hl : L.length = L.dropLast.length + 1 := by have := congrArg List.length hx; simpa using this
  unfold OwnT at h ⊢
  rw [hl] at h ⊢
  rw [show L.map S = L.dropLast.map S ++ [S x] by rw [← List.map_singleton (f := S), ← List.map_append, ← hx]] at h
  rw [Nat.add_sub_cancel]
  exact ownsRow_pop (by simp) h

set_option maxRecDepth 100000 in
set_option maxHeartbeats 4000000 in
theorem clean14_ref (s : ByteArray) (w : World) (hs : s.size ≤ 50000) :
    Calls Tryz.prog 166 #[.string s] w (RetV (cleanT (dClean s.data.toList)) w) := by
  by_cases h1 : (s.data.toList.head? == some 47) = true
  · have P := Lib.hid (path_refB h1 (show s.size ≤ 60000 by omega))
    have hpos : 0 < s.size := by
      rcases Nat.eq_zero_or_pos s.size with h | h
      · rw [show s.data.toList = [] from List.length_eq_zero_iff.1 (by rw [size_len]; exact h)] at h1; cases h1
      · exact h
    have HCL := Lib.hid (show dClean s.data.toList = match cleanGo (segs 47 s.data.toList.tail) [] false with | none => .error 18 | some x => .ok (dPut x.1 x.2) by unfold dClean; rw [h1]; rfl)
    have hlen : (segs 47 s.data.toList.tail).length ≤ s.size := by
      have := segs_le 47 s.data.toList.tail
      rw [List.length_tail, size_len] at this; omega
    have hsl : (slashes (segs 47 s.data.toList.tail)).length ≤ s.size := by
      rw [segs_slashes, List.length_tail, size_len]; omega
    have PC := Lib.hid (pieces_ref s · (show s.size ≤ 60000 by omega) hpos)
    have hne := segs_ne 47 s.data.toList.tail
    generalize segs 47 s.data.toList.tail = L at hlen PC hne HCL hsl
    have HNE := Lib.hid hne
    clear h1 hne
    go_enter Tryz.func166, Tryz.ntmps166
    go_wp2_with fail
    refine (P.out _).mono ?_
    rintro e w' ⟨rfl, rfl⟩
    go_wp2_with fail
    refine (PC.out _).mono fun e w1 hr => ?_
    obtain ⟨g, cap, rfl, hown, HB⟩ := hr.one HNE.out
    have HT := Lib.hid (TextsIn.of hown)
    clear hr hown
    have hsz := HB.size
    go_wp2_with fail
    go_loopg [5, 6, 7] (L.length + 1) (fun gh kv ov i wr => ∃ (k : Nat) (kept : List (List UInt8)) (op : Bool), k ≤ L.length ∧ gh = L.length + 1 - k ∧ i = .int .i64 k ∧ ov = .bool op ∧ OwnT wr w1.heap.size kv kept ∧ Hid (CleanAt L k kept op) ∧ Below w1.heap.size w1 wr)
    case atStart => exact ⟨0, [], false, Nat.zero_le _, rfl, rfl, rfl, OwnT.nil _ _, CleanAt.start _, Below.refl _ _⟩
    case round =>
      obtain ⟨k, kept, op, hk, hg, rfl, rfl, HO, HA, HB2⟩ := hrel
      have HOh := Lib.hid HO
      have hsz2 := HB2.size
      have hkl := HA.out.2.1
      by_cases hlt : k < L.length
      · have d2 : decide ((k : Int) < (L.length : Int)) = true := by simp; omega
        have hc := (HT.out.next HB2).2 k hlt
        have HN := Lib.hid (fun kept' op' => HA.out.next (kept' := kept') (op' := op') hlt)
        have HX := Lib.hid (HA.out.bad hlt)
        generalize L[k]?.getD [] = x at hc HN HX
        rcases piece_kinds x with rfl | rfl | rfl | ⟨n1, n2, n3⟩
        · have HM := Lib.hid (HN.out kept true rfl)
          go_wp2_with fail
          go_roundg (L.length - k)
          case measure => omega
          case rel => exact ⟨k + 1, kept, true, by omega, by omega, by go_num, rfl, HOh.out, HM.out, HB2⟩
        · by_cases h0 : kept = []
          · have HM := Lib.hid (HX.out (by rw [h0]; rfl))
            subst h0
            clear HOh
            rcases HO.2 with ⟨rfl, _⟩ | ⟨g2, cap2, cur, rfl, _⟩
            all_goals
              go_wp2_with fail
              go_ret2
              exact RetV.mk (by rw [HCL.out, HM.out]; rfl) (HB.trans (HB2.mono hsz))
          · have HM := Lib.hid (HN.out kept.dropLast true (by unfold cleanOne; rw [show (kept == []) = false by simpa using h0]; rfl))
            obtain ⟨g2, cap2, rfl, hle, hmx⟩ := HO.ne h0
            have HP := Lib.hid (HO.pop h0)
            have hlp : 0 < kept.length := List.length_pos_iff.2 h0
            have d3 : ((kept.length : Int) == 0) = false := by rw [beq_eq_false_iff_ne]; omega
            unfold maxLen at hmx
            clear h0
            go_wp2_with fail
            go_roundg (L.length - k)
            case measure => omega
            case rel => exact ⟨k + 1, kept.dropLast, true, by omega, by omega, by go_num, rfl, HP.out, HM.out, HB2⟩
        · have HM := Lib.hid (HN.out kept true rfl)
          go_wp2_with fail
          go_roundg (L.length - k)
          case measure => omega
          case rel => exact ⟨k + 1, kept, true, by omega, by omega, by go_num, rfl, HOh.out, HM.out, HB2⟩
        · have HM := Lib.hid (HN.out (kept ++ [x]) false (by unfold cleanOne; rw [beq_eq_false_iff_ne.2 n1, beq_eq_false_iff_ne.2 n2, beq_eq_false_iff_ne.2 n3]; rfl))
          obtain ⟨xb, rfl⟩ : ∃ xb : ByteArray, x = xb.data.toList := ⟨⟨x.toArray⟩, rfl⟩
          rw [bs_mk] at hc
          have f1 := bytes_ne n1
          have f2 := bytes_ne n2
          have f3 := bytes_ne n3
          have f4 : xb.toList.isEmpty = false := by rw [Lib.toList_data]; simpa using n3
          clear n1 n2 n3
          go_wp2_with (at_builtin; refine wpApp9 rfl _ _ rfl HOh.out HB2 rfl rfl (by omega) (by omega) (by omega) ?_)
          intro v' w' hown' HB'
          rw [S_of, ← List.map_singleton (f := S), ← List.map_append] at hown'
          go_wp2_with fail
          go_roundg (L.length - k)
          case measure => omega
          case rel => exact ⟨k + 1, _, false, by omega, by omega, by go_num, rfl, by unfold OwnT; simpa using hown', HM.out, HB'⟩
      · have d2 : decide ((k : Int) < (L.length : Int)) = false := by simp; omega
        have HF := Lib.hid (HA.out.fin (by omega))
        have hks : (slashes kept).length ≤ 60000 := by have h1 := HA.out.2.2.1; have h2 := slashes_le L k; omega
        go_wp2_with fail
        refine (put_ref HOh.out op (by omega) hks).mono ?_
        rintro e w' ⟨rfl, rfl⟩
        go_wp2_with fail
        go_ret2
        exact RetV.mk (by rw [HCL.out, HF.out]; rfl) (HB.trans (HB2.mono hsz))
  · have h1 : (s.data.toList.head? == some 47) = false := by simpa using h1
    have P := Lib.hid (path_refB h1 (show s.size ≤ 60000 by omega))
    have HF := Lib.hid (show dClean s.data.toList = .error 3 by unfold dClean; rw [h1]; rfl)
    clear h1
    go_enter Tryz.func166, Tryz.ntmps166
    go_wp2_with fail
    refine (P.out _).mono ?_
    rintro e w' ⟨rfl, rfl⟩
    go_wp2_with fail
    go_ret2
    exact RetV.mk (by rw [HF.out]; rfl) (Below.refl _ _)
end Go.Proofs.YteigjobliflkdaaGreatDoor
/- Walks: waypostref18 (read, Parse, Why). -/
namespace Go.Proofs.YteigjobliflkdaaGreatDoor
open Go.RowKit

theorem split18_refE {s : ByteArray} {e : Int} (h : tgtSplit s.data.toList = .error e) (hs : s.size ≤ 60000) (w : World) :
    Calls Tryz.prog 71 #[.string s] w fun e' w' => e' = .returned (.tuple #[.string ⟨#[]⟩, .string ⟨#[]⟩, .int .i64 e]) ∧ Below w.heap.size w w' := by
  have := split18_ref s w hs; rw [h] at this; exact this
theorem split18_refS {s a b : ByteArray} (h : tgtSplit s.data.toList = .ok (a.data.toList, b.data.toList)) (hs : s.size ≤ 60000) (w : World) :
    Calls Tryz.prog 71 #[.string s] w fun e' w' => e' = .returned (.tuple #[.string a, .string b, .int .i64 0]) ∧ Below w.heap.size w w' := by
  have := split18_ref s w hs; rw [h] at this
  have this : Calls Tryz.prog 71 #[.string s] w fun e' w' => e' = .returned (.tuple #[.string ⟨a.data.toList.toArray⟩, .string ⟨b.data.toList.toArray⟩, .int .i64 0]) ∧ Below w.heap.size w w' := this
  rwa [bs_mk, bs_mk] at this
theorem ends_refB {s : ByteArray} {b : Bool} (h : safeB s.data.toList = b) (hs : s.size ≤ 60000) (w : World) :
    Calls Tryz.prog 165 #[.string s] w fun e w' => e = .returned (.bool (!b)) ∧ w = w' := by
  have := ends_ref s w hs; rwa [h] at this
theorem clean_refE {s : ByteArray} {x : Int} (h : dClean s.data.toList = .error x) (hs : s.size ≤ 50000) (w : World) :
    Calls Tryz.prog 166 #[.string s] w fun e w' => e = .returned (.tuple #[.string ⟨#[]⟩, .int .i64 x]) ∧ Below w.heap.size w w' := by
  have := clean14_ref s w hs; rw [h] at this; exact this
theorem clean_refS {s p : ByteArray} (h : dClean s.data.toList = .ok p.data.toList) (hs : s.size ≤ 50000) (w : World) :
    Calls Tryz.prog 166 #[.string s] w fun e w' => e = .returned (.tuple #[.string p, .int .i64 0]) ∧ Below w.heap.size w w' := by
  have := clean14_ref s w hs; rw [h] at this
  have this : Calls Tryz.prog 166 #[.string s] w fun e w' => e = .returned (.tuple #[.string ⟨p.data.toList.toArray⟩, .int .i64 0]) ∧ Below w.heap.size w w' := this
  rwa [bs_mk] at this
/-- What reading hands back, as a value. -/
def vRead (r : Except (Int × Int) (List UInt8 × List UInt8)) : Value := match r with
  | .error e => .tuple #[.string ⟨#[]⟩, .string ⟨#[]⟩, .int .i64 e.1, .int .i64 e.2]
  | .ok x => .tuple #[S x.1, S x.2, .int .i64 0, .int .i64 200]

set_option maxRecDepth 100000 in
set_option maxHeartbeats 8000000 in
theorem read_ref (s : ByteArray) (L : Int) (w : World) (hs : s.size ≤ 50000) : Calls Tryz.prog 127 #[.string s, .int .i64 L] w (RetV (vRead (tgtRead s.data.toList L)) w) := by
  have hs6 : s.size ≤ 60000 := by omega
  by_cases hr : L < 1 ∨ 128 < L
  · have HF := Lib.hid (tgtRead_range (l := s.data.toList) hr)
    by_cases h1 : L < 1
    · have d1 : decide (L < 1) = true := by simpa using h1
      clear hr h1
      go_enter Tryz.func127, Tryz.ntmps127
      go_wp2_with fail
      exact ret4 Tryz.results127 rfl (RetV.mk (by rw [HF.out]; rfl) (Below.refl _ _))
    · have d1 : decide (L < 1) = false := by simpa using h1
      have d2 : decide (128 < L) = true := by simp; omega
      clear hr h1
      go_enter Tryz.func127, Tryz.ntmps127
      go_wp2_with fail
      exact ret4 Tryz.results127 rfl (RetV.mk (by rw [HF.out]; rfl) (Below.refl _ _))
  have d1 : decide (L < 1) = false := by simp; omega
  have d2 : decide (128 < L) = false := by simp; omega
  have HR := Lib.hid hr
  clear hr
  cases hsp : tgtSplit s.data.toList with
  | error e =>
    have HF := Lib.hid (tgtRead_split HR.out hsp)
    have SP := Lib.hid (split18_refE hsp hs6)
    have he := tgtSplit_err hsp
    clear hsp
    rcases he with rfl | rfl
    all_goals
      go_enter Tryz.func127, Tryz.ntmps127
      go_wp2_with fail
      refine (SP.out _).mono ?_
      rintro e' w1 ⟨rfl, HB1⟩
      go_wp2_with fail
      exact ret4 Tryz.results127 rfl (RetV.mk (by rw [HF.out]; rfl) HB1)
  | ok x =>
    obtain ⟨x1, x2⟩ := x
    obtain ⟨a, rfl⟩ : ∃ a : ByteArray, x1 = a.data.toList := ⟨⟨x1.toArray⟩, rfl⟩
    obtain ⟨b, rfl⟩ : ∃ b : ByteArray, x2 = b.data.toList := ⟨⟨x2.toArray⟩, rfl⟩
    have SP := Lib.hid (split18_refS hsp hs6)
    obtain ⟨-, k2, -, k4, k5, k6⟩ := tgtSplit_ok hsp
    have has : a.size ≤ 50000 := by rw [size_len] at k5; simp only [size_len] at k5; omega
    have hah : a.data.toList.head? = some 47 := by
      have := cut1_head k2
      injection k4 with k4 _
      rwa [← k4] at this
    have HSP := Lib.hid hsp
    clear hsp k2 k4 k5 k6
    cases hd : pctDec a.data.toList with
    | none =>
      have HF := Lib.hid (tgtRead_none HR.out HSP.out hd)
      have DE := Lib.hid (decode_refN hd (show a.size ≤ 60000 by omega))
      clear hd hah
      go_enter Tryz.func127, Tryz.ntmps127
      go_wp2_with fail
      refine (SP.out _).mono ?_
      rintro e' w1 ⟨rfl, HB1⟩
      go_wp2_with fail
      refine (DE.out _).mono ?_
      rintro e' w2 ⟨at', rfl, HB2⟩
      go_wp2_with fail
      exact ret4 Tryz.results127 rfl (RetV.mk (by rw [HF.out]; rfl) (below2 HB1 (HB2.alloc HB2.size _)))
    | some d0 =>
      obtain ⟨d, rfl⟩ : ∃ d : ByteArray, d0 = d.data.toList := ⟨⟨d0.toArray⟩, rfl⟩
      have DE := Lib.hid (decode_refS hd (show a.size ≤ 60000 by omega))
      have hds : d.size ≤ 50000 := by have := pctDec_le hd; simp only [size_len] at this; omega
      have hdh := pctDec_head hah hd
      have HD := Lib.hid hd
      clear hd hah
      cases hb : safeB d.data.toList with
      | false =>
        have HF := Lib.hid (tgtRead_bytes HR.out HSP.out HD.out hb)
        have EN := Lib.hid (ends_refB hb (show d.size ≤ 60000 by omega))
        clear hb hdh
        go_enter Tryz.func127, Tryz.ntmps127
        go_wp2_with fail
        refine (SP.out _).mono ?_
        rintro e' w1 ⟨rfl, HB1⟩
        go_wp2_with fail
        refine (DE.out _).mono ?_
        rintro e' w2 ⟨rfl, HB2⟩
        go_wp2_with fail
        refine (EN.out _).mono ?_
        rintro e' w' ⟨rfl, rfl⟩
        go_wp2_with fail
        exact ret4 Tryz.results127 rfl (RetV.mk (by rw [HF.out]; rfl) (below2 HB1 (HB2.alloc HB2.size _)))
      | true =>
        have EN := Lib.hid (ends_refB hb (show d.size ≤ 60000 by omega))
        have HBS := Lib.hid hb
        clear hb
        rcases dClean_head hdh with hc | ⟨p0, hc, hpl⟩
        · have HF := Lib.hid (tgtRead_dots HR.out HSP.out HD.out HBS.out hc)
          have CL := Lib.hid (clean_refE hc hds)
          clear hc hdh
          go_enter Tryz.func127, Tryz.ntmps127
          go_wp2_with fail
          refine (SP.out _).mono ?_
          rintro e' w1 ⟨rfl, HB1⟩
          go_wp2_with fail
          refine (DE.out _).mono ?_
          rintro e' w2 ⟨rfl, HB2⟩
          go_wp2_with fail
          refine (EN.out _).mono ?_
          rintro e' w' ⟨rfl, rfl⟩
          go_wp2_with fail
          refine (CL.out _).mono ?_
          rintro e' w3 ⟨rfl, HB3⟩
          go_wp2_with fail
          exact ret4 Tryz.results127 rfl (RetV.mk (by rw [HF.out]; rfl) (below2 (below2 HB1 (HB2.alloc HB2.size _)) HB3))
        · obtain ⟨p, rfl⟩ : ∃ p : ByteArray, p0 = p.data.toList := ⟨⟨p0.toArray⟩, rfl⟩
          have CL := Lib.hid (clean_refS hc hds)
          have HC := Lib.hid hc
          simp only [size_len] at hpl
          clear hc hdh
          by_cases hl1 : L < p.size
          · have HF := Lib.hid (tgtRead_long HR.out HSP.out HD.out HBS.out HC.out (.inl (by rw [size_len]; exact hl1)))
            have d3 : decide (L < (p.size : Int)) = true := by simpa using hl1
            clear hl1
            go_enter Tryz.func127, Tryz.ntmps127
            go_wp2_with fail
            refine (SP.out _).mono ?_
            rintro e' w1 ⟨rfl, HB1⟩
            go_wp2_with fail
            refine (DE.out _).mono ?_
            rintro e' w2 ⟨rfl, HB2⟩
            go_wp2_with fail
            refine (EN.out _).mono ?_
            rintro e' w' ⟨rfl, rfl⟩
            go_wp2_with fail
            refine (CL.out _).mono ?_
            rintro e' w3 ⟨rfl, HB3⟩
            go_wp2_with fail
            exact ret4 Tryz.results127 rfl (RetV.mk (by rw [HF.out]; rfl) (below2 (below2 HB1 (HB2.alloc HB2.size _)) HB3))
          have d3 : decide (L < (p.size : Int)) = false := by simpa using hl1
          by_cases hl2 : 128 < b.size
          · have HF := Lib.hid (tgtRead_long HR.out HSP.out HD.out HBS.out HC.out (.inr (by simp only [size_len]; exact hl2)))
            have d4 : decide ((128 : Int) < (b.size : Int)) = true := by simp; omega
            have i4 : (128 : Int) < (b.size : Int) := by omega
            clear hl1 hl2
            go_enter Tryz.func127, Tryz.ntmps127
            go_wp2_with fail
            refine (SP.out _).mono ?_
            rintro e' w1 ⟨rfl, HB1⟩
            go_wp2_with fail
            refine (DE.out _).mono ?_
            rintro e' w2 ⟨rfl, HB2⟩
            go_wp2_with fail
            refine (EN.out _).mono ?_
            rintro e' w' ⟨rfl, rfl⟩
            go_wp2_with fail
            refine (CL.out _).mono ?_
            rintro e' w3 ⟨rfl, HB3⟩
            go_wp2_with fail
            exact ret4 Tryz.results127 rfl (RetV.mk (by rw [HF.out]; rfl) (below2 (below2 HB1 (HB2.alloc HB2.size _)) HB3))
          · have HF := Lib.hid (tgtRead_ok HR.out HSP.out HD.out HBS.out HC.out (by simp only [size_len]; omega))
            have d4 : decide ((128 : Int) < (b.size : Int)) = false := by simp; omega
            have i4 : (b.size : Int) ≤ 128 := by omega
            clear hl1 hl2
            go_enter Tryz.func127, Tryz.ntmps127
            go_wp2_with fail
            refine (SP.out _).mono ?_
            rintro e' w1 ⟨rfl, HB1⟩
            go_wp2_with fail
            refine (DE.out _).mono ?_
            rintro e' w2 ⟨rfl, HB2⟩
            go_wp2_with fail
            refine (EN.out _).mono ?_
            rintro e' w' ⟨rfl, rfl⟩
            go_wp2_with fail
            refine (CL.out _).mono ?_
            rintro e' w3 ⟨rfl, HB3⟩
            go_wp2_with fail
            exact ret4 Tryz.results127 rfl (RetV.mk (by rw [HF.out, vRead]; simp only [S, bs_mk]; rfl) (below2 (below2 HB1 (HB2.alloc HB2.size _)) HB3))

theorem read_refT {s a b : ByteArray} {L x y : Int} (h : vRead (tgtRead s.data.toList L) = .tuple #[.string a, .string b, .int .i64 x, .int .i64 y]) (hs : s.size ≤ 50000) (w : World) :
    Calls Tryz.prog 127 #[.string s, .int .i64 L] w fun e w' => e = .returned (.tuple #[.string a, .string b, .int .i64 x, .int .i64 y]) ∧ Below w.heap.size w w' := by
  have := read_ref s L w hs; rw [h] at this; exact this
theorem vRead_form (r : Except (Int × Int) (List UInt8 × List UInt8)) : ∃ (a b : ByteArray) (x y : Int), vRead r = .tuple #[.string a, .string b, .int .i64 x, .int .i64 y] := by
  cases r with
  | error e => exact ⟨_, _, _, _, rfl⟩
  | ok x => exact ⟨_, _, _, _, rfl⟩
set_option maxRecDepth 100000 in
theorem parse_refT {s a b : ByteArray} {L x y : Int} (h : vRead (tgtRead s.data.toList L) = .tuple #[.string a, .string b, .int .i64 x, .int .i64 y]) (hs : s.size ≤ 50000) (w : World) :
    Calls Tryz.prog 72 #[.string s, .int .i64 L] w fun e w' => e = .returned (.tuple #[.string a, .string b, .int .i64 y]) ∧ Below w.heap.size w w' := by
  have H := Lib.hid (read_refT h hs)
  clear h
  go_enter Tryz.func72, Tryz.ntmps72
  go_wp2_with fail
  refine (H.out _).mono ?_
  rintro e w1 ⟨rfl, HB⟩
  go_wp2_with fail
  go_ret3
  exact ⟨rfl, HB⟩
set_option maxRecDepth 100000 in
theorem why_refT {s a b : ByteArray} {L x y : Int} (h : vRead (tgtRead s.data.toList L) = .tuple #[.string a, .string b, .int .i64 x, .int .i64 y]) (hs : s.size ≤ 50000) (w : World) :
    Calls Tryz.prog 74 #[.string s, .int .i64 L] w fun e w' => e = .returned (.tuple #[.int .i64 x, .int .i64 y]) ∧ Below w.heap.size w w' := by
  have H := Lib.hid (read_refT h hs)
  clear h
  go_enter Tryz.func74, Tryz.ntmps74
  go_wp2_with fail
  refine (H.out _).mono ?_
  rintro e w1 ⟨rfl, HB⟩
  go_wp2_with fail
  go_ret2
  exact ⟨rfl, HB⟩
end Go.Proofs.YteigjobliflkdaaGreatDoor
/- Walks: target's Chars, Split, holds. -/
namespace Go.Proofs.YteigjobliflkdaaGreatDoor
open Go.RowKit

set_option maxRecDepth 100000 in
set_option maxHeartbeats 4000000 in
theorem chars_any (w : World) : Calls Tryz.prog 79 #[] w (RetV (setV charN) w) := by
  go_enter Tryz.func79, Tryz.ntmps79
  go_wp2_with fail
  refine (ranges2 (heap_alloc2_new _ _ _)).mono ?_
  rintro e w1 ⟨rfl, HB1⟩
  unfold setV
  have HZ1 := SetAt.below (SetAt.zero (heap_alloc2_old w _ _)) HB1
  have HBw : Below w.heap.size w w1 := below2 (((Below.refl _ _).alloc (Nat.le_refl _) _).alloc (by simp) _) HB1
  have hsz : w.heap.size < w1.heap.size := by have := HB1.size; simp at this; omega
  have HA0 : SetAt (w1.alloc (.cells #[.int .u64 (word charN 0), .int .u64 (word charN 1), .int .u64 (word charN 2), .int .u64 (word charN 3)] 60)) w1.heap.size charN := heap_alloc_new _ _
  have HZ0 := SetAt.alloc HZ1 (.cells #[.int .u64 (word charN 0), .int .u64 (word charN 1), .int .u64 (word charN 2), .int .u64 (word charN 3)] 60)
  have HB0 := Lib.hid (HBw.alloc HBw.size (.cells #[.int .u64 (word charN 0), .int .u64 (word charN 1), .int .u64 (word charN 2), .int .u64 (word charN 3)] 60))
  have c0 := HA0.cell 0 (by decide)
  have c1 := HA0.cell 1 (by decide)
  have c2 := HA0.cell 2 (by decide)
  have c3 := HA0.cell 3 (by decide)
  have g0 := HZ0.cell 0 (by decide)
  have g1 := HZ0.cell 1 (by decide)
  have g2 := HZ0.cell 2 (by decide)
  have g3 := HZ0.cell 3 (by decide)
  have y0 := HZ0.frozen 0
  have y1 := HZ0.frozen 1
  have y2 := HZ0.frozen 2
  have y3 := HZ0.frozen 3
  have HP := Lib.hid (HZ0.put (Q := charN))
  clear HA0 HZ0 HZ1 HBw HB1 hsz
  go_wp2_with fail
  exact bodyPost_ret (set_results Tryz.results79 rfl HP.out) rfl (RetV.mk rfl ((((HB0.out.setCell (Nat.le_refl _) _).setCell (Nat.le_refl _) _).setCell (Nat.le_refl _) _).setCell (Nat.le_refl _) _))

theorem hasPrefix47 (l : List UInt8) : Lib.hasPrefix l [47] = (l.head? == some 47) := by
  cases l with
  | nil => rfl
  | cons a l =>
    show ((47 : UInt8) == a && true) = (some a == some 47)
    rw [Bool.and_true]
    by_cases h : a = 47
    · subst h; rfl
    · rw [beq_eq_false_iff_ne.2 (fun e => h e.symm), Eq.comm, beq_eq_false_iff_ne]; intro e; injection e with e; exact h e
theorem prefix47_B {s : ByteArray} {b : Bool} (h : (s.data.toList.head? == some 47) = b) (w : World) : Calls Tryz.prog 104 #[.string s, .string ⟨#[47]⟩] w fun e w' => e = .returned (.bool b) ∧ w = w' := by
  have := Tryz.strings_HasPrefix s ⟨#[47]⟩ w
  rw [show Lib.hasPrefix s.data.toList (⟨#[47]⟩ : ByteArray).data.toList = b by rw [← h]; exact hasPrefix47 _] at this
  exact this.mono fun _ _ h => ⟨h.1, h.2.symm⟩

set_option maxRecDepth 100000 in
set_option maxHeartbeats 1600000 in
theorem splitT_any (s : ByteArray) (w : World) (hG : Good w) (hs : s.size ≤ 60000) :
    Calls Tryz.prog 49 #[.string s] w (RetV (vTgt (tgtSplit s.data.toList)) w) := by
  by_cases h1 : 1024 < s.size
  · have HF := Lib.hid (show tgtSplit s.data.toList = .error 4 by unfold tgtSplit; rw [if_pos (by rw [size_len]; exact h1)])
    have d1 : decide ((1024 : Int) < (s.size : Int)) = true := by simp; omega
    go_enter Tryz.func49, Tryz.ntmps49
    go_wp2_with fail
    go_ret3
    exact RetV.mk (by rw [HF.out]; rfl) (Below.refl _ _)
  have d1 : decide ((1024 : Int) < (s.size : Int)) = false := by simp; omega
  cases hp : (s.data.toList.head? == some 47) with
  | false =>
    have HF := Lib.hid (show tgtSplit s.data.toList = .error 3 by unfold tgtSplit; rw [if_neg (by rw [size_len]; exact h1), hp, if_pos (by rfl)])
    have HP := Lib.hid (prefix47_B hp)
    clear hp
    go_enter Tryz.func49, Tryz.ntmps49
    go_wp2_with fail
    refine (HP.out _).mono ?_
    rintro e w1 ⟨rfl, rfl⟩
    go_wp2_with fail
    go_ret3
    exact RetV.mk (by rw [HF.out]; rfl) (Below.refl _ _)
  | true =>
    have HP := Lib.hid (prefix47_B hp)
    cases hq : qryB s.data.toList with
    | false =>
      have HF := Lib.hid (show tgtSplit s.data.toList = .error 3 by unfold tgtSplit; rw [if_neg (by rw [size_len]; exact h1), hp, hq, if_pos (by rfl)])
      have HQ := Lib.hid (all_B (P := charN) (show (s.data.toList.all fun b => charN b.toNat) = false from hq) hs)
      clear hp hq
      go_enter Tryz.func49, Tryz.ntmps49
      go_wp2_with fail
      refine (HP.out _).mono ?_
      rintro e w1 ⟨rfl, rfl⟩
      go_wp2_with fail
      refine (chars_any _).mono ?_
      rintro e w1 ⟨rfl, HB1⟩
      go_wp2_with fail
      refine (HQ.out _).mono ?_
      rintro e w2 ⟨rfl, HB2⟩
      go_wp2_with fail
      go_ret3
      exact RetV.mk (by rw [HF.out]; rfl) (below2 HB1 HB2)
    | true =>
      have HF := Lib.hid (show tgtSplit s.data.toList = .ok ((cut1 63 s.data.toList).1, (cut1 63 s.data.toList).2.1) by unfold tgtSplit; rw [if_neg (by rw [size_len]; exact h1), hp, hq, if_neg (by decide)])
      have HQ := Lib.hid (all_B (P := charN) (show (s.data.toList.all fun b => charN b.toNat) = true from hq) hs)
      clear hp hq
      obtain ⟨a, ha⟩ : ∃ a : ByteArray, (cut1 63 s.data.toList).1 = a.data.toList := ⟨⟨(cut1 63 s.data.toList).1.toArray⟩, rfl⟩
      obtain ⟨b, hb⟩ : ∃ b : ByteArray, (cut1 63 s.data.toList).2.1 = b.data.toList := ⟨⟨(cut1 63 s.data.toList).2.1.toArray⟩, rfl⟩
      obtain ⟨m, hm⟩ : ∃ m, (cut1 63 s.data.toList).2.2 = m := ⟨_, rfl⟩
      have HC := Lib.hid (cut63_B (show cut1 63 s.data.toList = (a.data.toList, b.data.toList, m) by rw [← ha, ← hb, ← hm]))
      have HR := Lib.hid (show vTgt (tgtSplit s.data.toList) = .tuple #[.string a, .string b, .int .i64 0] by rw [HF.out, ha, hb]; simp [vTgt, S])
      clear ha hb hm HF
      go_enter Tryz.func49, Tryz.ntmps49
      go_wp2_with fail
      refine (HP.out _).mono ?_
      rintro e w1 ⟨rfl, rfl⟩
      go_wp2_with fail
      refine (chars_any _).mono ?_
      rintro e w1 ⟨rfl, HB1⟩
      go_wp2_with fail
      refine (HQ.out _).mono ?_
      rintro e w2 ⟨rfl, HB2⟩
      have HB := below2 HB1 HB2
      clear HB1 HB2
      go_wp2_with fail
      refine (HC.out _ (hG.next HB) hs).mono ?_
      rintro e w3 ⟨rfl, HB3⟩
      go_wp2_with fail
      go_ret3
      exact RetV.mk (by rw [HR.out]; rfl) (below2 HB HB3)

theorem index_has (c : UInt8) : ∀ l : List UInt8, decide (0 ≤ Lib.indexByte l c) = l.contains c
  | [] => rfl
  | b :: l => by
    have ih := index_has c l
    rw [Lib.indexByte, List.contains_cons, ← ih]
    by_cases h : b = c
    · subst h; simp
    · rw [if_neg (by simpa using h), beq_eq_false_iff_ne.2 (fun e => h e.symm), Bool.false_or]
      by_cases h1 : Lib.indexByte l c = -1
      · rw [h1]; rfl
      · rw [if_neg (by simpa using h1), decide_eq_decide]
        have h2 : -1 ≤ Lib.indexByte l c := by rw [indexByte_cut]; split <;> omega
        omega

theorem index_B {s : ByteArray} {c : UInt8} {x : Int} (h : Lib.indexByte s.data.toList c = x) (w : World) : Calls Tryz.prog 109 #[.string s, .int .u8 c.toNat] w fun e w' => e = .returned (.int .i64 x) ∧ w = w' := by
  have := Tryz.strings_IndexByte s c.toNat w
  rw [show ((c.toNat : Nat) : Int).toNat.toUInt8 = c by simp, h] at this
  exact this.mono fun _ _ h => ⟨h.1, h.2.symm⟩
theorem safe_three (l : List UInt8) : safeB l = (!l.contains 0 && !l.contains 10 && !l.contains 13) := by
  unfold safeB
  induction l with
  | nil => rfl
  | cons b l ih =>
    rw [List.all_cons, ih, List.contains_cons, List.contains_cons, List.contains_cons, show ((0 : UInt8) == b) = (b == 0) from Bool.beq_comm .., show ((10 : UInt8) == b) = (b == 10) from Bool.beq_comm .., show ((13 : UInt8) == b) = (b == 13) from Bool.beq_comm ..]
    cases b == 0 <;> cases b == 10 <;> cases b == 13 <;> cases l.contains 0 <;> cases l.contains 10 <;> cases l.contains 13 <;> rfl

def nul3 (k : Nat) : UInt8 := if k = 0 then 0 else if k = 1 then 10 else 13
set_option maxRecDepth 100000 in
set_option maxHeartbeats 4000000 in
theorem holds_any (s : ByteArray) (w : World) {g cap : Nat} {T : TypeId} {fr : Nat × Nat} (hg : w.heap[g]? = some (.cells #[.int .u8 0, .int .u8 10, .int .u8 13] T fr)) :
    Calls Tryz.prog 146 #[.string s, .slice (some ⟨g, 0, none⟩) 3 cap] w fun e w' => e = .returned (.bool (!safeB s.data.toList)) ∧ w = w' := by
  have hcell : ∀ k, k < 3 → w.cell? ⟨g, k, none⟩ = some (.int .u8 (nul3 k).toNat) := fun k hk => by
    rw [cell_of_row _ _ _ _ T _ hg]
    match k, hk with
    | 0, _ => rfl
    | 1, _ => rfl
    | 2, _ => rfl
  have HS := Lib.hid (safe_three s.data.toList)
  clear hg
  go_enter Tryz.func146, Tryz.ntmps146
  go_wp2_with fail
  go_loopw [9] (fun i wr => ∃ k : Nat, k ≤ 3 ∧ i = .int .i64 k ∧ Hid (∀ j, j < k → s.data.toList.contains (nul3 j) = false) ∧ w = wr) (fun i _ => 3 - (intOf i).toNat)
  case atStart => exact ⟨0, by omega, rfl, fun j hj => absurd hj (by omega), rfl⟩
  case round =>
    obtain ⟨k, hk, rfl, HF, rfl⟩ := hrel
    by_cases hlt : k < 3
    · have d1 : decide ((k : Int) < 3) = true := by simp; omega
      have hc := hcell k hlt
      have h1 := index_has (nul3 k) s.data.toList
      obtain ⟨x, hx⟩ : ∃ x, Lib.indexByte s.data.toList (nul3 k) = x := ⟨_, rfl⟩
      rw [hx] at h1
      have HI := Lib.hid (index_B hx)
      cases hct : s.data.toList.contains (nul3 k) with
      | true =>
        have HX := Lib.hid (show (!safeB s.data.toList) = true by
          rw [HS.out]
          match k, hlt with
          | 0, _ => rw [show s.data.toList.contains 0 = true from hct]; rfl
          | 1, _ => rw [show s.data.toList.contains 10 = true from hct]; simp
          | 2, _ => rw [show s.data.toList.contains 13 = true from hct]; simp)
        rw [hct] at h1
        clear hct hx
        go_wp2_with fail
        refine (HI.out _).mono ?_
        rintro e w1 ⟨rfl, rfl⟩
        go_wp2_with fail
        go_ret
        exact ⟨by rw [HX.out]; rfl, rfl⟩
      | false =>
        have HN := Lib.hid (show ∀ j, j < k + 1 → s.data.toList.contains (nul3 j) = false from fun j hj => by
          rcases Nat.lt_or_ge j k with h | h
          · exact HF.out j h
          · have : j = k := by omega
            subst this; exact hct)
        rw [hct] at h1
        clear hct hx
        go_wp2_with fail
        refine (HI.out _).mono ?_
        rintro e w1 ⟨rfl, rfl⟩
        go_wp2_with fail
        go_roundw
        case rel => exact ⟨k + 1, by omega, by go_num, HN, by first | rfl | trivial⟩
        case measure => (simp [intOf]; try omega)
    · have hk3 : k = 3 := by omega
      subst hk3
      have HX := Lib.hid (show (!safeB s.data.toList) = false by
        have h0 := HF.out 0 (by omega)
        have h1 := HF.out 1 (by omega)
        have h2 := HF.out 2 (by omega)
        rw [HS.out, show s.data.toList.contains 0 = false from h0, show s.data.toList.contains 10 = false from h1, show s.data.toList.contains 13 = false from h2]; rfl)
      go_wp2_with fail
      go_ret
      exact ⟨by rw [HX.out]; rfl, rfl⟩
end Go.Proofs.YteigjobliflkdaaGreatDoor
