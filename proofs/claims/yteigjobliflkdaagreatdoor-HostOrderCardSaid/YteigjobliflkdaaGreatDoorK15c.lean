import Derived.Test.YteigjobliflkdaaGreatDoorK15b
import Derived.Test.YteigjobliflkdaaGreatDoorR15e
namespace Go.Proofs.YteigjobliflkdaaGreatDoor
open Go.RowKit Go.Shelf

theorem nan_any (s : ByteArray) (w : World) : Calls Tryz.prog 168 #[.string s] w fun e w' => e = .returned (.bool false) ∧ w' = w := by
  go_enter Tryz.func168, Tryz.ntmps168
  go_wp2_with fail
  go_ret
  exact ⟨rfl, rfl⟩

theorem cmpS_any (s t : ByteArray) (w : World) :
    Calls Tryz.prog 129 #[.string s, .string t] w fun e w' => e = .returned (.int .i64 (cmpB s.data.toList t.data.toList)) ∧ w = w' := by
  rw [← Lib.toList_data, ← Lib.toList_data]
  by_cases h1 : Op.bytesLess s.toList t.toList = true
  · have HE := Lib.hid (show cmpB s.toList t.toList = -1 by unfold cmpB; rw [if_pos h1])
    go_enter Tryz.func129, Tryz.ntmps129
    go_wp2_with (go_at_call 168; refine (nan_any _ _).mono ?_; rintro e w1 ⟨rfl, rfl⟩)
    go_ret
    exact ⟨ret_int HE.out.symm, rfl⟩
  have h1' : Op.bytesLess s.toList t.toList = false := by simpa using h1
  by_cases h2 : (s.toList == t.toList) = true
  · have HE := Lib.hid (show cmpB s.toList t.toList = 0 by unfold cmpB; rw [if_neg h1, if_pos h2])
    clear h1
    go_enter Tryz.func129, Tryz.ntmps129
    go_wp2_with (go_at_call 168; refine (nan_any _ _).mono ?_; rintro e w1 ⟨rfl, rfl⟩)
    go_ret
    exact ⟨ret_int HE.out.symm, rfl⟩
  · have h2' : (s.toList == t.toList) = false := by simpa using h2
    have HE := Lib.hid (show cmpB s.toList t.toList = 1 by unfold cmpB; rw [if_neg h1, if_neg h2])
    clear h1 h2
    go_enter Tryz.func129, Tryz.ntmps129
    go_wp2_with (go_at_call 168; refine (nan_any _ _).mono ?_; rintro e w1 ⟨rfl, rfl⟩)
    go_ret
    exact ⟨ret_int HE.out.symm, rfl⟩

/-- Or of two numbers. -/
def orI (x y : Int) : Int := if x = 0 then y else x
set_option maxRecDepth 100000 in
set_option maxHeartbeats 800000 in
theorem or_any (x y : Int) (g : Nat) (w : World) (c0 : w.cell? ⟨g, 0, none⟩ = some (.int .i64 x)) (c1 : w.cell? ⟨g, 1, none⟩ = some (.int .i64 y)) :
    Calls Tryz.prog 84 #[.slice (some ⟨g, 0, none⟩) 2 2] w fun e w' => e = .returned (.int .i64 (orI x y)) ∧ w' = w := by
  go_enter Tryz.func84, Tryz.ntmps84
  go_wp2_with fail
  go_loopw [2, 8] (fun a b wr => wr = w ∧ a = .int .i64 0 ∧ ∃ k : Nat, k ≤ 2 ∧ b = .int .i64 k ∧ Hid (0 < k → x = 0) ∧ Hid (1 < k → y = 0)) (fun _ b _ => 2 - (intOf b).toNat)
  case atStart => exact ⟨rfl, rfl, 0, by omega, rfl, fun h => by omega, fun h => by omega⟩
  case round =>
    obtain ⟨rfl, rfl, k, hk, rfl, H1, H2⟩ := hrel
    match k, hk, H1, H2 with
    | 0, _, H1, H2 =>
      by_cases hx : x = 0
      · subst hx
        have HE := Lib.hid (show orI 0 y = y from rfl)
        go_wp2_with fail
        go_round
        case rel => exact ⟨by simp, by simp, 1, by omega, by simp, fun _ => by simp, fun h => by omega⟩
        case measure => simp [intOf]
      · have hx' : (x != 0) = true := by simpa using hx
        have HE := Lib.hid (show orI x y = x by unfold orI; rw [if_neg hx])
        go_wp2_with fail
        go_ret
        exact ⟨ret_int HE.out.symm, rfl⟩
    | 1, _, H1, H2 =>
      have hx := H1.out (by omega)
      have HE := Lib.hid (show orI x y = y by unfold orI; rw [if_pos hx])
      clear hx
      by_cases hy : y = 0
      · have HY := Lib.hid hy
        have hy' : (y != 0) = false := by simpa using hy
        clear hy
        go_wp2_with fail
        go_round
        case rel => exact ⟨by simp, by simp, 2, by omega, by simp, fun _ => H1.out (by omega), fun _ => HY.out⟩
        case measure => simp [intOf]
      · have hy' : (y != 0) = true := by simpa using hy
        go_wp2_with fail
        go_ret
        exact ⟨ret_int HE.out.symm, rfl⟩
    | 2, _, H1, H2 =>
      have HE := Lib.hid (show orI x y = 0 by unfold orI; rw [if_pos (H1.out (by omega)), H2.out (by omega)])
      go_wp2_with fail
      go_ret
      exact ⟨ret_int HE.out.symm, rfl⟩

set_option maxRecDepth 100000 in
set_option maxHeartbeats 1600000 in
theorem compareS_any {A B : List (List UInt8)} {g cap g2 cap2 : Nat} (w : World) (hA : A.length ≤ 60001) (hB : B.length ≤ 60001)
    (ca : ∀ j, j < A.length → w.cell? ⟨g, j, none⟩ = some (.string ⟨(A[j]?.getD []).toArray⟩)) (cb : ∀ j, j < B.length → w.cell? ⟨g2, j, none⟩ = some (.string ⟨(B[j]?.getD []).toArray⟩)) :
    Calls Tryz.prog 85 #[.slice (some ⟨g, 0, none⟩) A.length cap, .slice (some ⟨g2, 0, none⟩) B.length cap2] w fun e w' => e = .returned (.int .i64 (cmpL A B)) ∧ w' = w := by
  have CA := Lib.hid ca
  have CB := Lib.hid cb
  clear ca cb
  go_enter Tryz.func85, Tryz.ntmps85
  go_wp2_with fail
  go_loopw [4, 11] (fun a b wr => wr = w ∧ a = .int .i64 0 ∧ ∃ k : Nat, k ≤ A.length ∧ k ≤ B.length ∧ b = .int .i64 k ∧ Hid (∀ j, j < k → cmpB (A[j]?.getD []) (B[j]?.getD []) = 0)) (fun _ b _ => A.length - (intOf b).toNat)
  case atStart => exact ⟨rfl, rfl, 0, by omega, by omega, rfl, fun j h => by omega⟩
  case round =>
    obtain ⟨rfl, rfl, k, hkA, hkB, rfl, HL⟩ := hrel
    by_cases hlA : k < A.length
    · have d1 : decide ((k : Int) < (A.length : Int)) = true := by simp; omega
      have a1 := CA.out k hlA
      by_cases hlB : k < B.length
      · have d2 : decide ((B.length : Int) ≤ (k : Int)) = false := by simp; omega
        have b1 := CB.out k hlB
        generalize hx : A[k]?.getD [] = x at a1
        generalize hy : B[k]?.getD [] = y at b1
        have HX := Lib.hid hx
        have HY := Lib.hid hy
        clear hx hy
        have hS := cmpS_any ⟨x.toArray⟩ ⟨y.toArray⟩ wr
        by_cases hc : cmpB x y = 0
        · have hc' : (cmpB x y != 0) = false := by simpa using hc
          have HC := Lib.hid hc
          clear hc
          go_wp2_with fail
          refine hS.mono ?_
          rintro e w1 ⟨rfl, rfl⟩
          go_wp2_with fail
          go_roundw
          case rel => exact ⟨by simp, by simp, k + 1, by omega, by omega, by go_num, fun j hj => by
            by_cases e : j = k
            · subst e; rw [HX.out, HY.out]; exact HC.out
            · exact HL.out j (by omega)⟩
          case measure => (simp [intOf]; try omega)
        · have hc' : (cmpB x y != 0) = true := by simpa using hc
          have HE := Lib.hid (show cmpL A B = cmpB x y by
            have h := cmpL_hit HL.out hlA hlB (by rw [HX.out, HY.out]; exact hc)
            rwa [HX.out, HY.out] at h)
          clear hc
          go_wp2_with fail
          refine hS.mono ?_
          rintro e w1 ⟨rfl, rfl⟩
          go_wp2_with fail
          go_ret
          exact ⟨ret_int HE.out.symm, rfl⟩
      · have d2 : decide ((B.length : Int) ≤ (k : Int)) = true := by simp; omega
        have HE := Lib.hid (show cmpL A B = 1 by
          rw [cmpL_end (A := A) (B := B) (fun j _ hj => HL.out j (by omega)), if_neg (by omega), if_pos (by omega)])
        go_wp2_with fail
        go_ret
        exact ⟨ret_int HE.out.symm, rfl⟩
    · have d1 : decide ((k : Int) < (A.length : Int)) = false := by simp; omega
      by_cases hlB : A.length < B.length
      · have d2 : decide ((A.length : Int) < (B.length : Int)) = true := by simp; omega
        have HE := Lib.hid (show cmpL A B = -1 by
          rw [cmpL_end (A := A) (B := B) (fun j hj _ => HL.out j (by omega)), if_pos hlB])
        go_wp2_with fail
        go_ret
        exact ⟨ret_int HE.out.symm, rfl⟩
      · have d2 : decide ((A.length : Int) < (B.length : Int)) = false := by simp; omega
        have HE := Lib.hid (show cmpL A B = 0 by
          rw [cmpL_end (A := A) (B := B) (fun j hj _ => HL.out j (by omega)), if_neg hlB, if_neg (by omega)])
        go_wp2_with fail
        go_ret
        exact ⟨ret_int HE.out.symm, rfl⟩
end Go.Proofs.YteigjobliflkdaaGreatDoor
