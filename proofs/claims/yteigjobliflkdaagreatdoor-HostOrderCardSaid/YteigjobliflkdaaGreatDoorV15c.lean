import Derived.Test.YteigjobliflkdaaGreatDoorV15b
namespace Go.Proofs.YteigjobliflkdaaGreatDoor
open Go.RowKit

/-- Both rows hold the same texts. -/
def sameB (A B : List (List UInt8)) : Bool := A == B

theorem getD_S (A : List (List UInt8)) (j : Nat) (h : j < A.length) : A[j]?.getD [] = A[j] := by rw [List.getElem?_eq_getElem h]; rfl

set_option maxRecDepth 100000 in
set_option maxHeartbeats 800000 in
theorem sameTexts_any {A B : List (List UInt8)} {g cap g2 cap2 : Nat} (w : World) (hA : A.length ≤ 60001) (hB : B.length ≤ 60001)
    (ca : ∀ j, j < A.length → w.cell? ⟨g, j, none⟩ = some (.string ⟨(A[j]?.getD []).toArray⟩)) (cb : ∀ j, j < B.length → w.cell? ⟨g2, j, none⟩ = some (.string ⟨(B[j]?.getD []).toArray⟩)) :
    Calls Tryz.prog 36 #[.slice (some ⟨g, 0, none⟩) A.length cap, .slice (some ⟨g2, 0, none⟩) B.length cap2] w (RetV (.bool (sameB A B)) w) := by
  have CA := Lib.hid ca
  have CB := Lib.hid cb
  clear ca cb
  by_cases hl : A.length = B.length
  · have HL := Lib.hid hl
    have d0 : ((A.length : Int) != (B.length : Int)) = false := by simp; omega
    clear hl
    go_enter Tryz.func36, Tryz.ntmps36
    go_wp2_with fail
    go_loopw [4, 5] (fun a b wr => Below w.heap.size w wr ∧ a = .bool false ∧ ∃ k : Nat, k ≤ A.length ∧ b = .int .i64 k ∧ Hid (∀ j, j < k → A[j]?.getD [] = B[j]?.getD [])) (fun _ b _ => A.length - (intOf b).toNat)
    case atStart => exact ⟨Below.refl _ _, rfl, 0, by omega, rfl, fun j h => by omega⟩
    case round =>
      obtain ⟨HBW, rfl, k, hkA, rfl, HK⟩ := hrel
      by_cases hlt : k < A.length
      · have d1 : decide ((k : Int) < (A.length : Int)) = true := by simp; omega
        have a1 := (HBW.cell (p := ⟨g, k, none⟩) (World.block_lt_of_cell? w _ (CA.out k hlt))).trans (CA.out k hlt)
        have hkB : k < B.length := by have := HL.out; omega
        have b1 := (HBW.cell (p := ⟨g2, k, none⟩) (World.block_lt_of_cell? w _ (CB.out k hkB))).trans (CB.out k hkB)
        generalize hx : A[k]?.getD [] = x at a1
        generalize hy : B[k]?.getD [] = y at b1
        have HX := Lib.hid hx
        have HY := Lib.hid hy
        have HkB := Lib.hid hkB
        clear hx hy
        by_cases hc : x = y
        · have hc' : (!(x == y)) = false := by simp [hc]
          have HC := Lib.hid hc
          clear hc
          go_wp2_with fail
          go_quiet (fail)
          go_wp2_with fail
          exact ⟨⟨below_drewN HBW _, rfl, k + 1, by omega, by go_num, fun j hj => by
            by_cases e : j = k
            · subst e; rw [HX.out, HY.out]; exact HC.out
            · exact HK.out j (by omega)⟩, by (simp [intOf]; try omega)⟩
        · have hc' : (!(x == y)) = true := by simp [hc]
          have HE := Lib.hid (show sameB A B = false by
            unfold sameB; rw [beq_eq_false_iff_ne]; intro e; subst e; exact hc (HX.out.symm.trans HY.out))
          clear hc
          go_wp2_with fail
          go_quiet (fail)
          go_wp2_with fail
          go_ret
          exact RetV.mk (by rw [HE.out]; rfl) (below_drewN HBW _)
      · have d1 : decide ((k : Int) < (A.length : Int)) = false := by simp; omega
        have HE := Lib.hid (show sameB A B = true by
          unfold sameB; rw [beq_iff_eq]
          apply List.ext_getElem HL.out
          intro j h1 h2
          have := HK.out j (by omega)
          rwa [getD_S A j h1, getD_S B j h2] at this)
        go_wp2_with fail
        go_ret
        exact RetV.mk (by rw [HE.out]; rfl) HBW
  · have HE := Lib.hid (show sameB A B = false by unfold sameB; rw [beq_eq_false_iff_ne]; intro e; exact hl (by rw [e]))
    have d0 : ((A.length : Int) != (B.length : Int)) = true := by simp; omega
    go_enter Tryz.func36, Tryz.ntmps36
    go_wp2_with fail
    go_ret
    exact RetV.mk (by rw [HE.out]; rfl) (Below.refl _ _)
end Go.Proofs.YteigjobliflkdaaGreatDoor
