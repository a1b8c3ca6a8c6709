/- Texts of this claim, joined in build order: T8. -/
import Derived.Test.YteigjobliflkdaaGreatDoorZ17
/- Walk: TargetPaths. -/
namespace Go.Proofs.YteigjobliflkdaaGreatDoor
open Go.RowKit

theorem tgtRead_err2 {l : List UInt8} {L : Int} {e : Int × Int} (h : tgtRead l L = .error e) : e.2 = 0 ∨ e.2 = 400 ∨ e.2 = 414 := by
  unfold tgtRead at h
  split at h
  · injection h with h; subst h; exact .inl rfl
  split at h
  · injection h with h; subst h
    simp only
    split
    · exact .inr (.inr rfl)
    · exact .inr (.inl rfl)
  split at h
  · injection h with h; subst h; exact .inr (.inl rfl)
  split at h
  · injection h with h; subst h; exact .inr (.inl rfl)
  split at h
  · injection h with h; subst h; exact .inr (.inl rfl)
  split at h
  · injection h with h; subst h; exact .inr (.inr rfl)
  · cases h
theorem ext_one (a : ByteArray) (i : Nat) (hi : i < a.size) : (a.extract i (i + 1)).data.toList = [a.data.toList[i]?.getD 0] := by
  have hl : i < a.data.toList.length := by rw [size_len]; exact hi
  rw [Lib.extract_data, List.drop_eq_getElem_cons hl, show i + 1 - i = 1 by omega, List.getElem?_eq_getElem hl]; rfl
theorem ext_three (a : ByteArray) (i : Nat) : (a.extract i (i + 3)).data.toList = (a.data.toList.take (i + 3)).drop i := by
  rw [Lib.extract_data, List.drop_take]
theorem set_none : setV (fun _ => false) = .agg #[.int .u64 0, .int .u64 0, .int .u64 0, .int .u64 0] := by kernel_rfl
theorem encode_none {s eb : ByteArray} (h : pctEnc (fun _ => false) s.data.toList = eb.data.toList) (hs : s.size ≤ 30000) (w : World) :
    Calls Tryz.prog 51 #[.string s, .agg #[.int .u64 0, .int .u64 0, .int .u64 0, .int .u64 0]] w fun e w' => e = .returned (.string eb) ∧ Below w.heap.size w w' := by
  have := encode_any (fun _ => false) s w hs
  rw [h, ← S_of, set_none] at this
  exact this
theorem mod3_any (n : Int) (w : World) : Calls Tryz.prog 47 #[.int .i64 n, .int .i64 3] w fun e w' => ∃ r : Nat, r < 3 ∧ e = .returned (.int .i64 r) ∧ w = w' := by
  obtain ⟨r, hr⟩ := Int.eq_ofNat_of_zero_le (Int.emod_nonneg n (show (3 : Int) ≠ 0 by decide))
  have hr2 : r < 3 := by have := Int.emod_lt_of_pos n (show (0 : Int) < 3 by decide); omega
  exact (mod_anyR hr (by decide) (by decide) w).mono fun e w' h => ⟨r, hr2, h.1, h.2⟩
theorem mod128_any (n : Int) (w : World) : Calls Tryz.prog 47 #[.int .i64 n, .int .i64 128] w fun e w' => ∃ r : Nat, r < 128 ∧ e = .returned (.int .i64 r) ∧ w = w' := by
  obtain ⟨r, hr⟩ := Int.eq_ofNat_of_zero_le (Int.emod_nonneg n (show (128 : Int) ≠ 0 by decide))
  have hr2 : r < 128 := by have := Int.emod_lt_of_pos n (show (0 : Int) < 128 by decide); omega
  exact (mod_anyR hr (by decide) (by decide) w).mono fun e w' h => ⟨r, hr2, h.1, h.2⟩

set_option maxRecDepth 100000 in
set_option maxHeartbeats 16000000 in
theorem targetPaths_t {v : Value} {zs : List Int} (s : ByteArray) (n m : Int) (w : World) (hG : Good w) (hN : NumsAt w v zs) : Calls Tryz.prog 9 #[.string s, .int .i64 n, .int .i64 m, v] w (RetV (.bool true) w) := by
  have HN := Lib.hid hN
  clear hN
  by_cases h200 : 200 < s.size
  · have d1 : decide ((200 : Int) < (s.size : Int)) = true := by simp; omega
    go_enter Tryz.func9, Tryz.ntmps9
    go_wp2_with fail
    refine (targetKnown_t _ hG).mono ?_
    rintro e w1 ⟨rfl, HBc⟩
    go_wp2_with fail
    go_ret
    exact RetV.mk rfl HBc
  have d1 : decide ((200 : Int) < (s.size : Int)) = false := by simp; omega
  go_enter Tryz.func9, Tryz.ntmps9
  go_wp2_with fail
  refine (targetKnown_t _ hG).mono ?_
  rintro e w1 ⟨rfl, HBc⟩
  replace hG := hG.next HBc
  replace HN := Lib.hid (HN.out.below HBc)
  go_wp2_with fail
  refine (mod128_any _ _).mono ?_
  rintro e w2 ⟨r, hr, rfl, rfl⟩
  go_wp2_with fail
  refine (mod128_any _ _).mono ?_
  rintro e w2 ⟨r2, hr2, rfl, rfl⟩
  go_wp2_with fail
  obtain ⟨L, hL⟩ : ∃ L : Int, 1 + (r : Int) = L := ⟨_, rfl⟩
  obtain ⟨M, hM⟩ : ∃ M : Int, min 128 (L + (r2 : Int)) = M := ⟨_, rfl⟩
  have hLM : 1 ≤ L ∧ L ≤ 128 ∧ L ≤ M ∧ M ≤ 128 := by omega
  rw [hL, hM]
  clear hL hM hr hr2
  cases hrd : tgtRead s.data.toList L with
  | error e =>
    obtain ⟨e1, e2⟩ := e
    have H := Lib.hid (parseT_T (vRead_err hrd) (show s.size ≤ 50000 by omega))
    have he := tgtRead_err2 hrd
    have x1 : (e2 != 200) = true := by rcases he with h | h | h <;> (simp only at h; subst h; decide)
    clear he hrd
    refine (H.out _ hG).mono ?_
    rintro e w2 ⟨rfl, HB⟩
    go_wp2_with fail
    go_ret
    exact RetV.mk rfl (below2 HBc HB)
  | ok x =>
    obtain ⟨x1, x2⟩ := x
    obtain ⟨p, rfl⟩ : ∃ p : ByteArray, x1 = p.data.toList := ⟨⟨x1.toArray⟩, rfl⟩
    obtain ⟨q, rfl⟩ : ∃ q : ByteArray, x2 = q.data.toList := ⟨⟨x2.toArray⟩, rfl⟩
    have H := Lib.hid (parseT_T (vRead_ok hrd) (show s.size ≤ 50000 by omega))
    have H2 := Lib.hid (parses18_t (tgtRead_more hrd hLM.2.2.1 hLM.2.2.2) (show s.size ≤ 50000 by omega))
    obtain ⟨-, -, d0, hsp, -, -, -, hcl, hpl, -⟩ := tgtRead_some hrd
    have hp0 := dClean_ne hcl
    have hpe : p.toList.isEmpty = false := bs_ne (s := p) (by rw [← size_len]; exact List.length_pos_iff.2 hp0)
    rw [size_len] at hpl
    have d2 : decide (L < (p.size : Int)) = false := by simp; omega
    have hrw := raw_bytes hrd
    have hln := (cut1_len 63 s.data.toList).1
    have hfin := fun (o : List UInt8) => OtherAt.fin (other := o) hrd (by rw [size_len]; omega) rfl
    obtain ⟨a, hA⟩ : ∃ a : ByteArray, (cut1 63 s.data.toList).1 = a.data.toList := ⟨⟨(cut1 63 s.data.toList).1.toArray⟩, rfl⟩
    rw [hA] at hsp hrw hln hfin
    simp only [size_len] at hln
    have SP := Lib.hid (splitT_S hsp (show s.size ≤ 60000 by omega))
    have HRW := Lib.hid hrw
    have HFIN := Lib.hid hfin
    have d3 : decide ((s.size : Int) < (a.size : Int)) = false := by simp; omega
    have i1 : (a.size : Int) ≤ s.size := by omega
    clear hrd hsp hcl hp0 hrw hfin hA
    refine (H.out _ hG).mono ?_
    rintro e w2 ⟨rfl, HB⟩
    replace HBc := below2 HBc HB
    replace HN := Lib.hid (HN.out.below HB)
    replace hG := hG.next HB
    clear HB
    go_wp2_with fail
    refine (H2.out _ hG).mono ?_
    rintro e w3 ⟨rfl, HB⟩
    replace HBc := below2 HBc HB
    replace HN := Lib.hid (HN.out.below HB)
    replace hG := hG.next HB
    clear HB
    go_wp2_with fail
    refine (SP.out _ hG).mono ?_
    rintro e w4 ⟨rfl, HB⟩
    replace HBc := below2 HBc HB
    replace HN := Lib.hid (HN.out.below HB)
    replace hG := hG.next HB
    clear HB
    go_wp2_with fail
    go_loopg [17, 18] (a.size + 1) (fun gh vo vi wr => ∃ (i : Nat) (o : ByteArray), i ≤ a.size ∧ gh = a.size + 1 - i ∧ vi = .int .i64 i ∧ vo = .string o ∧ Hid (OtherAt a.data.toList i o.data.toList) ∧ Hid (Below w4.heap.size w4 wr))
    case atStart => exact ⟨0, ⟨#[]⟩, Nat.zero_le _, rfl, rfl, rfl, OtherAt.start _, Below.refl _ _⟩
    case round =>
      obtain ⟨i, o, hi, hg, rfl, rfl, HO, HB⟩ := hrel
      have hos : o.size ≤ 600 := by have := HO.out.2.1; rw [size_len] at this; omega
      by_cases hlt : i < a.size
      · have d4 : decide ((i : Int) < (a.size : Int)) = true := by simp; omega
        have hil : i < a.data.toList.length := by rw [size_len]; exact hlt
        have j0 : (0 : Int) ≤ i := by omega
        have j1 : (i : Int) < a.size := by omega
        have hgd := sgetD a i hlt
        by_cases h37 : a[i].toNat = 37
        · have hc : a.data.toList[i]?.getD 0 = 37 := by rw [hgd]; exact UInt8.toNat_inj.1 h37
          obtain ⟨dd, hdd⟩ := HRW.out.2.2
          have h2 := (pct_esc hdd HO.out hil hc).1
          rw [size_len] at h2
          have HN3 := Lib.hid (show OtherAt a.data.toList (i + 3) (o ++ a.extract i (i + 3)).data.toList by
            rw [bs_cat2, ext_three]; exact HO.out.esc hdd HRW.out.1 HRW.out.2.1 hil hc)
          have e1 : ((a[i].toNat : Int) == 37) = true := by simp; omega
          have d5 : decide ((i : Int) + 2 < (a.size : Int)) = true := by simp; omega
          have j2 : (i : Int) + 3 ≤ a.size := by omega
          clear h37 hc hdd hgd
          go_wp2_with fail
          go_roundg (a.size + 1 - (i + 3))
          case measure => omega
          case rel => exact ⟨i + 3, _, by omega, by omega, by go_num, rfl, HN3, HB⟩
        · have hc : a.data.toList[i]?.getD 0 ≠ 37 := by rw [hgd]; intro e; rw [e] at h37; exact h37 rfl
          have HL := Lib.hid (show OtherAt a.data.toList (i + 1) (o ++ a.extract i (i + 1)).data.toList by
            rw [bs_cat2, ext_one a i hlt]; exact HO.out.lit HRW.out.1 HRW.out.2.1 hil hc)
          have e1 : ((a[i].toNat : Int) == 37) = false := by simp; omega
          have j2 : (i : Int) + 1 ≤ a.size := by omega
          by_cases hi0 : i = 0
          · have d6 : decide (0 < i) = false := by simp; omega
            have d6' : ¬ 0 < i := by omega
            clear h37 hc hgd hi0
            go_wp2_with fail
            go_roundg (a.size + 1 - (i + 1))
            case measure => omega
            case rel => exact ⟨i + 1, _, by omega, by omega, by go_num, rfl, HL, HB⟩
          · have d6 : decide (0 < i) = true := by simp; omega
            have d6' : 0 < i := by omega
            have HC := HO.out.code hil (by omega) hc
            obtain ⟨eb, heb⟩ : ∃ eb : ByteArray, escOf (a.data.toList[i]?.getD 0) = eb.data.toList := ⟨⟨(escOf (a.data.toList[i]?.getD 0)).toArray⟩, rfl⟩
            have hebs : eb.size ≤ 3 := by rw [← size_len, ← heb]; simp [escOf]
            rw [heb, ← bs_cat2] at HC
            replace HC := Lib.hid HC
            have EN := Lib.hid (encode_none (s := a.extract i (i + 1)) (eb := eb) (by rw [ext_one a i hlt, pctEnc_none, heb]) (by rw [← size_len, ext_one a i hlt]; simp))
            clear h37 hc hgd hi0 heb
            go_wp2_with fail
            refine (at_any i _ (HN.out.below HB.out)).mono ?_
            rintro e w5 ⟨z, rfl, rfl⟩
            go_wp2_with fail
            refine (mod3_any _ _).mono ?_
            rintro e w5 ⟨r3, hr3, rfl, rfl⟩
            by_cases h31 : r3 = 1
            · subst h31
              go_wp2_with fail
              refine (EN.out _).mono ?_
              rintro e w6 ⟨rfl, HB6⟩
              have HB7 := Lib.hid (below2 HB.out HB6)
              clear HB6
              go_wp2_with fail
              go_roundg (a.size + 1 - (i + 1))
              case measure => omega
              case rel => exact ⟨i + 1, _, by omega, by omega, by go_num, rfl, HC, HB7⟩
            · have d7 : ((r3 : Int) == 1) = false := by simp; omega
              go_wp2_with fail
              go_roundg (a.size + 1 - (i + 1))
              case measure => omega
              case rel => exact ⟨i + 1, _, by omega, by omega, by go_num, rfl, HL, HB⟩
      · have d4 : decide ((i : Int) < (a.size : Int)) = false := by simp; omega
        have hia : i = a.data.toList.length := by rw [size_len]; omega
        have hF := HFIN.out _ (hia ▸ HO.out)
        rw [show s.data.toList.drop a.data.toList.length = (s.extract a.size s.size).data.toList by
          rw [Lib.extract_data, size_len]; exact (List.take_of_length_le (by simp)).symm, ← bs_cat2] at hF
        have hsz : (o ++ s.extract a.size s.size : ByteArray).size ≤ 50000 := by
          rw [← size_len, bs_cat2, List.length_append, Lib.extract_data, List.length_take, List.length_drop, size_len, size_len]; omega
        have CF := Lib.hid (parses18_t hF hsz)
        clear hF hsz hia
        go_wp2_with fail
        refine (CF.out _ (hG.next HB.out)).mono ?_
        rintro e w5 ⟨rfl, HB5⟩
        go_wp2_with fail
        go_ret
        exact RetV.mk rfl (below2 HBc (below2 HB.out HB5))
end Go.Proofs.YteigjobliflkdaaGreatDoor
