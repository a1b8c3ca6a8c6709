/- Walk: host.write. -/
import Derived.Test.YteigjobliflkdaaGreatDoorH15c
import Derived.Deep.DeepCutAuto
namespace Go.Proofs.YteigjobliflkdaaGreatDoor
open Go.RowKit

/-- A slice whose cells hold the bytes l. -/
def BytesAt (w : World) (v : Value) (l : List UInt8) : Prop :=
  ∃ g cap, v = .slice (some ⟨g, 0, none⟩) l.length cap ∧ l.length ≤ cap ∧ g < w.heap.size ∧ ∀ j u, (Lib.byteCells l)[j]? = some u → w.cell? ((⟨g, 0, none⟩ : Addr).add j) = some u

theorem BytesAt.of_own {w : World} {B : Nat} {v : Value} {l : List UInt8} (h : w.ownsRow B 5 1 v l.length (Lib.byteCells l)) (hl : l ≠ []) : BytesAt w v l := by
  have h2 := h.2
  rcases h2 with ⟨_, h0⟩ | ⟨g, cap, cur, rfl, _, hg, hc, _⟩
  · exact absurd (List.length_eq_zero_iff.1 h0) hl
  · exact ⟨g, cap, rfl, hc, (Array.getElem?_eq_some_iff.1 hg).1, h.cells rfl⟩
theorem BytesAt.back {w : World} {l : List UInt8} {g n cap : Nat} (h : ∀ j u, (Lib.byteCells l)[j]? = some u → w.cell? ((⟨g, 0, none⟩ : Addr).add j) = some u) (hn : n = l.length) :
    (convert 75 9 (.slice (some ⟨g, 0, none⟩) n cap)).run Tryz.prog w = .ok (.string ⟨l.toArray⟩) w := by
  subst hn
  refine run_convert_bytes_back w 75 9 5 ⟨g, 0, none⟩ cap l Tryz.underlying75 Tryz.underlying5 Tryz.underlying9 fun j hj => ?_
  exact h j _ (by simp [Lib.byteCells, hj])

set_option maxRecDepth 100000 in
set_option maxHeartbeats 1600000 in
theorem write_any (s : ByteArray) (p : Int) (w : World) (hG : Good w) (hs : s.size ≤ 50000) (h1 : 1 ≤ p) (h2 : p ≤ 65535) :
    Calls Tryz.prog 98 #[.string s, .int .i64 p] w (RetV (S (hostWrite s.data.toList p)) w) := by
  obtain ⟨n, rfl⟩ := Int.eq_ofNat_of_zero_le (show 0 ≤ p by omega)
  by_cases h80 : (n : Int) = 80
  · have hb : ((n : Int) == 80) = true := by simp; omega
    have HE := Lib.hid (show hostWrite s.data.toList n = s.data.toList by unfold hostWrite; rw [if_pos h80])
    clear h80
    go_enter Tryz.func98, Tryz.ntmps98
    go_wp2_with fail
    go_ret
    exact RetV.of (f := S) _ HE.out (S_of s) (Below.refl _ _)
  have hb : ((n : Int) == 80) = false := by simp; omega
  have HE := Lib.hid (show hostWrite s.data.toList n = s.data.toList ++ 58 :: Lib.itoa n by unfold hostWrite; rw [if_neg h80])
  clear h80
  have hcv := conv_bytes w s
  have HR := Lib.hid (BRow.of_bytes w s)
  have HB := bytes_below w s
  have hcap := bytes_cap w s
  have hz : (Lib.bytesWorld w 5 s).heap.size = w.heap.size + 1 := Lib.bytesWorld_size w 5 s
  rw [hcap] at HR
  have hge := grownCap_ge w s.size 0 5
  generalize grownCap w s.size 0 5 = cap at HR hcv hge
  generalize Lib.bytesWorld w 5 s = W1 at hcv HR HB hz
  have HZ := Lib.hid hz
  clear hcap hz
  obtain ⟨i0, hi, hz0, hz1, hz2⟩ := info_parts info5
  go_enter Tryz.func98, Tryz.ntmps98
  go_upto_region 3 with fail
  go_cut [5] (fun b wx => BytesAt wx b (s.data.toList ++ [58]) ∧ Below w.heap.size w wx)
  case first =>
    have hlt : w.heap.size < W1.heap.size := by have := HZ.out; omega
    have c1 : ∀ j, j < s.size → (W1.alloc (.cells #[.int .u8 58] 5)).cell? ⟨w.heap.size, j, none⟩ = some (.int .u8 (s.data.toList[j]?.getD 0).toNat) := fun j hj => by
      rw [World.cell?_alloc_past _ _ _ hlt]; exact HR.out.cell j (by rw [size_len]; exact hj)
    have hold : ∀ j u, (Lib.byteCells s.data.toList)[j]? = some u → (W1.alloc (.cells #[.int .u8 58] 5)).cell? ⟨w.heap.size, 0 + j, none⟩ = some u := fun j u hj => by
      have hjl : j < s.data.toList.length := by have := (List.getElem?_eq_some_iff.1 hj).1; rwa [Lib.byteCells_length] at this
      rw [Nat.zero_add, c1 j (by rw [← size_len]; exact hjl), ← hj]
      simp only [Lib.byteCells, List.getElem?_map, List.getElem?_eq_getElem hjl, Option.map_some, Option.getD_some]
    have hsp : s.size + 1 ≤ cap → ∀ j, j < [Value.int .u8 58].length → ((W1.alloc (.cells #[.int .u8 58] 5)).cell? ⟨w.heap.size, 0 + s.size * 1 + j, none⟩).isSome = true ∧ (W1.alloc (.cells #[.int .u8 58] 5)).frozen? ⟨w.heap.size, 0 + s.size * 1 + j, none⟩ = false := fun hc j hj => by
      have hj0 : j = 0 := by simpa using hj
      subst hj0
      obtain ⟨cs, hb', hcs, _, _⟩ := HR.out
      have hh : (W1.alloc (.cells #[.int .u8 58] 5)).heap[w.heap.size]? = some (.cells cs 5 (cap, cap + 1)) := by rw [Below.heap_alloc _ _ _ hlt]; exact hb'
      constructor
      · rw [cell_of_row _ _ _ cs 5 _ hh, Array.getElem?_eq_getElem (by omega)]; rfl
      · unfold World.frozen?
        simp only [hh]
        simp; omega
    have HOld := Lib.hid hold
    have HSp := Lib.hid hsp
    have HC1 := Lib.hid c1
    have hBW : Below w.heap.size w (W1.alloc (.cells #[.int .u8 58] 5)) := HB.alloc HB.size _
    have hlt2 : w.heap.size < (W1.alloc (.cells #[.int .u8 58] 5)).heap.size := by simp; omega
    have hnew := cell_one_new W1 (.int .u8 58) 5
    have HNew := Lib.hid hnew
    clear hold hsp c1 hnew
    have K1 : ∀ W, W = W1.alloc (.cells #[.int .u8 58] 5) → s.size + 1 ≤ cap → BytesAt (W.setCells w.heap.size (0 + s.size * 1) [.int .u8 58]) (.slice (some ⟨w.heap.size, 0, none⟩) (s.size + 1) cap) (s.data.toList ++ [58]) ∧ Below w.heap.size w (W.setCells w.heap.size (0 + s.size * 1) [.int .u8 58]) := by
      rintro W rfl hc
      refine ⟨⟨w.heap.size, cap, by simp, by simpa using hc, by simpa [World.setCells, World.setCell] using hlt2, fun j u hj => ?_⟩, ?_⟩
      · have hjl : j < s.size + 1 := by
          have := (List.getElem?_eq_some_iff.1 hj).1
          rw [Lib.byteCells_length] at this
          simpa using this
        rw [show (⟨w.heap.size, 0, none⟩ : Addr).add j = ⟨w.heap.size, j, none⟩ by rw [Lib.add_plain, Nat.zero_add]]
        by_cases hjn : j < s.size
        · rw [World.cell?_setCells_out _ _ _ _ _ (fun _ _ => Or.inl (by show j < 0 + s.size * 1; omega)), HC1.out j hjn, ← hj]
          have h5 : j < s.data.toList.length := by rw [size_len]; exact hjn
          simp only [Lib.byteCells, List.map_append, List.getElem?_append, List.length_map, if_pos h5, List.getElem?_map, List.getElem?_eq_getElem h5, Option.map_some, Option.getD_some]
        · have e : j = s.size := by omega
          subst e
          obtain ⟨o, ho⟩ := Option.isSome_iff_exists.1 (HSp.out hc 0 (by simp)).1
          have hu : u = .int .u8 58 := by
            simp [Lib.byteCells] at hj
            exact hj.symm
          subst hu
          simp only [World.setCells]
          simp only [Nat.zero_add, Nat.mul_one, Nat.add_zero] at ho ⊢
          exact World.cell?_setCell_same _ _ _ ho
      · simpa [World.setCells] using hBW.setCell (p := ⟨w.heap.size, s.size, none⟩) (Nat.le_refl _) (.int .u8 58)
    have HK1 := Lib.hid (K1 _ rfl)
    clear K1
    go_wp2_with (at_builtin; refine wpList_append_arg _ rfl _ _ 75 rfl 5 i0 (.int .u8 0) 1 1 Tryz.underlying75 hi hz0 hz1 hz2 rfl (by decide) w.heap.size 0 s.size cap (Lib.byteCells s.data.toList) rfl ?c1 HOld.out ⟨W1.heap.size, 0, none⟩ 1 1 [.int .u8 58] rfl rfl HNew.out ?c2 HSp.out ?c3 ?c4 ?c5 ?c6)
    case c1 => rw [Lib.byteCells_length, size_len, Nat.mul_one]
    case c2 => intro u hu; simp at hu; subst hu; rfl
    case c3 => unfold maxLen; omega
    case c4 => omega
    case c5 =>
      intro hc
      go_wp2_with fail
      go_meet
      have := HK1.out hc
      simpa using this
    case c6 =>
      intro hc v' w' hown hg
      have hBB := hBW.grown hg hBW.size (fun k hk => by cases hk)
      go_wp2_with fail
      go_meet
      refine ⟨BytesAt.of_own (B := W1.heap.size + 1) (by simpa [Lib.byteCells] using hown) (by simp), hBB⟩
  case rest =>
    obtain ⟨⟨g, cap2, hv, hle, hgw, hcells⟩, HB2⟩ := hcut
    have hlen : (s.data.toList ++ [58]).length = s.size + 1 := by simp
    rw [hlen] at hv hle
    have HLen := Lib.hid hlen
    subst hv
    have HC := Lib.hid hcells
    have hG2 := hG.next HB2
    clear hcells hlen hcv
    go_wp2_with fail
    refine (appInt_any g (s.size + 1) n (by omega) (by omega) (Lib.byteCells (s.data.toList ++ [58])) (by rw [Lib.byteCells_length, HLen.out]) _ hG2 hgw HC.out).mono ?_
    rintro e w3 ⟨v', rfl, hown, HB3⟩
    have hne : s.data.toList ++ [58] ++ Lib.itoa (n : Int) ≠ [] := by simp
    rw [show Lib.byteCells (s.data.toList ++ [58]) ++ Lib.byteCells (Lib.itoa (n : Int)) = Lib.byteCells (s.data.toList ++ [58] ++ Lib.itoa (n : Int)) by simp [Lib.byteCells]] at hown
    rw [show s.size + 1 + (Lib.itoa (n : Int)).length = (s.data.toList ++ [58] ++ Lib.itoa (n : Int)).length by simp; omega] at hown
    obtain ⟨g3, cap3, hv3, hle3, hgw3, hc3⟩ := BytesAt.of_own hown hne
    subst hv3
    have hback := BytesAt.back (cap := cap3) hc3 rfl
    have HE2 := Lib.hid (show hostWrite s.data.toList n = s.data.toList ++ [58] ++ Lib.itoa (n : Int) by rw [HE.out]; simp)
    clear hc3 hown hne
    generalize s.data.toList ++ [58] ++ Lib.itoa (n : Int) = r at hback HE2
    go_wp2_with fail
    go_ret
    exact RetV.of (f := S) _ HE2.out rfl (HB2.trans (HB3.mono HB2.size))
end Go.Proofs.YteigjobliflkdaaGreatDoor
