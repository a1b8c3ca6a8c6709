/- Texts of this claim, joined in build order: R02b, R02c, R14, S14, R14b, R15d, R17c, S14b, S17c. -/
import Derived.Test.YteigjobliflkdaaGreatDoorZ3
import Derived.IntWalk
import Derived.Deep.LoopGhost
import Derived.StillTailTactics
import Derived.Test.YteigjobliflkdaaGreatDoorZ2
/- Walk: waypostref02.Decode. -/
namespace Go.Proofs.YteigjobliflkdaaGreatDoor
open Go.RowKit

theorem fault_results {fn : Func} {p q : Tmp} (h : fn.results = #[.tmp q, .cell p 111]) {tmps : Array Value} {w : World} {g : Nat} {a b : Int} (hp : tmps.getD p undef = .pointer (some ⟨g, 0, none⟩)) (hs : w.heap[g]? = some (.cells #[.int .i64 a, .int .i64 b] 111 (0, 0))) :
    (results fn tmps).run Tryz.prog w = .ok (.tuple #[tmps.getD q undef, .agg #[.int .i64 a, .int .i64 b]]) w := by
  have hp' : tmps[p]?.getD undef = .pointer (some ⟨g, 0, none⟩) := by simpa using hp
  simp [results, h, hp', asAddr, run_loadVar_row w g 111 111 _ (0, 0) _ hs Tryz.underlying111 rfl (by kernel_rfl)]
/-- What Decode hands back. -/
def RetDec (r : Option (List UInt8)) (w : World) (e : Ending) (w' : World) : Prop := match r with
  | none => ∃ at' : Int, e = .returned (.tuple #[.string ⟨#[]⟩, .agg #[.int .i64 3, .int .i64 at']]) ∧ Below w.heap.size w w'
  | some d => e = .returned (.tuple #[.string ⟨d.toArray⟩, .agg #[.int .i64 0, .int .i64 0]]) ∧ Below w.heap.size w w'
theorem RetDec.err {l : List UInt8} {w w' : World} {a : Int} {v : Value} (h : pctDec l = none) (hv : v = .tuple #[.string ⟨#[]⟩, .agg #[.int .i64 3, .int .i64 a]]) (hB : Below w.heap.size w w') : RetDec (pctDec l) w (.returned v) w' := by
  rw [h, hv]; exact ⟨a, rfl, hB⟩
theorem RetDec.ok {l d : List UInt8} {w w' : World} {v : Value} (h : pctDec l = some d) (hv : v = .tuple #[.string ⟨d.toArray⟩, .agg #[.int .i64 0, .int .i64 0]]) (hB : Below w.heap.size w w') : RetDec (pctDec l) w (.returned v) w' := by
  rw [h, hv]; exact ⟨rfl, hB⟩
/-- Two numbers lie in block g. -/
def TwoAt (w : World) (g T : Nat) (a b : Int) : Prop := w.heap[g]? = some (.cells #[.int .i64 a, .int .i64 b] T (0, 0))
theorem TwoAt.below {w w' : World} {g T : Nat} {a b : Int} (h : TwoAt w g T a b) (hB : Below w.heap.size w w') : TwoAt w' g T a b := by
  have hl : g < w.heap.size := (Array.getElem?_eq_some_iff.1 h).1
  unfold TwoAt
  rw [hB.block g hl]; exact h
theorem TwoAt.cell {w : World} {g T : Nat} {a b : Int} (h : TwoAt w g T a b) : w.cell? ⟨g, 0, none⟩ = some (.int .i64 a) ∧ w.cell? ⟨g, 1, none⟩ = some (.int .i64 b) := by
  constructor <;> (rw [cell_of_row w g _ _ T _ h]; rfl)
theorem TwoAt.put {w : World} {g T : Nat} {a b : Int} (h : TwoAt w g T a b) (c d : Int) : TwoAt ((w.setCell ⟨g, 0, none⟩ (.int .i64 c)).setCell ⟨g, 1, none⟩ (.int .i64 d)) g T c d := by
  have h0 := Lib.heap_setCell_same (i := 0) h (.int .i64 c)
  exact Lib.heap_setCell_same (i := 1) h0 (.int .i64 d)
theorem TwoAt.frozen {w : World} {g T : Nat} {a b : Int} (h : TwoAt w g T a b) (i : Nat) : w.frozen? ⟨g, i, none⟩ = false := by
  have h : w.heap[g]? = _ := h
  unfold World.frozen?; simp only [h]; simp

theorem value_still (b : UInt8) (w : World) : Calls Tryz.prog 157 #[.int .u8 b.toNat] w fun e w' => e = .returned (.int .i64 (hexV b)) ∧ w' = w :=
  (value_ref b w).mono fun _ _ h => ⟨h.1, h.2.symm⟩
theorem escape_refB {s : ByteArray} {i : Nat} {c : Bool} (hc : escB (s.data.toList.drop i) = c) (hs : s.size ≤ 60000) (hi : i < s.size) (w : World) :
    Calls Tryz.prog 156 #[.string s, .int .i64 i] w fun e w' => e = .returned (.bool c) ∧ w = w' := by
  have := escape_ref s i w hs hi
  rwa [hc] at this
theorem step_refB {s : ByteArray} {i : Nat} {c : Bool} (hc : escB (s.data.toList.drop i) = c) (hs : s.size ≤ 60000) (hi : i < s.size) (w : World) :
    Calls Tryz.prog 155 #[.string s, .int .i64 i] w fun e w' => e = .returned (.int .i64 (if c then 3 else 1)) ∧ w = w' := step_ref s i w hs hi c hc

theorem after1 {w wr : World} {o : Obj} (h : Below (w.heap.size + 1) (w.alloc o) wr) : Below w.heap.size w wr := ((Below.refl _ _).alloc (Nat.le_refl _) o).trans (h.mono (by omega))
theorem first1 {w wr : World} {o : Obj} (h : Below (w.heap.size + 1) (w.alloc o) wr) : wr.heap[w.heap.size]? = some o := (h.block w.heap.size (by omega)).trans (heap_alloc_new w o)
theorem size1 {w wr : World} {o : Obj} (h : Below (w.heap.size + 1) (w.alloc o) wr) : w.heap.size + 1 ≤ wr.heap.size := by have := h.size; simpa using this

set_option maxRecDepth 100000 in
set_option maxHeartbeats 4000000 in
theorem decode_ref (s : ByteArray) (w : World) (hs : s.size ≤ 60000) : Calls Tryz.prog 112 #[.string s] w (RetDec (pctDec s.data.toList) w) := by
  go_enter Tryz.func112, Tryz.ntmps112
  go_wp2_with fail
  go_loopg [4, 5] (s.size + 1) (fun gh v i wr => ∃ (k : Nat) (o : List UInt8), k ≤ s.size ∧ gh = s.size + 1 - k ∧ i = .int .i64 k ∧ Hid (DecodeAt s.data.toList k o) ∧ OwnB wr (w.heap.size + 1) v o ∧ Below (w.heap.size + 1) (w.alloc (.cells #[.int .i64 0, .int .i64 0] 111)) wr)
  case atStart => exact ⟨0, [], Nat.zero_le _, rfl, rfl, DecodeAt.start _, OwnB.nil _ _, Below.refl _ _⟩
  case round =>
    obtain ⟨k, o, hk, hg, rfl, HD, HO, HB⟩ := hrel
    have HT : TwoAt wr w.heap.size 111 0 0 := first1 HB
    have hlt0 := size1 HB
    have HOh := Lib.hid HO
    have HTh := Lib.hid HT
    have hol : o.length ≤ k := HD.out.2.1
    by_cases hlt : k < s.size
    · have d1 : decide ((k : Int) < (s.size : Int)) = true := by simp; omega
      have hsl : k < s.data.toList.length := by rw [size_len]; exact hlt
      cases he : escB (s.data.toList.drop k) with
      | true =>
        have hl3 := escB_len he
        rw [List.length_drop, size_len] at hl3
        have hk3' : k + 3 ≤ s.size := by omega
        have HE := Lib.hid (escape_refB he hs hlt)
        have HS := Lib.hid (step_refB he hs hlt)
        have HN := Lib.hid (HD.out.esc hsl he)
        have hv := escV_drop s.data.toList k (by rw [size_len]; omega)
        have hd := escB_drop s.data.toList k
        rw [sgetD s (k + 1) (by omega), sgetD s (k + 2) (by omega)] at hv
        rw [he, sgetD s (k + 1) (by omega), sgetD s (k + 2) (by omega)] at hd
        replace hd := hd.symm
        simp only [Bool.and_eq_true, decide_eq_true_eq] at hd
        have hn1 := hd.1.2
        have hn2 := hd.2
        clear hd
        have V1 := Lib.hid (value_still s[k+1])
        have V2 := Lib.hid (value_still s[k+2])
        have hb1 := (hexV_bd s[k+1]).2
        have hb2 := (hexV_bd s[k+2]).2
        generalize hexV s[k+1] = v1 at hn1 hb1 V1 hv
        generalize hexV s[k+2] = v2 at hn2 hb2 V2 hv
        obtain ⟨n1, rfl⟩ := Int.eq_ofNat_of_zero_le hn1
        obtain ⟨n2, rfl⟩ := Int.eq_ofNat_of_zero_le hn2
        rw [Int.toNat_natCast, Int.toNat_natCast] at hv
        have HV := Lib.hid hv
        have hm1 : n1 ≤ 15 := by omega
        have hm2 : n2 ≤ 15 := by omega
        clear he hv hn1 hn2 hb1 hb2 hl3
        go_wp2_with fail
        refine (HE.out _).mono ?_
        rintro e w' ⟨rfl, rfl⟩
        go_wp2_with fail
        have b1 : (0 : Int) ≤ k := by omega
        have b2 : (k : Int) + 1 < s.size := by omega
        have b3 : (k : Int) + 2 < s.size := by omega
        have b4 : (0 : Int) ≤ (k : Int) + 1 := by omega
        have b5 : (0 : Int) ≤ (k : Int) + 2 := by omega
        have wA : IntKind.i64.wrap ((k : Int) + 1) = (k : Int) + 1 := IntWalk.i64_in _ (by omega)
        have wB : IntKind.i64.wrap ((k : Int) + 2) = (k : Int) + 2 := IntWalk.i64_in _ (by omega)
        have wC : IntKind.i64.wrap (16 * (n1 : Int)) = 16 * (n1 : Int) := IntWalk.i64_in _ (by omega)
        have wD : IntKind.i64.wrap (16 * (n1 : Int) + (n2 : Int)) = 16 * (n1 : Int) + (n2 : Int) := IntWalk.i64_in _ (by omega)
        have wE : IntKind.u8.wrap (16 * (n1 : Int) + (n2 : Int)) = 16 * (n1 : Int) + (n2 : Int) := by rw [IntKind.wrap_u8']; omega
        have tA : ((k : Int) + 1).toNat = k + 1 := by omega
        have tB : ((k : Int) + 2).toNat = k + 2 := by omega
        go_region_law (first
          | (refine stepApp5one (c := escV (s.data.toList.drop k)) rfl _ _ rfl HOh.out HB (by rw [HV.out, UInt8.toNat_ofNat']; omega) rfl rfl (by omega) (by omega) (by omega) ?_; intro v' w' hown' HB')
          | (go_simp; (first | (go_at_call 157; (with_reducible refine (V1.out _).mono ?_); rintro e w' ⟨rfl, rfl⟩) | (go_at_call 157; refine (V2.out _).mono ?_; rintro e w' ⟨rfl, rfl⟩))))
        all_goals
          go_wp2_with fail
          refine (HS.out _).mono ?_
          rintro e w'' ⟨rfl, rfl⟩
          go_wp2_with fail
          go_roundg (s.size + 1 - (k + 3))
          case measure => omega
          case rel => exact ⟨k + 3, _, by omega, rfl, by go_num, HN.out, hown', HB'⟩
      | false =>
        have HE := Lib.hid (escape_refB he hs hlt)
        have HS := Lib.hid (step_refB he hs hlt)
        have hsg := sgetD s k hlt
        by_cases h37 : s[k].toNat = 37
        · have HN := Lib.hid (HD.out.bad hsl he (by rw [hsg]; exact UInt8.toNat_inj.1 h37))
          have e37 : ((s[k].toNat : Int) == 37) = true := by simp; omega
          have hput := Lib.hid HT.put
          obtain ⟨t0, t1⟩ := HT.cell
          have f0 := HT.frozen 0
          have f1 := HT.frozen 1
          clear he h37 hsg
          go_wp2_with fail
          refine (HE.out _).mono ?_
          rintro e w' ⟨rfl, rfl⟩
          go_wp2_with fail
          exact bodyPost_ret (fault_results Tryz.results112 rfl (hput.out 3 k)) rfl (RetDec.err HN.out rfl (((after1 HB).setCell (Nat.le_refl _) _).setCell (Nat.le_refl _) _))
        · have HN := Lib.hid (HD.out.lit hsl he (by rw [hsg]; intro e; rw [e] at h37; exact h37 rfl))
          rw [hsg] at HN
          have e37 : ((s[k].toNat : Int) == 37) = false := by simp; omega
          clear he h37 hsg
          go_wp2_with fail
          refine (HE.out _).mono ?_
          rintro e w' ⟨rfl, rfl⟩
          go_wp2_with (at_builtin; refine wpApp5one (c := s[k]) rfl _ _ rfl HOh.out HB rfl rfl rfl (by omega) (by omega) (by omega) ?_)
          intro v' w' hown' HB'
          go_wp2_with fail
          refine (HS.out _).mono ?_
          rintro e w'' ⟨rfl, rfl⟩
          go_wp2_with fail
          go_roundg (s.size + 1 - (k + 1))
          case measure => omega
          case rel => exact ⟨k + 1, _, by omega, rfl, by go_num, HN.out, hown', HB'⟩
    · have d1 : decide ((k : Int) < (s.size : Int)) = false := by simp; omega
      have HN := Lib.hid (HD.out.fin (by rw [size_len]; omega))
      have hcv := HO.back
      have hput := Lib.hid HT.put
      obtain ⟨t0, t1⟩ := HT.cell
      have f0 := HT.frozen 0
      have f1 := HT.frozen 1
      go_wp2_with fail
      exact bodyPost_ret (fault_results Tryz.results112 rfl (hput.out 0 0)) rfl (RetDec.ok HN.out rfl (((after1 HB).setCell (Nat.le_refl _) _).setCell (Nat.le_refl _) _))
end Go.Proofs.YteigjobliflkdaaGreatDoor
/- Walk: waypostref02.Encode. -/
namespace Go.Proofs.YteigjobliflkdaaGreatDoor
open Go.RowKit

theorem pctB_yes {P : Nat → Bool} {b : UInt8} (h : b.toNat ≠ 37) (hp : P b.toNat = true) : pctB P b = [b] := by
  unfold pctB; rw [if_pos ⟨fun e => h (by rw [e]; rfl), hp⟩]
theorem pctB_no {P : Nat → Bool} {b : UInt8} (h : b.toNat = 37 ∨ P b.toNat = false) : pctB P b = [37, hexD (b.toNat / 16), hexD (b.toNat % 16)] := by
  unfold pctB; rw [if_neg]
  rintro ⟨h1, h2⟩
  rcases h with h | h
  · exact h1 (UInt8.toNat_inj.1 h)
  · rw [h] at h2; cases h2

theorem below_drewN' {B : Nat} {a w : World} (h : Below B a w) (n : Nat) : Below B a (w.drewN n) := h.trans ⟨rfl, rfl, rfl, Nat.le_refl _, fun _ _ => rfl⟩
theorem hexD_at : ∀ (n : Nat) (h : n < 16), (hexD n).toNat = ((⟨#[48, 49, 50, 51, 52, 53, 54, 55, 56, 57, 65, 66, 67, 68, 69, 70]⟩ : ByteArray)[n]'(h)).toNat := by decide
theorem OwnB.drewN {w : World} {B : Nat} {v : Value} {l : List UInt8} (h : OwnB w B v l) (n : Nat) : OwnB (w.drewN n) B v l := own_below h (below_drewN' (Below.refl _ _) n)

set_option maxRecDepth 100000 in
set_option maxHeartbeats 4000000 in
theorem encode_ref (P : Nat → Bool) (s : ByteArray) (w : World) (hs : s.size ≤ 30000) : Calls Tryz.prog 123 #[.string s, setV P] w (RetV (S (pctEnc P s.data.toList)) w) := by
  unfold setV
  go_enter Tryz.func123, Tryz.ntmps123
  go_wp2_with fail
  go_loopg [5, 6] (s.size + 1) (fun gh v i wr => ∃ (k : Nat), k ≤ s.size ∧ gh = s.size + 1 - k ∧ i = .int .i64 k ∧ OwnB wr (w.heap.size + 1) v (pctEnc P (s.data.toList.take k)) ∧ Below (w.heap.size + 1) (w.alloc (.cells #[.int .u64 (word P 0), .int .u64 (word P 1), .int .u64 (word P 2), .int .u64 (word P 3)] 60)) wr)
  case atStart => exact ⟨0, Nat.zero_le _, rfl, rfl, OwnB.nil _ _, Below.refl _ _⟩
  case round =>
    obtain ⟨k, hk, hg, rfl, HO, HB⟩ := hrel
    have HA : SetAt wr w.heap.size P := first1 HB
    have hlt0 := size1 HB
    have HOh := Lib.hid HO
    by_cases hlt : k < s.size
    · have d1 : decide ((k : Int) < (s.size : Int)) = true := by simp; omega
      have HN := Lib.hid (show pctEnc P (s.data.toList.take (k + 1)) = pctEnc P (s.data.toList.take k) ++ pctB P s[k] by rw [take_snoc s k hlt, pctEnc_snoc])
      have hol : (pctEnc P (s.data.toList.take k)).length ≤ 90000 := by
        have := pctEnc_le P (s.data.toList.take k)
        rw [List.length_take, size_len] at this; omega
      by_cases h37 : s[k].toNat = 37
      · have HP := Lib.hid (pctB_no (P := P) (.inl h37))
        have e37 : ((s[k].toNat : Int) != 37) = false := by simp; omega
        have e37' : ((s[k].toNat : Int) == 37) = true := by simp; omega
        have hb : s[k].toNat < 256 := s[k].toNat_lt
        clear h37
        go_wp2_with fail
        go_quiet (fail)
        go_wp2_with fail
        have HOq := Lib.hid (HOh.out.drewN nq)
        have HBq := below_drewN' HB nq
        have hq1 : w.heap.size + 1 ≤ (wr.drewN nq).heap.size := hlt0
        generalize wr.drewN nq = wq at HOq HBq hq1
        obtain ⟨q1, hq1'⟩ : ∃ q, s[k].toNat / 16 = q := ⟨_, rfl⟩
        obtain ⟨q2, hq2'⟩ : ∃ q, s[k].toNat % 16 = q := ⟨_, rfl⟩
        have e1 : (s[k].toNat : Int) / 16 = (q1 : Int) := by omega
        have e2 : (s[k].toNat : Int).tmod 16 = (q2 : Int) := by rw [Int.tmod_eq_emod_of_nonneg (by omega)]; omega
        have l1 : q1 < 16 := by omega
        have l2 : q2 < 16 := by omega
        have HX1 := Lib.hid (hexD_at q1 l1)
        have HX2 := Lib.hid (hexD_at q2 l2)
        rw [hq1', hq2'] at HP
        clear hq1' hq2'
        have wA : IntKind.u8.wrap (q1 : Int) = (q1 : Int) := by rw [IntKind.wrap_u8']; omega
        have wB : IntKind.u8.wrap (q2 : Int) = (q2 : Int) := by rw [IntKind.wrap_u8']; omega
        have k1 : (q1 : Int) < 16 := by omega
        have k2 : (q2 : Int) < 16 := by omega
        have z1 : (0 : Int) ≤ q1 := by omega
        have z2 : (0 : Int) ≤ q2 := by omega
        go_region_law (first
          | (refine stepApp5three (c := 37) (d := hexD q1) (e := hexD q2) rfl _ _ rfl HOq.out HBq rfl (congrArg Int.ofNat HX1.out) (congrArg Int.ofNat HX2.out) rfl rfl (by omega) (by omega) (by omega) ?_; intro v' w' hown' HB'))
        all_goals
          go_wp2_with fail
          go_roundg (s.size + 1 - (k + 1))
          case measure => omega
          case rel => exact ⟨k + 1, by omega, rfl, by go_num, by rw [HN.out, HP.out]; exact hown', HB'⟩
      · have e37 : ((s[k].toNat : Int) != 37) = true := by simp; omega
        have HH := Lib.hid (fun w => has_ref P s[k] w)
        have c0 := HA.cell 0 (by decide)
        have c1 := HA.cell 1 (by decide)
        have c2 := HA.cell 2 (by decide)
        have c3 := HA.cell 3 (by decide)
        cases hp : P s[k].toNat with
        | true =>
          have HP := Lib.hid (pctB_yes h37 hp)
          rw [hp] at HH
          clear h37 hp
          go_wp2_with fail
          have b1 : (0 : Int) ≤ k := by omega
          have b2 : (k : Int) < s.size := by omega
          go_still_tail 9, (by kernel_rfl)
          change wpList _ _ _ _ _ wr.drew
          go_wp2_with fail
          refine (HH.out _).mono ?_
          rintro e wx ⟨rfl, HBx⟩
          have HOx := Lib.hid (HOh.out.drew.below HBx)
          have HBx2 := HB.drew.trans (HBx.mono hlt0)
          have hx1 : w.heap.size + 1 ≤ wx.heap.size := by have := HBx.size; simp at this; omega
          go_wp2_with (at_builtin; refine wpApp5one (c := s[k]) rfl _ _ rfl HOx.out HBx2 rfl rfl rfl (by omega) (by omega) (by omega) ?_)
          intro v' w' hown' HB'
          go_wp2_with fail
          go_roundg (s.size + 1 - (k + 1))
          case measure => omega
          case rel => exact ⟨k + 1, by omega, rfl, by go_num, by rw [HN.out, HP.out]; exact hown', HB'⟩
        | false =>
          have HP := Lib.hid (pctB_no (.inr hp))
          rw [hp] at HH
          have hb : s[k].toNat < 256 := s[k].toNat_lt
          clear h37 hp
          go_wp2_with fail
          have b1 : (0 : Int) ≤ k := by omega
          have b2 : (k : Int) < s.size := by omega
          go_still_tail 9, (by kernel_rfl)
          change wpList _ _ _ _ _ wr.drew
          go_wp2_with fail
          refine (HH.out _).mono ?_
          rintro e wq ⟨rfl, HBx⟩
          have HOq := Lib.hid (HOh.out.drew.below HBx)
          have HBq := HB.drew.trans (HBx.mono hlt0)
          have hq1 : w.heap.size + 1 ≤ wq.heap.size := by have := HBx.size; simp at this; omega
          go_wp2_with fail
          obtain ⟨q1, hq1'⟩ : ∃ q, s[k].toNat / 16 = q := ⟨_, rfl⟩
          obtain ⟨q2, hq2'⟩ : ∃ q, s[k].toNat % 16 = q := ⟨_, rfl⟩
          have e1 : (s[k].toNat : Int) / 16 = (q1 : Int) := by omega
          have e2 : (s[k].toNat : Int).tmod 16 = (q2 : Int) := by rw [Int.tmod_eq_emod_of_nonneg (by omega)]; omega
          have l1 : q1 < 16 := by omega
          have l2 : q2 < 16 := by omega
          have HX1 := Lib.hid (hexD_at q1 l1)
          have HX2 := Lib.hid (hexD_at q2 l2)
          rw [hq1', hq2'] at HP
          clear hq1' hq2'
          have wA : IntKind.u8.wrap (q1 : Int) = (q1 : Int) := by rw [IntKind.wrap_u8']; omega
          have wB : IntKind.u8.wrap (q2 : Int) = (q2 : Int) := by rw [IntKind.wrap_u8']; omega
          have k1 : (q1 : Int) < 16 := by omega
          have k2 : (q2 : Int) < 16 := by omega
          have z1 : (0 : Int) ≤ q1 := by omega
          have z2 : (0 : Int) ≤ q2 := by omega
          go_region_law (first
            | (refine stepApp5three (c := 37) (d := hexD q1) (e := hexD q2) rfl _ _ rfl HOq.out HBq rfl (congrArg Int.ofNat HX1.out) (congrArg Int.ofNat HX2.out) rfl rfl (by omega) (by omega) (by omega) ?_; intro v' w' hown' HB'))
          all_goals
            go_wp2_with fail
            go_roundg (s.size + 1 - (k + 1))
            case measure => omega
            case rel => exact ⟨k + 1, by omega, rfl, by go_num, by rw [HN.out, HP.out]; exact hown', HB'⟩
    · have d1 : decide ((k : Int) < (s.size : Int)) = false := by simp; omega
      have HE := Lib.hid (show s.data.toList.take k = s.data.toList from List.take_of_length_le (by rw [size_len]; omega))
      have hcv := HO.back
      have HB2 := after1 HB
      go_wp2_with fail
      go_ret
      exact RetV.mk (by rw [HE.out]; rfl) HB2
end Go.Proofs.YteigjobliflkdaaGreatDoor
/- Walks: waypostref14 (path, pieces). -/
namespace Go.Proofs.YteigjobliflkdaaGreatDoor
open Go.RowKit

theorem path_ref (s : ByteArray) (w : World) (hs : s.size ≤ 60000) :
    Calls Tryz.prog 161 #[.string s] w fun e w' => e = .returned (.bool (s.data.toList.head? == some 47)) ∧ w = w' := by
  by_cases h0 : s.size = 0
  · have := bs_nil h0
    have HF := Lib.hid (show (s.data.toList.head? == some 47) = false by rw [show s.data.toList = [] from List.length_eq_zero_iff.1 (by rw [size_len]; exact h0)]; rfl)
    clear h0
    go_enter Tryz.func161, Tryz.ntmps161
    go_wp2_with (fail)
    go_ret
    exact ⟨ret_bool HF.out.symm, rfl⟩
  have hpos : 0 < s.size := by omega
  have hne := bs_ne hpos
  have hh : s.data.toList.head? = some s[0] := by
    rw [List.head?_eq_getElem?, List.getElem?_eq_getElem (by rw [size_len]; exact hpos)]; rfl
  clear h0
  by_cases h1 : s[0].toNat = 47
  · have HF := Lib.hid (show (s.data.toList.head? == some 47) = true by rw [hh, beq_iff_eq]; exact congrArg some (UInt8.toNat_inj.1 h1))
    have e1 : ((s[0].toNat : Int) == 47) = true := by simp; omega
    clear h1 hh
    go_enter Tryz.func161, Tryz.ntmps161
    go_wp2_with (fail)
    go_ret
    exact ⟨ret_bool HF.out.symm, rfl⟩
  · have HF := Lib.hid (show (s.data.toList.head? == some 47) = false by rw [hh, beq_eq_false_iff_ne]; intro e; injection e with e; rw [e] at h1; exact h1 rfl)
    have e1 : ((s[0].toNat : Int) == 47) = false := by simp; omega
    clear h1 hh
    go_enter Tryz.func161, Tryz.ntmps161
    go_wp2_with (fail)
    go_ret
    exact ⟨ret_bool HF.out.symm, rfl⟩

theorem drop_take_tail (l : List UInt8) (k f : Nat) : (l.take (k + 1)).drop (f + 1) = (l.tail.take k).drop f := by
  cases l with
  | nil => simp
  | cons a l => simp

set_option maxRecDepth 100000 in
set_option maxHeartbeats 800000 in
theorem pieces_ref (s : ByteArray) (w : World) (hs : s.size ≤ 60000) (hp : 0 < s.size) :
    Calls Tryz.prog 162 #[.string s] w (RetStrs w (segs 47 s.data.toList.tail)) := by
  have HL := Lib.hid (show s.data.toList.tail.length = s.size - 1 by rw [List.length_tail, size_len])
  go_enter Tryz.func162, Tryz.ntmps162
  go_wp2_with (fail)
  go_loopw [3, 4, 5] (fun v f i wr => ∃ (k fn : Nat) (D : List (List UInt8)), k ≤ s.size ∧ i = .int .i64 ((k + 1 : Nat) : Int) ∧ f = .int .i64 ((fn + 1 : Nat) : Int) ∧ Hid (SegAt s.data.toList.tail 47 k fn D) ∧ wr.ownsRow w.heap.size 9 1 v D.length (D.map S) ∧ Below w.heap.size w wr) (fun _ _ i _ => s.size + 1 - (intOf i).toNat)
  case atStart => exact ⟨0, 0, [], by omega, rfl, rfl, SegAt.start _ _, World.ownsRow_nil _ _ _ _, Below.refl _ _⟩
  case round =>
    obtain ⟨k, fn, D, hk, rfl, rfl, HG, hown, HB⟩ := hrel
    have hD := HG.out.dle
    rw [HL.out] at hD
    by_cases hend : k = s.size
    · have HE := Lib.hid (HG.out.fin (by rw [HL.out]; omega))
      subst hend
      go_wp2_with (fail)
      go_ret
      exact ⟨_, rfl, by rw [← HE.out]; exact hown, HB⟩
    by_cases hlast : k + 1 = s.size
    · have hfn := HG.out.le (by rw [HL.out]; omega)
      have HN := Lib.hid (by have := HG.out; rw [show k = s.data.toList.tail.length by rw [HL.out]; omega] at this; exact this.last)
      have HX := Lib.hid (show (s.data.toList.take s.size).drop (fn + 1) = (s.data.toList.tail.take s.data.toList.tail.length).drop fn by rw [← hlast, drop_take_tail, HL.out, show s.size - 1 = k by omega])
      have HK := Lib.hid (show s.data.toList.tail.length + 1 = k + 1 by rw [HL.out]; omega)
      have hsz := HB.size
      have hl1 : (((k + 1 : Nat) : Int) == (s.size : Int)) = true := by rw [beq_iff_eq]; omega
      have hl2 : ((k : Int) + 1 == (s.size : Int)) = true := by rw [beq_iff_eq]; omega
      clear hend
      go_wp2_with (at_builtin; refine wpApp9 rfl _ _ rfl hown HB rfl rfl (by omega) (by omega) (by omega) ?_)
      intro v' w' hown' HB'
      rw [S_extract, HX.out, ← List.map_singleton (f := S), ← List.map_append] at hown'
      clear hown HB
      go_wp2_with (fail)
      go_roundw
      case rel => exact ⟨k + 1, k + 1, _, by omega, by go_num, by go_num, by have := HN.out; rw [HK.out] at this; exact this, by simpa using hown', HB'⟩
      case measure => (simp [intOf]; try omega)
    · have hlt : k + 1 < s.size := by omega
      have hfn := HG.out.le (by rw [HL.out]; omega)
      have hsz := HB.size
      have HS := Lib.hid (show s.data.toList.tail[k]?.getD 0 = s[k + 1] by rw [List.getElem?_tail]; exact sgetD s (k + 1) hlt)
      have hl1 : (((k + 1 : Nat) : Int) == (s.size : Int)) = false := by rw [beq_eq_false_iff_ne]; omega
      have hl2 : ((k : Int) + 1 == (s.size : Int)) = false := by rw [beq_eq_false_iff_ne]; omega
      have hkl : k < s.data.toList.tail.length := by rw [HL.out]; omega
      have HX := Lib.hid (drop_take_tail s.data.toList k fn)
      clear hend hlast
      by_cases hc : s[k + 1].toNat = 47
      · have hc' : ((s[k + 1].toNat : Int) == 47) = true := by simp; omega
        have HN := Lib.hid (HG.out.hit hkl (by rw [HS.out]; exact UInt8.toNat_inj.1 hc))
        clear hc
        go_wp2_with (at_builtin; refine wpApp9 rfl _ _ rfl hown HB rfl rfl (by omega) (by omega) (by omega) ?_)
        intro v' w' hown' HB'
        rw [S_extract, HX.out, ← List.map_singleton (f := S), ← List.map_append] at hown'
        clear hown HB
        go_wp2_with (fail)
        go_roundw
        case rel => exact ⟨k + 1, k + 1, _, by omega, by go_num, by go_num, HN.out, by simpa using hown', HB'⟩
        case measure => (simp [intOf]; try omega)
      · have hc' : ((s[k + 1].toNat : Int) == 47) = false := by simp; omega
        have HN := Lib.hid (HG.out.skip hkl (by rw [HS.out]; intro e; rw [e] at hc; exact hc rfl))
        clear hc
        go_wp2_with (fail)
        go_roundw
        case rel => exact ⟨k + 1, fn, D, by omega, by go_num, by go_num, HN.out, hown, HB⟩
        case measure => (simp [intOf]; try omega)
end Go.Proofs.YteigjobliflkdaaGreatDoor
/- Plain: normal paths, piece by piece. No program stands here. -/
namespace Go.Proofs.YteigjobliflkdaaGreatDoor
open Go

/-- The piece number k is fine. -/
def goodAt (L : List (List UInt8)) (k : Nat) : Bool := !dottedB (L[k]?.getD []) && (!((L[k]?.getD []) == []) || decide (k + 1 = L.length))
theorem piecesOK_iff : ∀ L : List (List UInt8), piecesOK L = true ↔ ∀ k, k < L.length → goodAt L k = true
  | [] => by simp [piecesOK]
  | [s] => by
    simp only [piecesOK]
    constructor
    · intro h k hk
      have : k = 0 := by simpa using hk
      subst this
      simp [goodAt, h]
    · intro h
      have := h 0 (by simp)
      simpa [goodAt] using this
  | s :: t :: r => by
    have ih := piecesOK_iff (t :: r)
    simp only [piecesOK, Bool.and_eq_true]
    rw [ih]
    constructor
    · rintro ⟨⟨h1, h2⟩, h3⟩ k hk
      cases k with
      | zero => simp [goodAt, h1]; simpa using h2
      | succ k =>
        have := h3 k (by simpa using hk)
        simpa [goodAt] using this
    · intro h
      refine ⟨⟨?_, ?_⟩, fun k hk => ?_⟩
      · have := h 0 (by simp); simp [goodAt] at this; simpa using this.1
      · have := h 0 (by simp); simp [goodAt] at this; simpa using this.2
      · have := h (k + 1) (by simpa using hk)
        simpa [goodAt] using this
theorem dNormal_eq {p : List UInt8} (h1 : 1 ≤ p.length) (h2 : p.length ≤ 128) (h3 : (p.head? == some 47) = true) : dNormal p = piecesOK (segs 47 p.tail) := by
  unfold dNormal; rw [h3]; simp [h1, h2]
theorem dNormal_bad {p : List UInt8} {k : Nat} (h1 : 1 ≤ p.length) (h2 : p.length ≤ 128) (h3 : (p.head? == some 47) = true) (hk : k < (segs 47 p.tail).length) (hb : goodAt (segs 47 p.tail) k = false) : dNormal p = false := by
  rw [dNormal_eq h1 h2 h3, Bool.eq_false_iff]
  intro h
  have := (piecesOK_iff _).1 h k hk
  rw [hb] at this; cases this
theorem dNormal_good {p : List UInt8} (h1 : 1 ≤ p.length) (h2 : p.length ≤ 128) (h3 : (p.head? == some 47) = true) (h : ∀ k, k < (segs 47 p.tail).length → goodAt (segs 47 p.tail) k = true) : dNormal p = true := by
  rw [dNormal_eq h1 h2 h3, piecesOK_iff]; exact h
/-- Every piece is of one of four kinds. -/
theorem piece_kinds (x : List UInt8) : x = [46] ∨ x = [46, 46] ∨ x = [] ∨ (x ≠ [46] ∧ x ≠ [46, 46] ∧ x ≠ []) := by
  by_cases h1 : x = [46]
  · exact .inl h1
  · by_cases h2 : x = [46, 46]
    · exact .inr (.inl h2)
    · by_cases h3 : x = []
      · exact .inr (.inr (.inl h3))
      · exact .inr (.inr (.inr ⟨h1, h2, h3⟩))
end Go.Proofs.YteigjobliflkdaaGreatDoor
/- Walk: waypostref14.Normal. -/
namespace Go.Proofs.YteigjobliflkdaaGreatDoor
open Go.RowKit

theorem path_refB {s : ByteArray} {b : Bool} (h : (s.data.toList.head? == some 47) = b) (hs : s.size ≤ 60000) (w : World) :
    Calls Tryz.prog 161 #[.string s] w fun e w' => e = .returned (.bool b) ∧ w = w' := by
  have := path_ref s w hs; rwa [h] at this
/-- A row of texts whose cells are known, in a block that is there. -/
def TextsIn (w : World) (g : Nat) (L : List (List UInt8)) : Prop := g < w.heap.size ∧ ∀ j, j < L.length → w.cell? ⟨g, j, none⟩ = some (.string ⟨(L[j]?.getD []).toArray⟩)
theorem TextsIn.of {w : World} {B g cap : Nat} {L : List (List UInt8)} (h : w.ownsRow B 9 1 (.slice (some ⟨g, 0, none⟩) L.length cap) L.length (L.map S)) : TextsIn w g L := by
  refine ⟨?_, fun j hj => ?_⟩
  · rcases h.2 with ⟨h1, _⟩ | ⟨g', cap', cur, hv, _, hg, _⟩
    · cases h1
    · injection hv with h1 _ _
      injection h1 with h1
      injection h1 with h1 _ _
      subst h1
      exact (Array.getElem?_eq_some_iff.1 hg).1
  · have := World.ownsRow.cells h rfl j (S (L[j]?.getD [])) (by simp [List.getElem?_eq_getElem hj])
    have e : (⟨g, 0, none⟩ : Addr).add j = ⟨g, j, none⟩ := by unfold Addr.add; split <;> simp_all
    rwa [e] at this
theorem TextsIn.next {w w' : World} {g : Nat} {L : List (List UInt8)} (h : TextsIn w g L) (hB : Below w.heap.size w w') : TextsIn w' g L :=
  ⟨Nat.lt_of_lt_of_le h.1 hB.size, fun j hj => (hB.cell (p := ⟨g, j, none⟩) h.1).trans (h.2 j hj)⟩
theorem bytes_ne {x : ByteArray} {l : List UInt8} (h : x.data.toList ≠ l) : (x.toList == l) = false := by
  rw [beq_eq_false_iff_ne, Lib.toList_data]; exact h

set_option maxRecDepth 100000 in
set_option maxHeartbeats 1600000 in
theorem normal14_ref (s : ByteArray) (w : World) (hs : s.size ≤ 60000) :
    Calls Tryz.prog 122 #[.string s] w (RetV (.bool (dNormal s.data.toList)) w) := by
  by_cases h1 : (s.data.toList.head? == some 47) = true
  · have P := Lib.hid (path_refB h1 hs)
    have hpos : 0 < s.size := by
      rcases Nat.eq_zero_or_pos s.size with h | h
      · rw [show s.data.toList = [] from List.length_eq_zero_iff.1 (by rw [size_len]; exact h)] at h1; cases h1
      · exact h
    by_cases h2 : 128 < s.size
    · have HF := Lib.hid (show dNormal s.data.toList = false by unfold dNormal; rw [show decide (s.data.toList.length ≤ 128) = false by simp; omega]; simp)
      have d1 : decide ((128 : Int) < (s.size : Int)) = true := by simp; omega
      have i1 : (128 : Int) < (s.size : Int) := by omega
      clear h1
      go_enter Tryz.func122, Tryz.ntmps122
      go_wp2_with fail
      refine (P.out _).mono ?_
      rintro e w' ⟨rfl, rfl⟩
      go_wp2_with fail
      go_ret
      exact RetV.mk (by rw [HF.out]; rfl) (Below.refl _ _)
    · have d1 : decide ((128 : Int) < (s.size : Int)) = false := by simp; omega
      have i1 : (s.size : Int) ≤ 128 := by omega
      have H1 := Lib.hid h1
      have hlen : (segs 47 s.data.toList.tail).length ≤ s.size := by
        have := segs_le 47 s.data.toList.tail
        rw [List.length_tail, size_len] at this; omega
      have PC := Lib.hid (pieces_ref s · hs hpos)
      have HN := Lib.hid (fun (k : Nat) hk hb => dNormal_bad (p := s.data.toList) (k := k) (by rw [size_len]; exact hpos) (by rw [size_len]; omega) h1 hk hb)
      have HG := Lib.hid (dNormal_good (p := s.data.toList) (by rw [size_len]; exact hpos) (by rw [size_len]; omega) h1)
      have hne := segs_ne 47 s.data.toList.tail
      generalize segs 47 s.data.toList.tail = L at hlen PC HN HG hne
      have HNE := Lib.hid hne
      clear h1 hne
      go_enter Tryz.func122, Tryz.ntmps122
      go_wp2_with fail
      refine (P.out _).mono ?_
      rintro e w' ⟨rfl, rfl⟩
      go_wp2_with fail
      refine (PC.out _).mono fun e w1 hr => ?_
      obtain ⟨g, cap, rfl, hown, HB⟩ := hr.one HNE.out
      have HT := Lib.hid (TextsIn.of hown)
      clear hr hown
      go_wp2_with fail
      go_loop [4] (fun i => ∃ k : Nat, k ≤ L.length ∧ i = .int .i64 k ∧ Hid (∀ j, j < k → goodAt L j = true)) (fun i => L.length - (intOf i).toNat)
      case atStart => exact ⟨0, Nat.zero_le _, rfl, fun j h => by omega⟩
      case round =>
        obtain ⟨k, hk, rfl, HK⟩ := hrel
        by_cases hlt : k < L.length
        · have d2 : decide ((k : Int) < (L.length : Int)) = true := by simp; omega
          have hc := HT.out.2 k hlt
          have HKK := Lib.hid (show goodAt L k = (!dottedB (L[k]?.getD []) && (!((L[k]?.getD []) == []) || decide (k + 1 = L.length))) from rfl)
          generalize L[k]?.getD [] = x at hc HKK
          rcases piece_kinds x with rfl | rfl | rfl | ⟨n1, n2, n3⟩
          · have HF := Lib.hid (HN.out k hlt (by rw [HKK.out]; rfl))
            go_wp2_with fail
            go_ret
            exact RetV.mk (by rw [HF.out]; rfl) HB
          · have HF := Lib.hid (HN.out k hlt (by rw [HKK.out]; rfl))
            go_wp2_with fail
            go_ret
            exact RetV.mk (by rw [HF.out]; rfl) HB
          · by_cases hl : k + 1 = L.length
            · have HX := Lib.hid (show ∀ j, j < k + 1 → goodAt L j = true from fun j hj => by
                rcases Nat.lt_or_ge j k with h | h
                · exact HK.out j h
                · obtain rfl : j = k := by omega
                  rw [HKK.out, decide_eq_true hl]; rfl)
              have d3 : ((k : Int) != (L.length : Int) - 1) = false := by simp; omega
              go_wp2_with fail
              go_round
              case rel => exact ⟨k + 1, by omega, by go_num, HX⟩
              case measure => simp [intOf]; omega
            · have HF := Lib.hid (HN.out k hlt (by rw [HKK.out, decide_eq_false hl]; rfl))
              have d3 : ((k : Int) != (L.length : Int) - 1) = true := by simp; omega
              clear hl
              go_wp2_with fail
              go_ret
              exact RetV.mk (by rw [HF.out]; rfl) HB
          · have HX := Lib.hid (show ∀ j, j < k + 1 → goodAt L j = true from fun j hj => by
              rcases Nat.lt_or_ge j k with h | h
              · exact HK.out j h
              · obtain rfl : j = k := by omega
                rw [HKK.out, dottedB, beq_eq_false_iff_ne.2 n1, beq_eq_false_iff_ne.2 n2, beq_eq_false_iff_ne.2 n3]; rfl)
            obtain ⟨xb, rfl⟩ : ∃ xb : ByteArray, x = xb.data.toList := ⟨⟨x.toArray⟩, rfl⟩
            rw [bs_mk] at hc
            have f1 := bytes_ne n1
            have f2 := bytes_ne n2
            have f3 := bytes_ne n3
            have f4 : xb.toList.isEmpty = false := by rw [Lib.toList_data]; simpa using n3
            clear n1 n2 n3
            go_wp2_with fail
            go_round
            case rel => exact ⟨k + 1, by omega, by go_num, HX⟩
            case measure => simp [intOf]; omega
        · have d2 : decide ((k : Int) < (L.length : Int)) = false := by simp; omega
          have HF := Lib.hid (HG.out (fun j hj => HK.out j (by omega)))
          go_wp2_with fail
          go_ret
          exact RetV.mk (by rw [HF.out]; rfl) HB
  · have h1 : (s.data.toList.head? == some 47) = false := by simpa using h1
    have P := Lib.hid (path_refB h1 hs)
    have HF := Lib.hid (show dNormal s.data.toList = false by unfold dNormal; rw [h1]; simp)
    clear h1
    go_enter Tryz.func122, Tryz.ntmps122
    go_wp2_with fail
    refine (P.out _).mono ?_
    rintro e w' ⟨rfl, rfl⟩
    go_wp2_with fail
    go_ret
    exact RetV.mk (by rw [HF.out]; rfl) (Below.refl _ _)
end Go.Proofs.YteigjobliflkdaaGreatDoor
/- Walks: waypostref15's Under, Join, order. -/
namespace Go.Proofs.YteigjobliflkdaaGreatDoor
open Go.RowKit

theorem suf_false_len {A B : List (List UInt8)} (h : A.length < B.length) : B.isSuffixOf A = false := by
  rw [Bool.eq_false_iff]; intro e
  have := (List.isSuffixOf_iff_suffix.1 e).length_le; omega
theorem suf_true {A B : List (List UInt8)} {D : Nat} (hl : A.length = D + B.length) (h : ∀ j, j < B.length → A[D + j]?.getD [] = B[j]?.getD []) : B.isSuffixOf A = true := by
  rw [List.isSuffixOf_iff_suffix, List.suffix_iff_eq_drop]
  apply List.ext_getElem?
  intro j
  rw [List.getElem?_drop, show A.length - B.length = D by omega]
  by_cases hj : j < B.length
  · have := h j hj
    rw [List.getElem?_eq_getElem hj, List.getElem?_eq_getElem (by omega)] at this ⊢
    simp at this; rw [this]
  · rw [List.getElem?_eq_none (by omega), List.getElem?_eq_none (by omega)]
theorem suf_false {A B : List (List UInt8)} {D k : Nat} (hl : A.length = D + B.length) (_hk : k < B.length) (h : A[D + k]?.getD [] ≠ B[k]?.getD []) : B.isSuffixOf A = false := by
  rw [Bool.eq_false_iff]; intro e
  have e' := List.suffix_iff_eq_drop.1 (List.isSuffixOf_iff_suffix.1 e)
  apply h
  have : B[k]? = (A.drop (A.length - B.length))[k]? := by rw [← e']
  rw [this, List.getElem?_drop, show A.length - B.length = D by omega]

/-- Labels' contract, at a function's number. -/
def LabelsC (f : Nat) : Prop := ∀ (s : ByteArray) (w : World), s.size ≤ 60000 → Calls Tryz.prog f #[.string s] w (RetLabels (hostLabels s.data.toList) w)
theorem LabelsC.ok {f : Nat} (H : LabelsC f) {s : ByteArray} {L : List (List UInt8)} (h : hostLabels s.data.toList = .ok L) (hs : s.size ≤ 60000) (w : World) :
    Calls Tryz.prog f #[.string s] w fun e w' => ∃ g cap, e = .returned (.tuple #[.slice (some ⟨g, 0, none⟩) L.length cap, .int .i64 0]) ∧ w'.ownsRow w.heap.size 9 1 (.slice (some ⟨g, 0, none⟩) L.length cap) L.length (L.map S) ∧ Below w.heap.size w w' := by
  have := H s w hs; rw [h] at this; exact this
theorem LabelsC.err {f : Nat} (H : LabelsC f) {s : ByteArray} {x : Int} (h : hostLabels s.data.toList = .error x) (hs : s.size ≤ 60000) (w : World) :
    Calls Tryz.prog f #[.string s] w fun e w' => e = .returned (.tuple #[.slice none 0 0, .int .i64 x]) ∧ Below w.heap.size w w' := by
  have := H s w hs; rw [h] at this; exact this
theorem labels_refC : LabelsC 33 := labels_refL
theorem hostLabels_ok {l n : List UInt8} {p : Int} (h : hostSplit l = .ok (n, p)) : hostLabels l = .ok (segs 46 n) := by unfold hostLabels; rw [h]
theorem hostLabels_err {l : List UInt8} {e : Int} (h : hostSplit l = .error e) : hostLabels l = .error e := by unfold hostLabels; rw [h]

set_option maxRecDepth 100000 in
set_option maxHeartbeats 800000 in
theorem under_ref (s t : ByteArray) (w : World) (hs : s.size ≤ 60000) (ht : t.size ≤ 60000) :
    Calls Tryz.prog 23 #[.string s, .string t] w (RetV (vBool (hostUnder s.data.toList t.data.toList)) w) := by
  cases hh : hostSplit s.data.toList with
  | error x =>
    have hx := (err_ne hh).1
    have HE := Lib.hid (show hostUnder s.data.toList t.data.toList = (false, x) by unfold hostUnder; rw [hh])
    have HH := Lib.hid (hostLabels_err hh)
    clear hh
    go_enter Tryz.func23, Tryz.ntmps23
    go_wp2_with (go_at_call 33; refine (labels_refC.err HH.out hs _).mono ?_; rintro e w1 ⟨rfl, HB⟩)
    go_ret2
    exact RetV.of (f := vBool) _ HE.out rfl HB
  | ok r =>
    obtain ⟨n, p⟩ := r
    have HH := Lib.hid (hostLabels_ok hh)
    have hn : n.length ≤ 64 := (hostSplit_ok hh).2.2.1
    cases hg : hostSplit t.data.toList with
    | error x =>
      have hx := (err_ne hg).1
      have HE := Lib.hid (show hostUnder s.data.toList t.data.toList = (false, x) by unfold hostUnder; rw [hh, hg])
      have HG := Lib.hid (hostLabels_err hg)
      clear hh hg
      go_enter Tryz.func23, Tryz.ntmps23
      go_wp2_with fail
      refine (labels_refC.ok HH.out hs _).mono ?_
      rintro e w1 ⟨g, cap, rfl, hown, HB⟩
      go_wp2_with fail
      refine (labels_refC.err HG.out ht _).mono ?_
      rintro e w2 ⟨rfl, HB2⟩
      go_wp2_with fail
      go_ret2
      exact RetV.of (f := vBool) _ HE.out rfl (HB.trans (HB2.mono HB.size))
    | ok r =>
      obtain ⟨m, q⟩ := r
      have HE := Lib.hid (show hostUnder s.data.toList t.data.toList = ((segs 46 m).isSuffixOf (segs 46 n), 0) by unfold hostUnder; rw [hh, hg])
      have HG := Lib.hid (hostLabels_ok hg)
      have hm : m.length ≤ 64 := (hostSplit_ok hg).2.2.1
      clear hh hg
      have hA := segs_le 46 n
      have hB := segs_le 46 m
      generalize segs 46 n = A at HH HE hA
      generalize segs 46 m = B at HG HE hB
      by_cases hlen : A.length < B.length
      · have HS := Lib.hid (suf_false_len hlen)
        have hd : decide ((A.length : Int) < (B.length : Int)) = true := by simp; omega
        go_enter Tryz.func23, Tryz.ntmps23
        go_wp2_with fail
        refine (labels_refC.ok HH.out hs _).mono ?_
        rintro e w1 ⟨g, cap, rfl, hown, HB⟩
        go_wp2_with fail
        refine (labels_refC.ok HG.out ht _).mono ?_
        rintro e w2 ⟨g2, cap2, rfl, hown2, HB2⟩
        go_wp2_with fail
        go_ret2
        exact RetV.of (f := vBool) _ HE.out (by rw [HS.out]; rfl) (HB.trans (HB2.mono HB.size))
      obtain ⟨D, hD⟩ : ∃ D, A.length = D + B.length := ⟨A.length - B.length, by omega⟩
      have hd : decide ((A.length : Int) < (B.length : Int)) = false := by simp; omega
      have HD := Lib.hid hD
      have hD1 : A.length ≤ D + B.length := by omega
      have hD2 : D + B.length ≤ A.length := by omega
      clear hD
      go_enter Tryz.func23, Tryz.ntmps23
      go_wp2_with fail
      refine (labels_refC.ok HH.out hs _).mono ?_
      rintro e w1 ⟨g, cap, rfl, hown, HB⟩
      go_wp2_with fail
      refine (labels_refC.ok HG.out ht _).mono ?_
      rintro e w2 ⟨g2, cap2, rfl, hown2, HB2⟩
      have hown1 := own_below hown HB2
      go_wp2_with fail
      go_loopw [9] (fun i wr => ∃ k d : Nat, k ≤ B.length ∧ i = .int .i64 k ∧ wr = w2.drewN d ∧ Hid (∀ j, j < k → A[D + j]?.getD [] = B[j]?.getD [])) (fun i _ => B.length - (intOf i).toNat)
      case atStart => exact ⟨0, 0, Nat.zero_le _, rfl, rfl, fun j hj => by omega⟩
      case round =>
        obtain ⟨k, d, hk, rfl, rfl, HA⟩ := hrel
        by_cases hlt : k < B.length
        · have ca := own_cell hown1 (D + k) (by omega) rfl
          have cb := own_cell hown2 k hlt rfl
          have e1 : IntKind.i64.wrap ((A.length : Int) - B.length) = D := by rw [HD.out, IntKind.wrap_i64]; omega
          have e2 : IntKind.i64.wrap ((D : Int) + k) = (D : Int) + k := by rw [IntKind.wrap_i64]; omega
          go_wp2_with fail
          go_quiet (fail)
          go_wp2_with fail
          · have h : (!A[D + k]?.getD [] == B[k]) = true := by assumption
            have hf := suf_false HD.out hlt (by rw [List.getElem?_eq_getElem hlt]; simpa using h)
            go_ret2
            exact RetV.of (f := vBool) _ HE.out (by rw [hf]; rfl) (below_drewN (below_drewN (HB.trans (HB2.mono HB.size)) _) _)
          · have h : (!A[D + k]?.getD [] == B[k]) = false := by assumption
            have HN := Lib.hid (show ∀ j, j < k + 1 → A[D + j]?.getD [] = B[j]?.getD [] by
              intro j hj
              by_cases e : j = k
              · subst e; rw [List.getElem?_eq_getElem hlt]; simpa using h
              · exact HA.out j (by omega))
            exact ⟨⟨k + 1, d + nq, by omega, by go_num, rfl, HN⟩, by (simp [intOf]; try omega)⟩
        · have hkB : k = B.length := by omega
          have hf := suf_true HD.out (by have := HA.out; rw [hkB] at this; exact this)
          have HF := Lib.hid hf
          clear hf hkB
          go_wp2_with fail
          go_ret2
          exact RetV.of (f := vBool) _ HE.out (by rw [HF.out]; rfl) (below_drewN (HB.trans (HB2.mono HB.size)) _)

set_option maxRecDepth 100000 in
set_option maxHeartbeats 800000 in
theorem join_ref (s : ByteArray) (p : Int) (w : World) (hs : s.size ≤ 60000) :
    Calls Tryz.prog 35 #[.string s, .int .i64 p] w (RetV (vStr (hostJoin s.data.toList p)) w) := by
  cases hh : hostSplit s.data.toList with
  | error x =>
    have hx := (err_ne hh).1
    have HE := Lib.hid (show hostJoin s.data.toList p = .error x by unfold hostJoin; rw [hh])
    have HH := Lib.hid hh
    clear hh
    go_enter Tryz.func35, Tryz.ntmps35
    go_wp2_with (go_at_call 27; refine (split_refC.err HH.out hs _).mono ?_; rintro e w1 ⟨rfl, HB⟩)
    go_ret2
    exact RetV.of (f := vStr) _ HE.out rfl HB
  | ok r =>
    obtain ⟨n, p0⟩ := r
    have hn : n.length ≤ 64 := (hostSplit_ok hh).2.2.1
    have HJ := Lib.hid (show hostJoin s.data.toList p = if n.length ≠ s.data.toList.length then .error 3 else if p < 1 ∨ 65535 < p then .error 2 else hostWritten n p by unfold hostJoin; rw [hh])
    have HH := Lib.hid hh
    clear hh
    by_cases hl : n.length ≠ s.size
    · have hl' : ((n.length : Int) != (s.size : Int)) = true := by rw [bne_iff_ne]; omega
      have HE := Lib.hid (show hostJoin s.data.toList p = .error 3 by rw [HJ.out, if_pos (by rw [size_len]; exact hl)])
      clear hl
      go_enter Tryz.func35, Tryz.ntmps35
      go_wp2_with (go_at_call 27; refine (split_refC.ok HH.out hs _).mono ?_; rintro e w1 ⟨rfl, HB⟩)
      go_ret2
      exact RetV.of (f := vStr) _ HE.out rfl HB
    have hl' : ((n.length : Int) != (s.size : Int)) = false := by simp; omega
    have HJ2 := Lib.hid (show hostJoin s.data.toList p = if p < 1 ∨ 65535 < p then .error 2 else hostWritten n p by rw [HJ.out, if_neg (by rw [size_len]; exact hl)])
    clear hl HJ
    by_cases hp1 : p < 1
    · have HE := Lib.hid (show hostJoin s.data.toList p = .error 2 by rw [HJ2.out, if_pos (Or.inl hp1)])
      have hp1' : decide (p < 1) = true := by simp; omega
      go_enter Tryz.func35, Tryz.ntmps35
      go_wp2_with (go_at_call 27; refine (split_refC.ok HH.out hs _).mono ?_; rintro e w1 ⟨rfl, HB⟩)
      go_ret2
      exact RetV.of (f := vStr) _ HE.out rfl HB
    have hp1' : decide (p < 1) = false := by simp; omega
    by_cases hp2 : 65535 < p
    · have HE := Lib.hid (show hostJoin s.data.toList p = .error 2 by rw [HJ2.out, if_pos (Or.inr hp2)])
      have hp2' : decide (65535 < p) = true := by simp; omega
      go_enter Tryz.func35, Tryz.ntmps35
      go_wp2_with (go_at_call 27; refine (split_refC.ok HH.out hs _).mono ?_; rintro e w1 ⟨rfl, HB⟩)
      go_ret2
      exact RetV.of (f := vStr) _ HE.out rfl HB
    have hp2' : decide (65535 < p) = false := by simp; omega
    rw [HJ2.out, if_neg (by omega)]
    cases hw : hostWritten n p with
    | error x =>
      have HW := Lib.hid hw
      clear hw
      go_enter Tryz.func35, Tryz.ntmps35
      go_wp2_with (first | (go_at_call 27; refine (split_refC.ok HH.out hs _).mono ?_; rintro e w1 ⟨rfl, HB⟩) | (go_at_call 99; refine (strErr (written_ref' _ (by omega) (by omega) (by omega)) HW.out).mono ?_; rintro e w2 ⟨rfl, HB2⟩))
      go_ret2
      exact RetV.mk rfl (HB.trans (HB2.mono HB.size))
    | ok m =>
      have HW := Lib.hid hw
      clear hw
      go_enter Tryz.func35, Tryz.ntmps35
      go_wp2_with (first | (go_at_call 27; refine (split_refC.ok HH.out hs _).mono ?_; rintro e w1 ⟨rfl, HB⟩) | (go_at_call 99; refine (strOk (written_ref' _ (by omega) (by omega) (by omega)) HW.out).mono ?_; rintro e w2 ⟨rfl, HB2⟩))
      go_ret2
      exact RetV.mk rfl (HB.trans (HB2.mono HB.size))

theorem order_ref (s t : ByteArray) (w : World) :
    Calls Tryz.prog 89 #[.string s, .string t] w fun e w' => e = .returned (.int .i64 (cmpB s.data.toList t.data.toList)) ∧ w = w' := by
  rw [← Lib.toList_data, ← Lib.toList_data]
  by_cases h1 : Op.bytesLess s.toList t.toList = true
  · have HE := Lib.hid (show cmpB s.toList t.toList = -1 by unfold cmpB; rw [if_pos h1])
    go_enter Tryz.func89, Tryz.ntmps89
    go_wp2_with fail
    go_ret
    exact ⟨ret_int HE.out.symm, rfl⟩
  have h1' : Op.bytesLess s.toList t.toList = false := by simpa using h1
  by_cases h2 : (s.toList == t.toList) = true
  · have HE := Lib.hid (show cmpB s.toList t.toList = 0 by unfold cmpB; rw [if_neg h1, if_pos h2])
    clear h1
    go_enter Tryz.func89, Tryz.ntmps89
    go_wp2_with fail
    go_ret
    exact ⟨ret_int HE.out.symm, rfl⟩
  · have h2' : (s.toList == t.toList) = false := by simpa using h2
    have HE := Lib.hid (show cmpB s.toList t.toList = 1 by unfold cmpB; rw [if_neg h1, if_neg h2])
    clear h1 h2
    go_enter Tryz.func89, Tryz.ntmps89
    go_wp2_with fail
    go_ret
    exact ⟨ret_int HE.out.symm, rfl⟩
end Go.Proofs.YteigjobliflkdaaGreatDoor
/- Walk: waypostref17.Build. -/
namespace Go.Proofs.YteigjobliflkdaaGreatDoor
open Go.RowKit

theorem query_refB {s : ByteArray} {b : Bool} {e : Int} (h : locQuery s.data.toList = (b, e)) (hs : s.size ≤ 60000) (w : World) :
    Calls Tryz.prog 64 #[.string s] w fun e' w' => e' = .returned (.tuple #[.bool b, .int .i64 e]) ∧ w = w' := by
  have := query_ref s w hs; rw [h] at this; exact this
theorem is_refB {s : ByteArray} {b : Bool} (h : hostIs s.data.toList = b) (hs : s.size ≤ 60000) (w : World) :
    Calls Tryz.prog 31 #[.string s] w fun e w' => e = .returned (.bool b) ∧ Below w.heap.size w w' := by
  have := is_ref s w hs; rw [h] at this; exact this
theorem normal14_refB {s : ByteArray} {b : Bool} (h : dNormal s.data.toList = b) (hs : s.size ≤ 60000) (w : World) :
    Calls Tryz.prog 122 #[.string s] w fun e w' => e = .returned (.bool b) ∧ Below w.heap.size w w' := by
  have := normal14_ref s w hs; rw [h] at this; exact this
theorem stay_refB (w : World) : Calls Tryz.prog 60 #[] w fun e w' => e = .returned (setV stayN) ∧ Below w.heap.size w w' := stay_ref w
theorem encode_refB {s : ByteArray} (hs : s.size ≤ 30000) (w : World) : ∃ x : ByteArray, x.data.toList = pctEnc stayN s.data.toList ∧
    Calls Tryz.prog 123 #[.string s, setV stayN] w fun e w' => e = .returned (.string x) ∧ Below w.heap.size w w' := ⟨⟨(pctEnc stayN s.data.toList).toArray⟩, rfl, encode_ref stayN s w hs⟩
theorem placeErr_range (p q : List UInt8) : placeErr p q = 0 ∨ placeErr p q = 3 ∨ placeErr p q = 4 ∨ placeErr p q = 18 := by
  unfold placeErr; repeat' split
  all_goals simp
theorem locQuery_cases (q : List UInt8) : (128 < q.length ∧ locQuery q = (false, 4)) ∨ (q.length ≤ 128 ∧ qryB q = false ∧ locQuery q = (false, 0)) ∨ (q.length ≤ 128 ∧ qryB q = true ∧ locQuery q = (true, 0)) := by
  unfold locQuery
  by_cases h : 128 < q.length
  · exact .inl ⟨h, if_pos h⟩
  · rw [if_neg h]
    cases hq : qryB q
    · exact .inr (.inl ⟨by omega, rfl, rfl⟩)
    · exact .inr (.inr ⟨by omega, rfl, rfl⟩)

set_option maxRecDepth 100000 in
set_option maxHeartbeats 4000000 in
theorem build_ref (h p q : ByteArray) (w : World) (hh : h.size ≤ 60000) (hp : p.size ≤ 60000) (hq : q.size ≤ 60000) :
    Calls Tryz.prog 62 #[.string h, .string p, .string q] w (RetV (vStr (locBuild h.data.toList p.data.toList q.data.toList)) w) := by
  obtain ⟨lb, le, HQ0⟩ : ∃ b e, locQuery q.data.toList = (b, e) := ⟨_, _, rfl⟩
  have HQ := Lib.hid (query_refB HQ0 hq)
  have HQ0 := Lib.hid HQ0
  cases hi : hostIs h.data.toList with
  | false =>
    have HF := Lib.hid (show locBuild h.data.toList p.data.toList q.data.toList = .error 11 by unfold locBuild; rw [if_pos hi])
    have HI := Lib.hid (is_refB hi hh)
    clear hi
    go_enter Tryz.func62, Tryz.ntmps62
    go_wp2_with fail
    refine (HQ.out _).mono ?_
    rintro e w' ⟨rfl, rfl⟩
    go_wp2_with fail
    refine (HI.out _).mono ?_
    rintro e w1 ⟨rfl, HB1⟩
    go_wp2_with fail
    go_ret2
    exact RetV.mk (by rw [HF.out]; rfl) HB1
  | true =>
    have HI := Lib.hid (is_refB hi hh)
    have HL := Lib.hid (show locBuild h.data.toList p.data.toList q.data.toList = if placeErr p.data.toList q.data.toList ≠ 0 then .error (placeErr p.data.toList q.data.toList) else .ok (httpL ++ h.data.toList ++ locText p.data.toList q.data.toList) by unfold locBuild; rw [if_neg (by rw [hi]; decide)])
    clear hi
    by_cases h1 : 128 < p.size
    · have HF := Lib.hid (show placeErr p.data.toList q.data.toList = 4 by unfold placeErr; rw [if_pos (by rw [size_len]; exact h1)])
      have d1 : decide ((128 : Int) < (p.size : Int)) = true := by simp; omega
      have i1 : (128 : Int) < (p.size : Int) := by omega
      go_enter Tryz.func62, Tryz.ntmps62
      go_wp2_with fail
      refine (HQ.out _).mono ?_
      rintro e w' ⟨rfl, rfl⟩
      go_wp2_with fail
      refine (HI.out _).mono ?_
      rintro e w1 ⟨rfl, HB1⟩
      go_wp2_with fail
      go_ret2
      exact RetV.mk (by rw [HL.out, HF.out]; rfl) HB1
    have d1 : decide ((128 : Int) < (p.size : Int)) = false := by simp; omega
    have i1 : (p.size : Int) ≤ 128 := by omega
    have HP1 := Lib.hid (show ¬ 128 < p.data.toList.length by rw [size_len]; exact h1)
    cases hn : dNormal p.data.toList with
    | false =>
      have HF := Lib.hid (show placeErr p.data.toList q.data.toList = 18 by unfold placeErr; rw [if_neg HP1.out, if_pos hn])
      have HN := Lib.hid (normal14_refB hn hp)
      clear hn
      go_enter Tryz.func62, Tryz.ntmps62
      go_wp2_with fail
      refine (HQ.out _).mono ?_
      rintro e w' ⟨rfl, rfl⟩
      go_wp2_with fail
      refine (HI.out _).mono ?_
      rintro e w1 ⟨rfl, HB1⟩
      go_wp2_with fail
      refine (HN.out _).mono ?_
      rintro e w2 ⟨rfl, HB2⟩
      go_wp2_with fail
      go_ret2
      exact RetV.mk (by rw [HL.out, HF.out]; rfl) (below2 HB1 HB2)
    | true =>
      have HN := Lib.hid (normal14_refB hn hp)
      have HN1 := Lib.hid (show ¬ dNormal p.data.toList = false by rw [hn]; decide)
      clear hn
      rcases locQuery_cases q.data.toList with ⟨q1, q2⟩ | ⟨q1, q2, q3⟩ | ⟨q1, q2, q3⟩
      · have HF := Lib.hid (show placeErr p.data.toList q.data.toList = 4 by unfold placeErr; rw [if_neg HP1.out, if_neg HN1.out, if_pos q1])
        have e := HQ0.out
        rw [q2] at e
        cases e
        clear q1 q2
        go_enter Tryz.func62, Tryz.ntmps62
        go_wp2_with fail
        refine (HQ.out _).mono ?_
        rintro e w' ⟨rfl, rfl⟩
        go_wp2_with fail
        refine (HI.out _).mono ?_
        rintro e w1 ⟨rfl, HB1⟩
        go_wp2_with fail
        refine (HN.out _).mono ?_
        rintro e w2 ⟨rfl, HB2⟩
        go_wp2_with fail
        go_ret2
        exact RetV.mk (by rw [HL.out, HF.out]; rfl) (below2 HB1 HB2)
      · have HF := Lib.hid (show placeErr p.data.toList q.data.toList = 3 by unfold placeErr; rw [if_neg HP1.out, if_neg HN1.out, if_neg (by omega), if_pos q2])
        have e := HQ0.out
        rw [q3] at e
        cases e
        clear q1 q2 q3
        go_enter Tryz.func62, Tryz.ntmps62
        go_wp2_with fail
        refine (HQ.out _).mono ?_
        rintro e w' ⟨rfl, rfl⟩
        go_wp2_with fail
        refine (HI.out _).mono ?_
        rintro e w1 ⟨rfl, HB1⟩
        go_wp2_with fail
        refine (HN.out _).mono ?_
        rintro e w2 ⟨rfl, HB2⟩
        go_wp2_with fail
        go_ret2
        exact RetV.mk (by rw [HL.out, HF.out]; rfl) (below2 HB1 HB2)
      · have HF := Lib.hid (show placeErr p.data.toList q.data.toList = 0 by unfold placeErr; rw [if_neg HP1.out, if_neg HN1.out, if_neg (by omega), if_neg (by rw [q2]; decide)])
        have e := HQ0.out
        rw [q3] at e
        cases e
        rw [size_len] at q1
        clear q2 q3
        obtain ⟨x, hx0, _⟩ := encode_refB (s := p) (show p.size ≤ 30000 by omega) w
        have hxs : x.size ≤ 400 := by have := pctEnc_le stayN p.data.toList; rw [← size_len, hx0]; rw [size_len] at this; omega
        have HX := Lib.hid (fun w => (encode_ref stayN p w (show p.size ≤ 30000 by omega)))
        rw [show S (pctEnc stayN p.data.toList) = .string x by rw [← hx0]; exact (S_of x).symm] at HX
        have HXE := Lib.hid hx0
        clear hx0
        have HR := Lib.hid (fun t : ByteArray => fun (ht : t.data.toList = httpL ++ h.data.toList ++ locText p.data.toList q.data.toList) => show Value.tuple #[.string t, .int .i64 0] = vStr (locBuild h.data.toList p.data.toList q.data.toList) by
          rw [HL.out, HF.out, if_neg (by decide), ← ht]
          show _ = Value.tuple #[.string ⟨t.data.toList.toArray⟩, .int .i64 0]
          rw [bs_mk])
        by_cases hq0 : q.size = 0
        · have e1 := bs_nil hq0
          have HT := Lib.hid (show q.data.toList = [] from List.length_eq_zero_iff.1 (by rw [size_len]; exact hq0))
          clear hq0
          go_enter Tryz.func62, Tryz.ntmps62
          go_wp2_with fail
          refine (HQ.out _).mono ?_
          rintro e w' ⟨rfl, rfl⟩
          go_wp2_with fail
          refine (HI.out _).mono ?_
          rintro e w1 ⟨rfl, HB1⟩
          go_wp2_with fail
          refine (HN.out _).mono ?_
          rintro e w2 ⟨rfl, HB2⟩
          go_wp2_with fail
          refine (stay_refB _).mono ?_
          rintro e w3 ⟨rfl, HB3⟩
          go_wp2_with fail
          refine (HX.out _).mono ?_
          rintro e w4 ⟨rfl, HB4⟩
          go_wp2_with fail
          go_ret2
          exact RetV.mk (HR.out _ (by simp [ByteArray.data_append, HXE.out, locText, qTail, HT.out, httpL])) (below2 (below2 (below2 HB1 HB2) HB3) HB4)
        · have e1 := bs_ne (show 0 < q.size by omega)
          have HT := Lib.hid (show (q.data.toList == []) = false by rw [beq_eq_false_iff_ne]; intro e; have := size_len q; rw [e] at this; simp at this; omega)
          clear hq0
          go_enter Tryz.func62, Tryz.ntmps62
          go_wp2_with fail
          refine (HQ.out _).mono ?_
          rintro e w' ⟨rfl, rfl⟩
          go_wp2_with fail
          refine (HI.out _).mono ?_
          rintro e w1 ⟨rfl, HB1⟩
          go_wp2_with fail
          refine (HN.out _).mono ?_
          rintro e w2 ⟨rfl, HB2⟩
          go_wp2_with fail
          refine (stay_refB _).mono ?_
          rintro e w3 ⟨rfl, HB3⟩
          go_wp2_with fail
          refine (HX.out _).mono ?_
          rintro e w4 ⟨rfl, HB4⟩
          go_wp2_with fail
          go_ret2
          exact RetV.mk (HR.out _ (by simp [ByteArray.data_append, HXE.out, locText, qTail, HT.out, httpL])) (below2 (below2 (below2 HB1 HB2) HB3) HB4)
end Go.Proofs.YteigjobliflkdaaGreatDoor
/- Plain: cleaning a path, piece by piece. No program stands here. -/
namespace Go.Proofs.YteigjobliflkdaaGreatDoor
open Go

/-- The pieces, each behind a slash. -/
def slashes (L : List (List UInt8)) : List UInt8 := L.flatMap (47 :: ·)
theorem slashes_take (L : List (List UInt8)) (k : Nat) (h : k < L.length) : slashes (L.take (k + 1)) = slashes (L.take k) ++ 47 :: L[k]?.getD [] := by
  rw [List.take_succ_eq_append_getElem h, List.getElem?_eq_getElem h, slashes, List.flatMap_append, List.flatMap_cons, List.flatMap_nil, List.append_nil]; rfl
theorem slashes_le (L : List (List UInt8)) (k : Nat) : (slashes (L.take k)).length ≤ (slashes L).length := by
  conv => rhs; rw [← List.take_append_drop k L]
  simp only [slashes, List.flatMap_append, List.length_append]; omega
theorem slashes_piece (L : List (List UInt8)) (k : Nat) (h : k < L.length) : (slashes (L.take k)).length + 1 + (L[k]?.getD []).length ≤ (slashes L).length := by
  have := slashes_le L (k + 1)
  rw [slashes_take L k h] at this
  simp at this ⊢; omega
theorem slashes_empty (L : List (List UInt8)) : (slashes L == []) = (L == []) := by
  cases L with
  | nil => rfl
  | cons a L => rfl
theorem dPut_eq (L : List (List UInt8)) (op : Bool) : dPut L op = slashes L ++ if op || L == [] then [47] else [] := rfl
/-- One piece more. -/
def cleanOne (s : List UInt8) (kept : List (List UInt8)) : Option (List (List UInt8) × Bool) :=
  if s == [46, 46] then (if kept == [] then none else some (kept.dropLast, true)) else if s == [] || s == [46] then some (kept, true) else some (kept ++ [s], false)
theorem cleanGo_cons (s : List UInt8) (r : List (List UInt8)) (kept : List (List UInt8)) (op : Bool) : cleanGo (s :: r) kept op = (cleanOne s kept).bind fun x => cleanGo r x.1 x.2 := by
  unfold cleanOne
  rw [cleanGo]
  split
  · split <;> rfl
  · split <;> rfl
/-- The first k pieces are cleaned: kept, op are what is at hand. -/
def CleanAt (L : List (List UInt8)) (k : Nat) (kept : List (List UInt8)) (op : Bool) : Prop := k ≤ L.length ∧ kept.length ≤ k ∧ (slashes kept).length ≤ (slashes (L.take k)).length ∧ cleanGo L [] false = cleanGo (L.drop k) kept op
theorem CleanAt.start (L : List (List UInt8)) : CleanAt L 0 [] false := ⟨Nat.zero_le _, Nat.le_refl _, by simp [slashes], by simp⟩
theorem CleanAt.bad {L kept : List (List UInt8)} {k : Nat} {op : Bool} (h : CleanAt L k kept op) (hk : k < L.length) (hb : cleanOne (L[k]?.getD []) kept = none) : cleanGo L [] false = none := by
  rw [h.2.2.2, List.drop_eq_getElem_cons hk, cleanGo_cons]
  rw [List.getElem?_eq_getElem hk] at hb
  have hb : cleanOne L[k] kept = none := hb
  rw [hb]; rfl
theorem slashes_dropLast (L : List (List UInt8)) : (slashes L.dropLast).length ≤ (slashes L).length := by
  rw [List.dropLast_eq_take]; exact slashes_le _ _
theorem CleanAt.next {L kept kept' : List (List UInt8)} {k : Nat} {op op' : Bool} (h : CleanAt L k kept op) (hk : k < L.length) (hb : cleanOne (L[k]?.getD []) kept = some (kept', op')) : CleanAt L (k + 1) kept' op' := by
  obtain ⟨h1, h2, h3, h4⟩ := h
  have hs := slashes_take L k hk
  refine ⟨hk, ?_, ?_, ?_⟩
  · unfold cleanOne at hb
    split at hb
    · split at hb
      · cases hb
      · cases hb; simp; omega
    · split at hb <;> cases hb
      · omega
      · simp; omega
  · rw [hs]
    unfold cleanOne at hb
    split at hb
    · split at hb
      · cases hb
      · cases hb; have := slashes_dropLast kept; simp; omega
    · split at hb <;> cases hb
      · simp; omega
      · rw [show slashes (kept ++ [L[k]?.getD []]) = slashes kept ++ 47 :: L[k]?.getD [] by simp [slashes]]; simp; omega
  · rw [h4, List.drop_eq_getElem_cons hk, cleanGo_cons]
    rw [List.getElem?_eq_getElem hk] at hb
    have hb : cleanOne L[k] kept = some (kept', op') := hb
    rw [hb]; rfl
theorem CleanAt.fin {L kept : List (List UInt8)} {k : Nat} {op : Bool} (h : CleanAt L k kept op) (hk : L.length ≤ k) : cleanGo L [] false = some (kept, op) := by
  rw [h.2.2.2, List.drop_of_length_le hk]; rfl
theorem slashes_cons (a : List UInt8) (L : List (List UInt8)) : slashes (a :: L) = 47 :: (a ++ slashes L) := rfl
/-- The pieces of a text are, with their slashes, one byte longer than it. -/
theorem segs_slashes (c : UInt8) : ∀ l : List UInt8, (slashes (segs c l)).length = l.length + 1
  | [] => rfl
  | b :: l => by
    have ih := segs_slashes c l
    unfold segs
    by_cases e : b = c
    · rw [if_pos e, slashes_cons]; simp only [List.nil_append, List.length_cons]; omega
    · rw [if_neg e]
      cases hs : segs c l with
      | nil => exact absurd hs (segs_ne c l)
      | cons x t =>
        rw [hs, slashes_cons] at ih
        rw [slashes_cons]
        simp only [List.length_cons, List.length_append] at ih ⊢; omega
theorem CleanAt.le {l : List UInt8} {kept : List (List UInt8)} {k : Nat} {op : Bool} (h : CleanAt (segs 47 l) k kept op) : (slashes kept).length ≤ l.length + 1 := by
  have h1 := slashes_le (segs 47 l) k
  have h2 := segs_slashes 47 l
  have := h.2.2.1
  omega
end Go.Proofs.YteigjobliflkdaaGreatDoor
/- Plain: Locations are taken apart as the reference does it. No program stands here. -/
namespace Go.Proofs.YteigjobliflkdaaGreatDoor
open Go

/-- What stands in a normal host. -/
theorem host_bytes {h : List UInt8} (hh : hostIs h = true) : ∀ b ∈ h, lchB b = true ∨ b = 46 ∨ b = 58 := by
  unfold hostIs at hh
  cases hn : hostNormal h with
  | error e => rw [hn] at hh; cases hh
  | ok t =>
    rw [hn] at hh
    have ht : t = h := by simpa using hh
    subst ht
    unfold hostNormal at hn
    cases hs : hostSplit t with
    | error e => rw [hs] at hn; cases hn
    | ok x =>
      obtain ⟨n, p⟩ := x
      rw [hs] at hn
      have hk := NameOK.of hs
      have hn : hostWritten n p = .ok t := hn
      unfold hostWritten at hn
      split at hn
      · cases hn
      · injection hn with hn
        intro b hb
        rw [← hn] at hb
        have hname : ∀ b ∈ n, lchB b = true ∨ b = 46 := fun b hb => by
          rcases segs_all_mem 46 n b hb with h | ⟨x, hx, hbx⟩
          · exact .inr h
          · exact .inl (((labB_iff x).1 (List.all_eq_true.1 hk.1 x hx)).2.2.2.2 b hbx)
        unfold hostWrite at hb
        split at hb
        · rcases hname b hb with h | h
          · exact .inl h
          · exact .inr (.inl h)
        · rcases List.mem_append.1 hb with hb | hb
          · rcases hname b hb with h | h
            · exact .inl h
            · exact .inr (.inl h)
          · rcases List.mem_cons.1 hb with hb | hb
            · exact .inr (.inr hb)
            · left
              have d := (itoa_port hk.2.2.1 hk.2.2.2.1).1
              simp only [digsOK, Bool.and_eq_true] at d
              have := List.all_eq_true.1 d.2 b hb
              simp [lchB, alnumB, this]
theorem host_free {h : List UInt8} (hh : hostIs h = true) (c : UInt8) (hc : lchB c = false ∧ c ≠ 46 ∧ c ≠ 58) : ∀ b ∈ h, b ≠ c := by
  intro b hb e
  subst e
  rcases host_bytes hh b hb with h | h | h
  · rw [hc.1] at h; cases h
  · exact hc.2.1 h
  · exact hc.2.2 h
theorem cut1_over {c : UInt8} {h t : List UInt8} (hf : ∀ b ∈ h, b ≠ c) : cut1 c (h ++ t) = (h ++ (cut1 c t).1, (cut1 c t).2.1, (cut1 c t).2.2) := by
  induction h with
  | nil => rfl
  | cons a h ih =>
    rw [List.cons_append, cut1, if_neg (hf a (by simp)), ih fun b hb => hf b (by simp [hb])]; rfl
/-- The last steps: the path is read, and the Location is built again. -/
def backB (l h raw q : List UInt8) : Option (List UInt8 × List UInt8 × List UInt8) := match pctDec raw with
  | none => none
  | some p => match locBuild h p q with
    | .error _ => none
    | .ok s => if s == l then some (h, p, q) else none
theorem backB_host {l h raw q : List UInt8} (hh : hostIs h = false) : backB l h raw q = none := by
  unfold backB
  cases pctDec raw with
  | none => rfl
  | some p =>
    have : locBuild h p q = .error 11 := by unfold locBuild; rw [if_pos hh]
    simp only [this]
theorem backB_nil {l h q : List UInt8} : backB l h [] q = none := by
  unfold backB
  rw [show pctDec [] = some [] from rfl]
  have hp : placeErr [] q = 18 := by unfold placeErr; rw [if_neg (by simp), if_pos (by simp [dNormal])]
  by_cases hh : hostIs h = false
  · have : locBuild h [] q = .error 11 := by unfold locBuild; rw [if_pos hh]
    simp only [this]
  · have : locBuild h [] q = .error 18 := by unfold locBuild; rw [if_neg hh, hp, if_pos (by decide)]
    simp only [this]
theorem locSplit_eq (l : List UInt8) : locSplit l = if httpL.isPrefixOf l = false then none else if (cut1 47 (l.drop 7)).2.2 = false then none else if hostIs (cut1 47 (l.drop 7)).1 = false then none else backB l (cut1 47 (l.drop 7)).1 (cut1 63 (47 :: (cut1 47 (l.drop 7)).2.1)).1 (cut1 63 (47 :: (cut1 47 (l.drop 7)).2.1)).2.1 := by
  unfold locSplit backB; rfl
theorem mid_take (a t : List UInt8) : ((a ++ t).take (a ++ (cut1 63 t).1).length).drop a.length = (cut1 63 t).1 := by
  rw [List.length_append, List.take_length_add_append, List.drop_left, cut1_take]
/-- The reference's way. -/
theorem locSplit_ref (l : List UInt8) : locSplit l = if httpL.isPrefixOf l = false then none else if (cut1 63 (l.drop 7)).1.length < (cut1 47 (l.drop 7)).1.length then none else
    backB l (cut1 47 (l.drop 7)).1 (((l.drop 7).take (cut1 63 (l.drop 7)).1.length).drop (cut1 47 (l.drop 7)).1.length) (cut1 63 (l.drop 7)).2.1 := by
  rw [locSplit_eq]
  split
  · rfl
  generalize l.drop 7 = r
  cases hc : (cut1 47 r).2.2 with
  | false =>
    rw [if_pos rfl]
    split
    · rfl
    · have h1 := (cut1_none 47 r hc).1
      rw [h1]
      rw [List.drop_of_length_le (by simp; omega), backB_nil]
  | true =>
    rw [if_neg (by decide)]
    have hr := cut1_app 47 r hc
    cases hh : hostIs (cut1 47 r).1 with
    | false =>
      rw [if_pos rfl]
      split
      · rfl
      · rw [backB_host hh]
    | true =>
      rw [if_neg (by decide)]
      have h63 := cut1_over (c := 63) (h := (cut1 47 r).1) (t := 47 :: (cut1 47 r).2.1) (host_free hh 63 (by decide))
      rw [← hr] at h63
      rw [h63]
      simp only
      rw [if_neg (by simp)]
      congr 1
      have hm := mid_take (cut1 47 r).1 (47 :: (cut1 47 r).2.1)
      rw [← hr] at hm
      exact hm.symm
/-- The three parts and the error, as a value. -/
def splitV (r : Option (List UInt8 × List UInt8 × List UInt8)) : ByteArray × ByteArray × ByteArray × Int := match r with
  | none => (⟨#[]⟩, ⟨#[]⟩, ⟨#[]⟩, 3)
  | some x => (⟨x.1.toArray⟩, ⟨x.2.1.toArray⟩, ⟨x.2.2.toArray⟩, 0)
end Go.Proofs.YteigjobliflkdaaGreatDoor
