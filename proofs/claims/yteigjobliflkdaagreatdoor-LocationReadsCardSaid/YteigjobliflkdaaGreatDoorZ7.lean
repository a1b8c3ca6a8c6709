/- Texts of this claim, joined in build order: H15a, H15b, H15c, H15d, H15e, H15f, J15. -/
import Derived.Test.YteigjobliflkdaaGreatDoorZ5
import Derived.Test.YteigjobliflkdaaGreatDoorZ6
import Derived.Defers
import Derived.Recover
import Derived.WalkSmall
import Derived.Lib.AppendStr
import Derived.ArgAppend
import Derived.Deep.DeepCutAuto
import Derived.Test.YteigjobliflkdaaGreatDoorZ1
/- Walks: host's label, and what it calls. -/
namespace Go.Proofs.YteigjobliflkdaaGreatDoor
open Go.RowKit

theorem trim_any (s t : ByteArray) (w : World) (hs : s.size ≤ 60000) (ht : t.size ≤ 60000) (hascii : ∀ (j : Nat) b, t.data.toList[j]? = some b → b.toNat < 128) :
    Calls Tryz.prog 132 #[.string s, .string t] w fun e w' => e = .returned (.string ⟨(Lib.trimS s.data.toList t.data.toList).toArray⟩) ∧ Below w.heap.size w w' :=
  Any.strings_Trim_laid Tryz.lays160 (by kernel_rfl) s t w (by omega) (by omega) hascii

theorem in_any (s t : ByteArray) (w : World) (hs : s.size ≤ 60000) (ht : t.size ≤ 60000) (hascii : ∀ (j : Nat) b, t.data.toList[j]? = some b → b.toNat < 128) :
    Calls Tryz.prog 90 #[.string s, .string t] w fun e w' => e = .returned (.bool (s.data.toList.all (t.data.toList.contains ·))) ∧ Below w.heap.size w w' := by
  have HT := Lib.hid (trimS_nil s.data.toList t.data.toList)
  go_enter Tryz.func90, Tryz.ntmps90
  go_wp2_with (go_at_call 132; refine (trim_any _ _ _ hs ht hascii).mono ?_; rintro e w1 ⟨rfl, HB⟩)
  go_ret
  exact ⟨ret_bool (by rw [← HT.out]), HB⟩

/-- The bytes of labels in small letters, as the text lists them. -/
def letters : List UInt8 := [97, 98, 99, 100, 101, 102, 103, 104, 105, 106, 107, 108, 109, 110, 111, 112, 113, 114, 115, 116, 117, 118, 119, 120, 121, 122, 48, 49, 50, 51, 52, 53, 54, 55, 56, 57, 45]
theorem ascii_of (l : List UInt8) (h : l.all (fun b => decide (b.toNat < 128)) = true) (j : Nat) (b : UInt8) (hj : l[j]? = some b) : b.toNat < 128 := by
  have := List.all_eq_true.1 h b (List.mem_of_getElem? hj)
  simpa using this
def letB (l : List UInt8) : Bool := l.all (letters.contains ·)
def digB (l : List UInt8) : Bool := l.all digitB
theorem in_letters (s : ByteArray) (w : World) (hs : s.size ≤ 60000) :
    Calls Tryz.prog 90 #[.string s, .string ⟨#[97, 98, 99, 100, 101, 102, 103, 104, 105, 106, 107, 108, 109, 110, 111, 112, 113, 114, 115, 116, 117, 118, 119, 120, 121, 122, 48, 49, 50, 51, 52, 53, 54, 55, 56, 57, 45]⟩] w fun e w' => e = .returned (.bool (letB s.data.toList)) ∧ Below w.heap.size w w' :=
  in_any s ⟨#[97, 98, 99, 100, 101, 102, 103, 104, 105, 106, 107, 108, 109, 110, 111, 112, 113, 114, 115, 116, 117, 118, 119, 120, 121, 122, 48, 49, 50, 51, 52, 53, 54, 55, 56, 57, 45]⟩ w hs (by decide) (ascii_of _ (by decide))
theorem in_digits (s : ByteArray) (w : World) (hs : s.size ≤ 60000) :
    Calls Tryz.prog 90 #[.string s, .string ⟨#[48, 49, 50, 51, 52, 53, 54, 55, 56, 57]⟩] w fun e w' => e = .returned (.bool (digB s.data.toList)) ∧ Below w.heap.size w w' := by
  have := in_any s ⟨#[48, 49, 50, 51, 52, 53, 54, 55, 56, 57]⟩ w hs (by decide) (ascii_of _ (by decide))
  rw [show (fun b => (⟨#[48, 49, 50, 51, 52, 53, 54, 55, 56, 57]⟩ : ByteArray).data.toList.contains b) = digitB from ?_] at this
  · exact this
  · funext b
    have : ∀ n : Fin 256, ([48, 49, 50, 51, 52, 53, 54, 55, 56, 57] : List UInt8).contains (UInt8.ofFin n) = digitB (UInt8.ofFin n) := by decide +kernel
    exact this b.toFin
theorem hasPrefix_any (s t : ByteArray) (w : World) :
    Calls Tryz.prog 104 #[.string s, .string t] w fun e w' => e = .returned (.bool (Lib.hasPrefix s.data.toList t.data.toList)) ∧ w = w' := (Tryz.strings_HasPrefix s t w).mono fun _ _ h => ⟨h.1, h.2.symm⟩
theorem hasSuffix_any (s t : ByteArray) (w : World) (hs : s.size ≤ 60000) :
    Calls Tryz.prog 137 #[.string s, .string t] w fun e w' => e = .returned (.bool (Lib.hasSuffix s.data.toList t.data.toList)) ∧ w = w' := (Tryz.strings_HasSuffix s t w (by omega)).mono fun _ _ h => ⟨h.1, h.2.symm⟩

/-- What the deferred function of label leaves. -/
def labFin (b : Bool) (l : List UInt8) : Bool := b && !Lib.hasPrefix l [45] && !Lib.hasSuffix l [45]

set_option maxRecDepth 100000 in
theorem label_deferred (g h : Nat) (b : Bool) (s : ByteArray) (u : FrameMode) (w : World) (hs : s.size ≤ 60000) (hb : w.cell? ⟨g, 0, none⟩ = some (.bool b)) (hf : w.frozen? ⟨g, 0, none⟩ = false) (hc : w.cell? ⟨h, 0, none⟩ = some (.string s)) :
    CallsD Tryz.prog 136 #[.pointer (some ⟨g, 0, none⟩), .pointer (some ⟨h, 0, none⟩)] u w fun e u' w' => u' = u ∧ (e = .returned (.tuple #[]) ∧ w' = w.setCell ⟨g, 0, none⟩ (.bool (labFin b s.data.toList))) := by
  go_enter_d Tryz.func136, Tryz.ntmps136
  go_wp2_with (first | (go_at_call 104; refine (hasPrefix_any _ _ _).mono ?_; rintro e w' ⟨rfl, rfl⟩) | (go_at_call 137; refine (hasSuffix_any _ _ _ hs).mono ?_; rintro e w' ⟨rfl, rfl⟩))
  · have h1 : b = true := by assumption
    have h2 : Lib.hasPrefix s.data.toList [45] = true := by assumption
    go_end0
    exact ⟨rfl, congrArg (fun x => w.setCell _ (.bool x)) (by rw [labFin, h1, h2]; rfl)⟩
  · have h1 : b = true := by assumption
    have h2 : ¬ Lib.hasPrefix s.data.toList [45] = true := by assumption
    go_end0
    exact ⟨rfl, congrArg (fun x => w.setCell _ (.bool x)) (by rw [labFin, h1, Bool.eq_false_iff.2 h2]; simp)⟩
  · have h1 : ¬ b = true := by assumption
    go_end0
    exact ⟨rfl, congrArg (fun x => w.setCell _ (.bool x)) (by rw [labFin, Bool.eq_false_iff.2 h1]; rfl)⟩

theorem low_lch (b : UInt8) : letters.contains (lowB b) = lchB b := by
  have : ∀ n : Fin 256, letters.contains (lowB (UInt8.ofFin n)) = lchB (UInt8.ofFin n) := by decide +kernel
  exact this b.toFin
theorem low_all (l : List UInt8) : letB (lower l) = l.all lchB := by
  rw [letB, lower, List.all_map]
  congr 1; funext b; exact low_lch b
theorem labFin_eq (l : List UInt8) : labFin (decide (1 ≤ l.length) && decide (l.length ≤ 63) && l.all lchB) l = labB l := by
  unfold labFin labB
  cases l with
  | nil => simp
  | cons a t =>
    have h1 : Lib.hasPrefix (a :: t) [45] = decide (((a :: t)[0]?.getD 0).toNat = 45) := by
      simp only [Lib.hasPrefix, List.isPrefixOf, Bool.and_true, List.getElem?_cons_zero, Option.getD_some]
      rw [Bool.eq_iff_iff]; simp only [beq_iff_eq, decide_eq_true_eq]
      exact ⟨fun e => by rw [← e]; rfl, fun e => (UInt8.toNat_inj.1 e).symm⟩
    have h2 : Lib.hasSuffix (a :: t) [45] = decide (((a :: t)[(a :: t).length - 1]?.getD 0).toNat = 45) := by
      rw [Bool.eq_iff_iff]
      simp only [Lib.hasSuffix, List.isSuffixOf_iff_suffix, decide_eq_true_eq]
      rw [List.getElem?_eq_getElem (by simp)]
      constructor
      · rintro ⟨p, hp⟩
        have : (a :: t)[(a :: t).length - 1]? = some 45 := by rw [← hp]; simp
        rw [List.getElem?_eq_getElem (by simp)] at this
        injection this with this
        rw [Option.getD_some, this]; rfl
      · intro e
        have e' : (a :: t)[(a :: t).length - 1] = 45 := UInt8.toNat_inj.1 e
        refine ⟨(a :: t).take ((a :: t).length - 1), ?_⟩
        conv => rhs; rw [← List.take_append_drop ((a :: t).length - 1) (a :: t)]
        rw [List.drop_eq_getElem_cons (by simp), e', List.drop_eq_nil_of_le (by simp)]
    rw [h1, h2]
    generalize decide (((a :: t)[0]?.getD 0).toNat = 45) = x
    generalize decide (((a :: t)[(a :: t).length - 1]?.getD 0).toNat = 45) = y
    cases x <;> cases y <;> simp

set_option maxRecDepth 100000 in
set_option maxHeartbeats 800000 in
theorem label_any (s : ByteArray) (w : World) (hs : s.size ≤ 60000) :
    Calls Tryz.prog 93 #[.string s] w (RetV (.bool (labB s.data.toList)) w) := by
  have hmf : ∀ (fn : Fn) (first cap : Array Value) (w : World), (Instr.makeFunc fn first cap).run Tryz.prog w = .ok (.func fn first cap) w := fun _ _ _ _ => rfl
  have c0 : ((w.alloc (.cells #[.string s] 9)).alloc (.cells #[.bool false] 4)).cell? ⟨w.heap.size, 0, none⟩ = some (.string s) := by
    rw [World.cell?_alloc_past _ _ _ (by simp), World.cell?_alloc_at _ _ _ _ rfl]; rfl
  have c1 : ((w.alloc (.cells #[.string s] 9)).alloc (.cells #[.bool false] 4)).cell? ⟨w.heap.size + 1, 0, none⟩ = some (.bool false) := by
    rw [World.cell?_alloc_at _ _ _ _ (by simp)]; rfl
  have f1 : ((w.alloc (.cells #[.string s] 9)).alloc (.cells #[.bool false] 4)).frozen? ⟨w.heap.size + 1, 0, none⟩ = false := World.frozen?_alloc_at _ _ _ _ (by simp)
  have hb0 : Below w.heap.size w ((w.alloc (.cells #[.string s] 9)).alloc (.cells #[.bool false] 4)) := ((Below.refl _ _).alloc (Nat.le_refl _) _).alloc (by simp) _
  by_cases h1 : 1 ≤ s.size
  · by_cases h2 : s.size ≤ 63
    · have hd1 : decide (1 ≤ (s.size : Int)) = true := by simp; omega
      have hd2 : decide ((s.size : Int) ≤ 63) = true := by simp; omega
      have HZ := Lib.hid (show labB s.data.toList = labFin (letB (lower s.data.toList)) s.data.toList by
        rw [← labFin_eq, size_len, decide_eq_true h1, decide_eq_true h2, low_all]; rfl)
      go_enter_defers Tryz.func93, Tryz.ntmps93
      go_wp2_with fail
      refine (lower_tok s _ hs).mono ?_
      rintro e w1 ⟨rfl, HB1⟩
      go_wp2_with fail
      refine (in_letters ⟨(lower s.data.toList).toArray⟩ _ (by rw [size_mk, lower_length, size_len]; exact hs)).mono ?_
      rintro e w2 ⟨rfl, HB2⟩
      have HB := HB1.trans (HB2.mono HB1.size)
      have HF := Lib.hid HB
      have k0 := (HB.cell (p := ⟨w.heap.size, 0, none⟩) (by simp; omega)).trans c0
      have k1 := (HB.cell (p := ⟨w.heap.size + 1, 0, none⟩) (by simp)).trans c1
      have g1 := (HB.frozen (p := ⟨w.heap.size + 1, 0, none⟩) (by simp)).trans f1
      clear HB HB1 HB2 c0 c1 f1
      go_wp2_with fail
      refine leaves_cons (f := 136) (args := #[.pointer (some ⟨w.heap.size + 1, 0, none⟩), .pointer (some ⟨w.heap.size, 0, none⟩)]) (by simp) (by simp [go_sem]) ?_
      have hne : (⟨w.heap.size + 1, 0, none⟩ : Addr) ≠ ⟨w.heap.size, 0, none⟩ := by simp
      refine (label_deferred (w.heap.size + 1) w.heap.size (letB (lower s.data.toList)) s .returning _ hs ?_ ?_ ?_).mono ?_
      · exact World.cell?_setCell_same _ _ _ k1
      · simp [g1]
      · rw [World.cell?_setCell_other _ _ _ _ hne]; exact k0
      rintro e u' w'' ⟨rfl, rfl, rfl⟩
      have hq : ((w2.setCell ⟨w.heap.size + 1, 0, none⟩ (.bool (letB (lower s.data.toList)))).setCell ⟨w.heap.size + 1, 0, none⟩ (.bool (labFin (letB (lower s.data.toList)) s.data.toList))).cell? ⟨w.heap.size + 1, 0, none⟩ = some (.bool (labFin (letB (lower s.data.toList)) s.data.toList)) :=
        World.cell?_setCell_same _ _ _ (World.cell?_setCell_same _ _ _ k1)
      have HBB := ((hb0.trans (HF.out.mono (by simp; omega))).setCell (p := ⟨w.heap.size + 1, 0, none⟩) (by simp) (.bool (letB (lower s.data.toList)))).setCell (p := ⟨w.heap.size + 1, 0, none⟩) (by simp) (.bool (labFin (letB (lower s.data.toList)) s.data.toList))
      generalize ((w2.setCell ⟨w.heap.size + 1, 0, none⟩ (.bool (letB (lower s.data.toList)))).setCell ⟨w.heap.size + 1, 0, none⟩ (.bool (labFin (letB (lower s.data.toList)) s.data.toList))) = w5 at hq HBB
      simp [Leaves, settle, results, Tryz.results93, go_sem, hq]
      exact RetV.of (f := Value.bool) _ HZ.out rfl HBB
    · have hd1 : decide (1 ≤ (s.size : Int)) = true := by simp; omega
      have hd2 : decide ((s.size : Int) ≤ 63) = false := by simp; omega
      have HZ := Lib.hid (show labB s.data.toList = labFin false s.data.toList by
        rw [← labFin_eq, size_len, decide_eq_false h2]; simp)
      go_enter_defers Tryz.func93, Tryz.ntmps93
      go_wp2_with fail
      refine leaves_cons (f := 136) (args := #[.pointer (some ⟨w.heap.size + 1, 0, none⟩), .pointer (some ⟨w.heap.size, 0, none⟩)]) (by simp) (by simp [go_sem]) ?_
      refine (label_deferred (w.heap.size + 1) w.heap.size false s .returning _ hs c1 f1 c0).mono ?_
      rintro e u' w'' ⟨rfl, rfl, rfl⟩
      have hq := World.cell?_setCell_same _ _ (.bool (labFin false s.data.toList)) c1
      have HBB := hb0.setCell (p := ⟨w.heap.size + 1, 0, none⟩) (by simp) (.bool (labFin false s.data.toList))
      generalize ((w.alloc (.cells #[.string s] 9)).alloc (.cells #[.bool false] 4)).setCell ⟨w.heap.size + 1, 0, none⟩ (.bool (labFin false s.data.toList)) = w5 at hq HBB
      simp [Leaves, settle, results, Tryz.results93, go_sem, hq]
      exact RetV.of (f := Value.bool) _ HZ.out rfl HBB
  · have hd1 : decide (1 ≤ (s.size : Int)) = false := by simp; omega
    have HZ := Lib.hid (show labB s.data.toList = labFin false s.data.toList by
      rw [← labFin_eq, size_len, decide_eq_false h1]; simp)
    go_enter_defers Tryz.func93, Tryz.ntmps93
    go_wp2_with fail
    refine leaves_cons (f := 136) (args := #[.pointer (some ⟨w.heap.size + 1, 0, none⟩), .pointer (some ⟨w.heap.size, 0, none⟩)]) (by simp) (by simp [go_sem]) ?_
    refine (label_deferred (w.heap.size + 1) w.heap.size false s .returning _ hs c1 f1 c0).mono ?_
    rintro e u' w'' ⟨rfl, rfl, rfl⟩
    have hq := World.cell?_setCell_same _ _ (.bool (labFin false s.data.toList)) c1
    have HBB := hb0.setCell (p := ⟨w.heap.size + 1, 0, none⟩) (by simp) (.bool (labFin false s.data.toList))
    generalize ((w.alloc (.cells #[.string s] 9)).alloc (.cells #[.bool false] 4)).setCell ⟨w.heap.size + 1, 0, none⟩ (.bool (labFin false s.data.toList)) = w5 at hq HBB
    simp [Leaves, settle, results, Tryz.results93, go_sem, hq]
    exact RetV.of (f := Value.bool) _ HZ.out rfl HBB
end Go.Proofs.YteigjobliflkdaaGreatDoor
/- Walk: host.Split, and the library that it calls. -/
namespace Go.Proofs.YteigjobliflkdaaGreatDoor
open Go.RowKit

/-- What every world of a call has: the package-level variables that are read. -/
structure Good (w : World) : Prop where
  size : 8 ≤ w.heap.size
  maxlen : ∃ m, w.cell? ⟨0, 0, none⟩ = some (.int .i64 m)
  pow : Lib.TabIs Tryz.prog w "internal/strconv.uint64pow10" .u64 Lib.pow10Tab

theorem gPow : Tryz.prog.globalNamed "internal/strconv.uint64pow10" = some 3 := by kernel_rfl
theorem Good.below {w w' : World} {B : Nat} (h : Good w) (hB : Below B w w') (hb : 8 ≤ B) : Good w' := by
  obtain ⟨h1, ⟨m, h2⟩, h3⟩ := h
  refine ⟨Nat.le_trans h1 hB.size, ⟨m, ?_⟩, var?_below hB gPow (by omega) h3⟩
  rw [hB.cell (p := ⟨0, 0, none⟩) (by show 0 < B; omega)]; exact h2
theorem Good.next {w w' : World} (h : Good w) (hB : Below w.heap.size w w') : Good w' := h.below hB h.size
theorem Good.tab {w : World} {B : Nat} (h : Good w) (hb : 8 ≤ B) : Lib.TabBelow Tryz.prog B w "internal/strconv.uint64pow10" .u64 Lib.pow10Tab :=
  fun _ hB => (h.below hB hb).pow

theorem cut_any (c : UInt8) (s : ByteArray) (w : World) (hG : Good w) (hs : s.size ≤ 60000) :
    Calls Tryz.prog 83 #[.string s, .string ⟨#[c]⟩] w fun e w' => e = .returned (.tuple #[.string ⟨(cut1 c s.data.toList).1.toArray⟩, .string ⟨(cut1 c s.data.toList).2.1.toArray⟩, .bool (cut1 c s.data.toList).2.2]) ∧ Below w.heap.size w w' := by
  obtain ⟨m, hm⟩ := hG.maxlen
  have := Tryz.strings_Cut s ⟨#[c]⟩ m w (by omega) hm
  rw [show (⟨#[c]⟩ : ByteArray).data.toList = [c] from rfl, lib_cut] at this
  refine this.mono fun e w' h => ?_
  obtain ⟨h1, n, rfl⟩ := h
  exact ⟨h1, below_drewN (Below.refl _ _) n⟩

theorem count_segs (c : UInt8) : ∀ (n : Nat) (l : List UInt8), l.length < n → ∀ f, l.length < f → (segs c l).length = Lib.countFrom [c] f l + 1
  | 0, l, h, _, _ => by omega
  | n + 1, l, h, f, hf => by
    obtain ⟨f, rfl⟩ : ∃ g, f = g + 1 := ⟨f - 1, by omega⟩
    rw [segs_cut]
    unfold Lib.countFrom
    rw [index_one c l]
    cases hc : (cut1 c l).2.2 with
    | false => simp
    | true =>
      have hl := (cut1_len c l).2.2 hc
      have h1 : ((((cut1 c l).1.length : Int)) == -1) = false := by rw [beq_eq_false_iff_ne]; omega
      simp only [if_true, h1, Bool.false_eq_true, if_false, Int.toNat_natCast, List.length_cons, List.length_nil, Nat.zero_add]
      rw [cut1_drop c l hc, count_segs c n _ (by omega) f (by omega)]
      omega

theorem split_lib (c : UInt8) (s : ByteArray) (w : World) (hG : Good w) (hs : s.size ≤ 60000) :
    Calls Tryz.prog 92 #[.string s, .string ⟨#[c]⟩] w (RetStrs1 w (segs c s.data.toList)) := by
  obtain ⟨m, hm⟩ := hG.maxlen
  refine (Tryz.strings_Split s ⟨#[c]⟩ m w (by omega) hm (by show 1 ≤ 1; omega)).mono fun e w' h => ?_
  obtain ⟨rfl, rfl⟩ := h
  have hN : Lib.countB s ⟨#[c]⟩ + 1 = (segs c s.data.toList).length := (count_segs c (s.data.toList.length + 1) _ (by omega) _ (by omega)).symm
  have hL : (Lib.splitB ⟨#[c]⟩ 0 (Lib.countB s ⟨#[c]⟩) s).map Value.string = (segs c s.data.toList).map S := by
    have h := Lib.splitB_data ⟨#[c]⟩ 0 (Lib.countB s ⟨#[c]⟩) s
    rw [show Lib.splitK (⟨#[c]⟩ : ByteArray).data.toList 0 (Lib.countB s ⟨#[c]⟩) s.data.toList = segs c s.data.toList from lib_split c s.data.toList] at h
    rw [← h, List.map_map]
    congr 1
  have hle := segs_le c s.data.toList
  rw [size_len] at hle
  refine ⟨w.heap.size, _, by rw [hN], ?_, (Below.refl _ _).alloc (Nat.le_refl _) _⟩
  rw [hL]
  have := World.ownsRow_lit (base := w.heap.size) (e := 9) (size := 1) w ((segs c s.data.toList).map S).toArray (segs c s.data.toList).length (Nat.le_refl _) (by unfold maxLen; omega) (by simp)
  exact this

theorem split_lib1 {c : UInt8} {n : List UInt8} {A : List (List UInt8)} (h : segs c n = A) (hn : n.length ≤ 60000) (w : World) (hG : Good w) :
    Calls Tryz.prog 92 #[.string ⟨n.toArray⟩, .string ⟨#[c]⟩] w fun e w' => ∃ g cap, e = .returned (.slice (some ⟨g, 0, none⟩) A.length cap) ∧ w'.ownsRow w.heap.size 9 1 (.slice (some ⟨g, 0, none⟩) A.length cap) A.length (A.map S) ∧ Below w.heap.size w w' := by
  subst h
  exact split_lib c ⟨n.toArray⟩ w hG (by rw [size_mk]; exact hn)

theorem atoi_any (s : ByteArray) (w : World) (h : digsOK s.data.toList = true) :
    Calls Tryz.prog 91 #[.string s] w fun e w' => e = .returned (.tuple #[.int .i64 (decVal s.data.toList), .nilIface]) ∧ Below w.heap.size w w' := by
  have h5 : s.size ≤ 5 := by
    have := h
    simp only [digsOK, Bool.and_eq_true, decide_eq_true_eq] at this
    rw [← size_len]; exact this.1.2
  refine (Tryz.strconv_Atoi s _ (by omega) (atoi_val _ h) w).mono fun e w' h => ?_
  obtain ⟨h1, t, rfl⟩ := h
  exact ⟨h1, bytes_below w t⟩

set_option maxRecDepth 100000 in
set_option maxHeartbeats 800000 in
theorem split_any (s : ByteArray) (w : World) (hG : Good w) (hs : s.size ≤ 60000) :
    Calls Tryz.prog 26 #[.string s] w (RetV (vSplit (hostSplit s.data.toList)) w) := by
  by_cases hlong : 128 < s.size
  · go_enter Tryz.func26, Tryz.ntmps26
    go_wp2_with (fail)
    go_ret3
    exact RetV.of (f := vSplit) _ (hostSplit_long (by rw [size_len]; exact hlong)) rfl (Below.refl _ _)
  have hle : decide (128 < (s.size : Int)) = false := by simp; omega
  have hl128 : s.size ≤ 128 := by omega
  have hlen := cut1_len 58 s.data.toList
  rw [size_len] at hlen
  obtain ⟨hl1, hl2, _⟩ := hlen
  generalize hcut : cut1 58 s.data.toList = c at hl1 hl2
  obtain ⟨nm, dg, is⟩ := c
  have HC := Lib.hid hcut
  clear hcut
  simp only at hl1 hl2
  go_enter Tryz.func26, Tryz.ntmps26
  go_wp2_with (fail)
  refine (cut_any 58 s w hG hs).mono ?_
  rw [HC.out]
  rintro e w1 ⟨rfl, HB1⟩
  have hG1 := hG.next HB1
  go_upto_if 18 with fail
  go_cut [2, 3, 6] (fun n2 pt _ wx => ∃ p : Int, n2 = .string ⟨nm.toArray⟩ ∧ pt = .int .i64 p ∧ Hid (Stage1 s.data.toList nm p) ∧ Good wx ∧ Below w.heap.size w wx)
  case first =>
    cases his : is with
    | false =>
      go_wp2_with fail
      go_meet
      refine ⟨80, rfl, rfl, ?_, hG1, HB1⟩
      show Stage1 _ _ _
      unfold Stage1
      rw [HC.out, his]
      exact ⟨rfl, Or.inl ⟨rfl, rfl⟩⟩
    | true =>
      by_cases hd : digsOK dg = true
      · have HD := Lib.hid hd
        have hd' := hd
        simp only [digsOK, Bool.and_eq_true, decide_eq_true_eq] at hd'
        obtain ⟨⟨hd1, hd2⟩, hd3⟩ := hd'
        have t1 : decide ((dg.length : Int) < 1) = false := by simp; omega
        have t2 : decide (5 < (dg.length : Int)) = false := by simp; omega
        have t3 : digB dg = true := hd3
        clear hd hd3
        go_wp2_with fail
        refine (in_digits ⟨dg.toArray⟩ _ (by rw [size_mk]; omega)).mono ?_
        rintro e w2 ⟨rfl, HB2⟩
        go_wp2_with fail
        refine (atoi_any ⟨dg.toArray⟩ _ HD.out).mono ?_
        rintro e w3 ⟨rfl, HB3⟩
        go_wp2_with fail
        go_meet
        have HBB := HB1.trans ((HB2.trans (HB3.mono HB2.size)).mono HB1.size)
        refine ⟨_, rfl, rfl, ?_, hG.next HBB, HBB⟩
        show Stage1 _ _ _
        unfold Stage1
        rw [HC.out, his]
        exact ⟨rfl, Or.inr ⟨rfl, HD.out, rfl⟩⟩
      · have hd' : digsOK dg = false := by simpa using hd
        have HE := Lib.hid (hostSplit_digs (l := s.data.toList) (by rw [size_len]; omega) (by rw [HC.out, his]) (by rw [HC.out]; exact hd'))
        by_cases h1 : dg.length < 1
        · have t1 : decide ((dg.length : Int) < 1) = true := by simp; omega
          clear hd hd'
          go_wp2_with fail
          go_ret3
          exact RetV.of (f := vSplit) _ HE.out rfl HB1
        have t1 : decide ((dg.length : Int) < 1) = false := by simp; omega
        by_cases h5 : 5 < dg.length
        · have t2 : decide (5 < (dg.length : Int)) = true := by simp; omega
          clear hd hd'
          go_wp2_with fail
          go_ret3
          exact RetV.of (f := vSplit) _ HE.out rfl HB1
        have t2 : decide (5 < (dg.length : Int)) = false := by simp; omega
        have t3 : digB dg = false := by
          unfold digsOK at hd'
          rw [decide_eq_true (show 1 ≤ dg.length by omega), decide_eq_true (show dg.length ≤ 5 by omega)] at hd'
          simpa [digB] using hd'
        clear hd hd'
        go_wp2_with fail
        refine (in_digits ⟨dg.toArray⟩ _ (by rw [size_mk]; omega)).mono ?_
        rintro e w2 ⟨rfl, HB2⟩
        go_wp2_with fail
        go_ret3
        exact RetV.of (f := vSplit) _ HE.out rfl (HB1.trans (HB2.mono HB1.size))
  case rest =>
    obtain ⟨p, rfl, rfl, HS, hG2, HB2⟩ := hcut
    have HR := Lib.hid (HS.out.split (by rw [size_len]; omega))
    have hA := segs_le 46 nm
    have hAm := segs_mem 46 nm
    generalize hL : segs 46 nm = L at HR hA hAm
    have HLL := Lib.hid hL
    have HM := Lib.hid hAm
    clear hL hAm
    go_wp2_with fail
    refine (split_lib1 HLL.out (by omega) _ hG2).mono ?_
    rintro e w3 ⟨g, cap, rfl, hown, HB3⟩
    have hG3 := hG2.next HB3
    have HB4 := HB2.trans (HB3.mono HB2.size)
    clear HB3 HB2 hG2 hG1 HB1
    go_wp2_with fail
    go_loopw [2, 3, 40] (fun n2 pt i wr => ∃ k : Nat, n2 = .string ⟨nm.toArray⟩ ∧ pt = .int .i64 p ∧ k ≤ L.length ∧ i = .int .i64 k ∧ Hid ((L.take k).all labB = true) ∧ Hid (wr.ownsRow wc.heap.size 9 1 (.slice (some ⟨g, 0, none⟩) L.length cap) L.length (L.map S)) ∧ Good wr ∧ Below w.heap.size w wr) (fun _ _ i _ => L.length - (intOf i).toNat)
    case atStart => exact ⟨0, rfl, rfl, Nat.zero_le _, rfl, rfl, hown, hG3, HB4⟩
    case round =>
      clear hG3 HB4 hown
      obtain ⟨k, rfl, rfl, hk, rfl, HA, hown, hG3, HB4⟩ := hrel
      by_cases hlt : k < L.length
      · have hcell := own_cell hown.out k hlt rfl
        have HK := Lib.hid (show L[k]?.getD [] = L[k] by rw [List.getElem?_eq_getElem hlt]; rfl)
        have HT := Lib.hid (List.take_succ_eq_append_getElem hlt)
        generalize hx : (⟨(L[k]?.getD []).toArray⟩ : ByteArray) = x at hcell
        have HX := Lib.hid (show x.data.toList = L[k] by rw [← hx, ← HK.out])
        clear hx
        have hxs : x.size ≤ 60000 := by
          have := HM.out L[k] (List.getElem_mem _)
          rw [← size_len x, HX.out]; omega
        by_cases hb : labB x.data.toList = true
        · have HN := Lib.hid (show (L.take (k + 1)).all labB = true by rw [HT.out, List.all_append, HA.out, ← HX.out]; simp [hb])
          go_wp2_with (go_at_call 93; refine (label_any _ _ hxs).mono ?_; rintro e w5 ⟨rfl, HB5⟩)
          go_roundw
          case rel => exact ⟨k + 1, rfl, rfl, by omega, by go_num, HN, own_below hown.out HB5, hG3.next HB5, HB4.trans (HB5.mono HB4.size)⟩
          case measure => (simp [intOf]; try omega)
        · have hb' : labB x.data.toList = false := by simpa using hb
          clear hb
          have HE := Lib.hid (show hostSplit s.data.toList = .error 3 by
            rw [HR.out, if_pos (List.all_eq_false.2 ⟨L[k], List.getElem_mem _, by rw [← HX.out, hb']; simp⟩)])
          go_wp2_with (go_at_call 93; refine (label_any _ _ hxs).mono ?_; rintro e w5 ⟨rfl, HB5⟩)
          go_ret3
          exact RetV.of (f := vSplit) _ HE.out rfl (HB4.trans (HB5.mono HB4.size))
      · have HR2 := Lib.hid (show hostSplit s.data.toList = if 64 < nm.length then .error 4 else if p < 1 ∨ 65535 < p then .error 2 else .ok (lower nm, p) by
          have := HA.out
          rw [List.take_of_length_le (by omega)] at this
          rw [HR.out, this, if_neg (by simp)])
        by_cases h64 : 64 < nm.length
        · have HE := Lib.hid (show hostSplit s.data.toList = .error 4 by rw [HR2.out, if_pos h64])
          go_wp2_with (fail)
          go_ret3
          exact RetV.of (f := vSplit) _ HE.out rfl HB4
        by_cases hp1 : p < 1
        · have HE := Lib.hid (show hostSplit s.data.toList = .error 2 by rw [HR2.out, if_neg h64, if_pos (Or.inl hp1)])
          have hp1' : decide (p < 1) = true := by simp; omega
          go_wp2_with (fail)
          go_ret3
          exact RetV.of (f := vSplit) _ HE.out rfl HB4
        have hp1' : decide (p < 1) = false := by simp; omega
        by_cases hp2 : 65535 < p
        · have HE := Lib.hid (show hostSplit s.data.toList = .error 2 by rw [HR2.out, if_neg h64, if_pos (Or.inr hp2)])
          have hp2' : decide (65535 < p) = true := by simp; omega
          go_wp2_with (fail)
          go_ret3
          exact RetV.of (f := vSplit) _ HE.out rfl HB4
        have hp2' : decide (65535 < p) = false := by simp; omega
        have HE := Lib.hid (show hostSplit s.data.toList = .ok (lower nm, p) by rw [HR2.out, if_neg h64, if_neg (by omega)])
        go_wp2_with (go_at_call 94; refine (lower_tok _ _ (by rw [size_mk]; omega)).mono ?_; rintro e w5 ⟨rfl, HB5⟩)
        go_ret3
        exact RetV.of (f := vSplit) _ HE.out rfl (HB4.trans (HB5.mono HB4.size))
end Go.Proofs.YteigjobliflkdaaGreatDoor
/- Walks: strconv.AppendInt at base 10 onto a slice that has no room. -/
namespace Go.Proofs.YteigjobliflkdaaGreatDoor
open Go.RowKit

theorem info5 : (Tryz.prog.info? 5).map (fun i => (i.zero, i.size, i.bytes)) = some (some (.int .u8 0), 1, 1) := by kernel_rfl

/-- 'append(b, text...)' where b has no room: a new row. -/
theorem wpGrowStr {ops : Array Oper} {rest : List Oper} {o : Oper} {a : Act} {Q : Exit → Act → World → Prop} {w : World} (hgd : o.guard = none) (sl x : Operand)
    (ho : o.op = .call { callee := .builtin .append, args := #[sl, x], argTypes := #[75, 9] })
    {b : Addr} {n cap : Nat} {olds : List Value} (hlo : olds.length = n) (holds : ∀ j v, olds[j]? = some v → w.cell? (b.add j) = some v) (s : ByteArray)
    (hs : a.eval sl = .slice (some b) n cap) (hx : a.eval x = .string s) (hg : cap < n + s.size) (hsz : n + s.size ≤ 100000)
    (h : ∀ v' w', w'.ownsRow w.heap.size 5 1 v' (n + s.size) (olds ++ Lib.strCells s) → Below w.heap.size w w' → wpList Tryz.prog ops Q rest (a.put o.dst v') w') :
    wpList Tryz.prog ops Q (o :: rest) a w := by
  obtain ⟨i0, hi, hz0, hz1, hz2⟩ := info_parts info5
  refine wpList_plain hgd fun K hK => ?_
  have hr := Lib.run_append_grow_string (P := Tryz.prog) w 75 9 o.type 5 i0 (.int .u8 0) Tryz.underlying75 Tryz.underlying9 hi hz0 b n cap olds (by rw [hz1]; omega) holds s hg (by omega) (growslice_fits hg (by rw [hz2]; omega))
  have hge := grownCap_ge w (n + s.size) cap 5
  have hcm : grownCap w (n + s.size) cap 5 ≤ maxLen := grownCap_le_maxLen w (n + s.size) cap 5 (by unfold maxLen; omega)
  unfold Oper.wp execOp
  simp only [ho, resolve, invoke, builtin, Sem.run_bind, Sem.run_pure, Result.andThen_ok, List.map_toArray, List.map_cons, List.map_nil, hs, hx, hr]
  refine hK _ _ (h _ _ ⟨by simp [hlo, Lib.strCells_length], .inr ⟨w.heap.size, _, _, rfl, Nat.le_refl _, heap_alloc_new w.drew _, hge, hcm, ?_, ?_⟩⟩ (((Below.refl _ _).drew).alloc (Nat.le_refl _) _))
  · simp only [Array.size_append, List.size_toArray, size_zeroCells, hlo, Lib.strCells_length]
    simp [Value.cells]; omega
  · simp only [Array.toList_append, List.append_assoc]
    rw [← List.append_assoc, List.take_append_of_le_length (by simp [hlo, Lib.strCells_length]), List.take_of_length_le (by simp [hlo, Lib.strCells_length])]

/-- internal/strconv.AppendUint at base 10 onto a slice without room. -/
theorem small_any (u : Nat) (hu : u < 100) (w : World) : Calls Tryz.prog 212 #[.int .i64 u] w fun e w' => e = .returned (.string ⟨(Lib.decDigits u).toArray⟩) ∧ w' = w :=
  Any.internal_strconv_small { Tryz.laysM176 with } u hu w

set_option maxRecDepth 100000 in
set_option maxHeartbeats 1600000 in
theorem appUint_small (b n u : Nat) (hu : u < 100) (hn : n ≤ 60000) (olds : List Value) (hlo : olds.length = n) (w : World) (holds : ∀ j v, olds[j]? = some v → w.cell? ((⟨b, 0, none⟩ : Addr).add j) = some v) :
    Calls Tryz.prog 211 #[.slice (some ⟨b, 0, none⟩) n n, .int .u64 u, .int .i64 10] w fun e w' => ∃ v', e = .returned v' ∧ w'.ownsRow w.heap.size 5 1 v' (n + (Lib.decDigits u).length) (olds ++ Lib.byteCells (Lib.decDigits u)) ∧ Below w.heap.size w w' := by
  have hl1 : 1 ≤ (Lib.decDigits u).length := by rw [Lib.decDigits_length]; exact Lib.nDigits_pos u
  have hl2 : (Lib.decDigits u).length ≤ 20 := by
    rw [Lib.decDigits_length]
    by_cases h10 : u < 10
    · rw [Lib.nDigits_small h10]; omega
    · rw [Lib.nDigits_big h10, Lib.nDigits_small (show u / 10 < 10 by omega)]; omega
  have hsz : (⟨(Lib.decDigits u).toArray⟩ : ByteArray).size = (Lib.decDigits u).length := by simp [ByteArray.size]
  have HO := Lib.hid holds
  have HL := Lib.hid hlo
  clear holds hlo
  go_enter Tryz.func211, Tryz.ntmps211
  go_wp2_with (first
    | (go_at_call 212; refine (small_any u hu _).mono ?_; rintro e w' ⟨rfl, rfl⟩)
    | (at_builtin; refine wpGrowStr rfl _ _ rfl HL.out HO.out ⟨(Lib.decDigits u).toArray⟩ rfl rfl (by rw [hsz]; omega) (by rw [hsz]; omega) ?_))
  intro v' w1 hown' HB
  go_wp2
  go_ret
  exact ⟨v', rfl, hown', HB⟩

open Go.Sort Go.Lib in
set_option maxHeartbeats 12800000 in
set_option maxRecDepth 100000 in
theorem appUint_big (b n u : Nat) (hu : 100 ≤ u) (hu2 : u ≤ 65535) (hn : n ≤ 60000) (olds : List Value) (hlo : olds.length = n) (w : World) (hG : Good w) (hb : b < w.heap.size) (holds : ∀ j v, olds[j]? = some v → w.cell? ((⟨b, 0, none⟩ : Addr).add j) = some v) :
    Calls Tryz.prog 211 #[.slice (some ⟨b, 0, none⟩) n n, .int .u64 u, .int .i64 10] w fun e w' => ∃ v', e = .returned v' ∧ w'.ownsRow w.heap.size 5 1 v' (n + (Lib.decDigits u).length) (olds ++ Lib.byteCells (Lib.decDigits u)) ∧ Below w.heap.size w w' := by
  have htab := hG.pow
  obtain ⟨i0, hi, hz0, hz1, hz2⟩ := info_parts info5
  have hu64 : u < 18446744073709551616 := by omega
  have hu1 : 1 ≤ u := by omega
  have hnd1 := Lib.nDigits_pos u
  have hnd20 : Lib.nDigits u ≤ 20 := by have := Lib.numDigits_eq u hu1 hu64; split at this <;> omega
  have hal : Tryz.prog.arrayLen 196 = 24 := by simp [Program.arrayLen, Tryz.underlying196]
  have hsl : ∀ W, (Instr.sliceAt 196 (.pointer (some ⟨w.heap.size, 0, none⟩)) none (some (.int .i64 (Lib.nDigits u : Int))) none).run Tryz.prog W = .ok (.slice (some ⟨w.heap.size, 0, none⟩) (Lib.nDigits u) 24) W := fun W => by
    rw [run_sliceAt_array_h W 196 ⟨w.heap.size, 0, none⟩ (by simp [Program.arrayLen, Program.elem, Tryz.underlying196]) .i64 (Lib.nDigits u : Int) (by omega) (by rw [hal]; omega)]
    go_simp
  have hH0 := Lib.holds_zero0 w 196 (Lib.nDigits u) (by omega)
  have hfmt := Any.internal_strconv_formatBase10 (ρ := Tryz.laysM176_ren) { Tryz.laysM176 with } w.heap.size 0 24 u (Array.replicate (Lib.nDigits u) 0) (w.alloc (.cells Lib.zeros24 196)) hH0 (by rw [Array.size_replicate]; exact Lib.lt_pow_nDigits u) hu64 (by rw [Array.size_replicate]; omega)
  rw [Array.size_replicate] at hfmt
  have hnum := Any.internal_strconv_numDigits (ρ := Tryz.laysM176_ren) { Tryz.laysM176 with } u hu1 hu64 (w.alloc (.cells Lib.zeros24 196)) (Lib.tabIs_alloc htab _)
  have HH0 := Lib.hid hH0
  have iu : (100 : Int) ≤ (u : Int) := by omega
  have HF0 := Lib.hid hfmt
  have HN0 := Lib.hid hnum
  have HO := Lib.hid holds
  have HLO := Lib.hid hlo
  clear hH0 hal hfmt hnum htab holds hlo
  go_enter Tryz.func211, Tryz.ntmps211
  go_wp2_with (first
    | (go_at_call 213; refine (HN0.out).mono ?_; rintro e w' ⟨rfl, rfl⟩))
  go_at_call 214
  refine (HF0.out).mono ?_
  rintro e w' ⟨rfl, k, v', dk, rfl, hF⟩
  have hcells : ∀ j u', (Lib.byteCells (Lib.decDigits u))[j]? = some u' → ((putRow (fun (b : UInt8) => Value.int .u8 (b.toNat : Int)) (w.alloc (.cells Lib.zeros24 196)) w.heap.size 0 dk).drewN k).cell? ((⟨w.heap.size, 0, none⟩ : Addr).add j) = some u' := by
    intro j u' hj
    have hjl : j < (Lib.decDigits u).length := by
      have h5 := (List.getElem?_eq_some_iff.1 hj).1
      rwa [Lib.byteCells_length] at h5
    have e5 : (Lib.byteCells (Lib.decDigits u))[j]? = some (Value.int .u8 ((Lib.decDigits u)[j].toNat : Int)) := by simp [Lib.byteCells, hjl]
    rw [e5] at hj
    cases hj
    rw [Lib.row_is_numeral hF j hjl, Lib.add_plain, World.cell?_drewN]
    exact cell?_putRow (fun (b : UInt8) => Value.int .u8 (b.toNat : Int)) _ w.heap.size 0 _ dk HH0.out (by rw [hF.size, Array.size_replicate]) j (by rw [hF.size]; rw [Lib.decDigits_length] at hjl; exact hjl)
  obtain ⟨os, eo⟩ := Lib.fin_at w (.cells Lib.zeros24 196) dk k 0
  have hnx2 : Below w.heap.size w ((putRow (fun (b : UInt8) => Value.int .u8 (b.toNat : Int)) (w.alloc (.cells Lib.zeros24 196)) w.heap.size 0 dk).drewN k) := by rw [eo]; exact Lib.below_grow w.heap.size w (Nat.le_refl _) k os
  generalize (putRow (fun (b : UInt8) => Value.int .u8 (b.toNat : Int)) (w.alloc (.cells Lib.zeros24 196)) w.heap.size 0 dk).drewN k = W2 at hcells hnx2 ⊢
  have HC := Lib.hid hcells
  have hold : ∀ b', some (⟨b, 0, none⟩ : Addr) = some b' → ∀ j u, olds[j]? = some u → W2.cell? (b'.add j) = some u := by
    intro b' e j u hj
    cases e
    rw [hnx2.cell (by rw [Lib.add_plain]; exact hb)]
    exact HO.out j u hj
  have HOL := Lib.hid hold
  clear eo HH0 HF0 HN0 hcells hold hF
  go_wp2_with (at_builtin; refine wpList_append_grows _ rfl _ _ 75 rfl 5 i0 (.int .u8 0) 1 1 Tryz.underlying75 hi hz0 hz1 hz2 rfl (by decide) (some ⟨b, 0, none⟩) n n olds rfl (by intro h; cases h) (by rw [HLO.out]; omega) HOL.out ⟨w.heap.size, 0, none⟩ (Lib.nDigits u) 24 (Lib.byteCells (Lib.decDigits u)) rfl ?c0 HC.out ?c2 ?c6 ?c3 ?c4 ?_)
  case c0 => rw [Lib.byteCells_length, Lib.decDigits_length, Nat.mul_one]
  case c2 => intro u' hu'; simp only [Lib.byteCells, List.mem_map] at hu'; obtain ⟨b, _, rfl⟩ := hu'; rfl
  case c6 => omega
  case c3 => unfold maxLen; omega
  case c4 => omega
  intro v2 w3 hown' hgrow
  go_wp2
  go_ret
  refine ⟨v2, rfl, ?_, hnx2.grown hgrow hnx2.size (fun k hk => by cases hk)⟩
  rw [Lib.decDigits_length]
  exact own_mono hown' hnx2.size

/-- strconv.AppendInt at base 10 onto a slice without room. -/
theorem appInt_any (b n u : Nat) (hu2 : u ≤ 65535) (hn : n ≤ 60000) (olds : List Value) (hlo : olds.length = n) (w : World) (hG : Good w) (hb : b < w.heap.size) (holds : ∀ j v, olds[j]? = some v → w.cell? ((⟨b, 0, none⟩ : Addr).add j) = some v) :
    Calls Tryz.prog 139 #[.slice (some ⟨b, 0, none⟩) n n, .int .i64 u, .int .i64 10] w fun e w' => ∃ v', e = .returned v' ∧ w'.ownsRow w.heap.size 5 1 v' (n + (Lib.itoa u).length) (olds ++ Lib.byteCells (Lib.itoa u)) ∧ Below w.heap.size w w' := by
  have H : Calls Tryz.prog 211 #[.slice (some ⟨b, 0, none⟩) n n, .int .u64 u, .int .i64 10] w fun e w' => ∃ v', e = .returned v' ∧ w'.ownsRow w.heap.size 5 1 v' (n + (Lib.decDigits u).length) (olds ++ Lib.byteCells (Lib.decDigits u)) ∧ Below w.heap.size w w' := by
    by_cases h : u < 100
    · exact appUint_small b n u h hn olds hlo w holds
    · exact appUint_big b n u (by omega) hu2 hn olds hlo w hG hb holds
  rw [← Lib.itoa_nonneg] at H
  have HH := Lib.hid H
  have H2 : Calls Tryz.prog 185 #[.slice (some ⟨b, 0, none⟩) n n, .int .i64 u, .int .i64 10] w fun e w' => ∃ v', e = .returned v' ∧ w'.ownsRow w.heap.size 5 1 v' (n + (Lib.itoa u).length) (olds ++ Lib.byteCells (Lib.itoa u)) ∧ Below w.heap.size w w' := by
    clear H holds hlo
    go_enter Tryz.func185, Tryz.ntmps185
    go_wp2_with fail
    refine (HH.out).mono ?_
    rintro e w1 ⟨v', rfl, hown, HB⟩
    go_wp2_with fail
    go_ret
    exact ⟨v', rfl, hown, HB⟩
  have HH2 := Lib.hid H2
  clear H H2 holds hlo HH
  go_enter Tryz.func139, Tryz.ntmps139
  go_wp2_with fail
  refine (HH2.out).mono ?_
  rintro e w1 ⟨v', rfl, hown, HB⟩
  go_wp2_with fail
  go_ret
  exact ⟨v', rfl, hown, HB⟩
end Go.Proofs.YteigjobliflkdaaGreatDoor
/- Walk: host.write. -/
namespace Go.Proofs.YteigjobliflkdaaGreatDoor
open Go.RowKit

/-- A slice whose cells hold the bytes l. -/
def BytesAt (w : World) (v : Value) (l : List UInt8) : Prop :=
  ∃ g cap, v = .slice (some ⟨g, 0, none⟩) l.length cap ∧ l.length ≤ cap ∧ g < w.heap.size ∧ ∀ j u, (Lib.byteCells l)[j]? = some u → w.cell? ((⟨g, 0, none⟩ : Addr).add j) = some u

theorem BytesAt.of_own {w : World} {B : Nat} {v : Value} {l : List UInt8} (h : w.ownsRow B 5 1 v l.length (Lib.byteCells l)) (hl : l ≠ []) : BytesAt w v l := by
  have h2 := h.2
  rcases h2 with ⟨_, h0⟩ | ⟨g, cap, cur, rfl, _, hg, hc, _⟩
  · exact absurd (List.length_eq_zero_iff.1 h0) hl
  · exact ⟨g, cap, rfl, hc, (Array.getElem?_eq_some_iff.1 hg).1, h.cells rfl⟩
theorem BytesAt.back {w : World} {l : List UInt8} {g n cap : Nat} (h : ∀ j u, (Lib.byteCells l)[j]? = some u → w.cell? ((⟨g, 0, none⟩ : Addr).add j) = some u) (hn : n = l.length) :
    (convert 75 9 (.slice (some ⟨g, 0, none⟩) n cap)).run Tryz.prog w = .ok (.string ⟨l.toArray⟩) w := by
  subst hn
  refine run_convert_bytes_back w 75 9 5 ⟨g, 0, none⟩ cap l Tryz.underlying75 Tryz.underlying5 Tryz.underlying9 fun j hj => ?_
  exact h j _ (by simp [Lib.byteCells, hj])

set_option maxRecDepth 100000 in
set_option maxHeartbeats 1600000 in
theorem write_any (s : ByteArray) (p : Int) (w : World) (hG : Good w) (hs : s.size ≤ 50000) (h1 : 1 ≤ p) (h2 : p ≤ 65535) :
    Calls Tryz.prog 98 #[.string s, .int .i64 p] w (RetV (S (hostWrite s.data.toList p)) w) := by
  obtain ⟨n, rfl⟩ := Int.eq_ofNat_of_zero_le (show 0 ≤ p by omega)
  by_cases h80 : (n : Int) = 80
  · have hb : ((n : Int) == 80) = true := by simp; omega
    have HE := Lib.hid (show hostWrite s.data.toList n = s.data.toList by unfold hostWrite; rw [if_pos h80])
    clear h80
    go_enter Tryz.func98, Tryz.ntmps98
    go_wp2_with fail
    go_ret
    exact RetV.of (f := S) _ HE.out (S_of s) (Below.refl _ _)
  have hb : ((n : Int) == 80) = false := by simp; omega
  have HE := Lib.hid (show hostWrite s.data.toList n = s.data.toList ++ 58 :: Lib.itoa n by unfold hostWrite; rw [if_neg h80])
  clear h80
  have hcv := conv_bytes w s
  have HR := Lib.hid (BRow.of_bytes w s)
  have HB := bytes_below w s
  have hcap := bytes_cap w s
  have hz : (Lib.bytesWorld w 5 s).heap.size = w.heap.size + 1 := Lib.bytesWorld_size w 5 s
  rw [hcap] at HR
  have hge := grownCap_ge w s.size 0 5
  generalize grownCap w s.size 0 5 = cap at HR hcv hge
  generalize Lib.bytesWorld w 5 s = W1 at hcv HR HB hz
  have HZ := Lib.hid hz
  clear hcap hz
  obtain ⟨i0, hi, hz0, hz1, hz2⟩ := info_parts info5
  go_enter Tryz.func98, Tryz.ntmps98
  go_upto_region 3 with fail
  go_cut [5] (fun b wx => BytesAt wx b (s.data.toList ++ [58]) ∧ Below w.heap.size w wx)
  case first =>
    have hlt : w.heap.size < W1.heap.size := by have := HZ.out; omega
    have c1 : ∀ j, j < s.size → (W1.alloc (.cells #[.int .u8 58] 5)).cell? ⟨w.heap.size, j, none⟩ = some (.int .u8 (s.data.toList[j]?.getD 0).toNat) := fun j hj => by
      rw [World.cell?_alloc_past _ _ _ hlt]; exact HR.out.cell j (by rw [size_len]; exact hj)
    have hold : ∀ j u, (Lib.byteCells s.data.toList)[j]? = some u → (W1.alloc (.cells #[.int .u8 58] 5)).cell? ⟨w.heap.size, 0 + j, none⟩ = some u := fun j u hj => by
      have hjl : j < s.data.toList.length := by have := (List.getElem?_eq_some_iff.1 hj).1; rwa [Lib.byteCells_length] at this
      rw [Nat.zero_add, c1 j (by rw [← size_len]; exact hjl), ← hj]
      simp only [Lib.byteCells, List.getElem?_map, List.getElem?_eq_getElem hjl, Option.map_some, Option.getD_some]
    have hsp : s.size + 1 ≤ cap → ∀ j, j < [Value.int .u8 58].length → ((W1.alloc (.cells #[.int .u8 58] 5)).cell? ⟨w.heap.size, 0 + s.size * 1 + j, none⟩).isSome = true ∧ (W1.alloc (.cells #[.int .u8 58] 5)).frozen? ⟨w.heap.size, 0 + s.size * 1 + j, none⟩ = false := fun hc j hj => by
      have hj0 : j = 0 := by simpa using hj
      subst hj0
      obtain ⟨cs, hb', hcs, _, _⟩ := HR.out
      have hh : (W1.alloc (.cells #[.int .u8 58] 5)).heap[w.heap.size]? = some (.cells cs 5 (cap, cap + 1)) := by rw [Below.heap_alloc _ _ _ hlt]; exact hb'
      constructor
      · rw [cell_of_row _ _ _ cs 5 _ hh, Array.getElem?_eq_getElem (by omega)]; rfl
      · unfold World.frozen?
        simp only [hh]
        simp; omega
    have HOld := Lib.hid hold
    have HSp := Lib.hid hsp
    have HC1 := Lib.hid c1
    have hBW : Below w.heap.size w (W1.alloc (.cells #[.int .u8 58] 5)) := HB.alloc HB.size _
    have hlt2 : w.heap.size < (W1.alloc (.cells #[.int .u8 58] 5)).heap.size := by simp; omega
    have hnew := cell_one_new W1 (.int .u8 58) 5
    have HNew := Lib.hid hnew
    clear hold hsp c1 hnew
    have K1 : ∀ W, W = W1.alloc (.cells #[.int .u8 58] 5) → s.size + 1 ≤ cap → BytesAt (W.setCells w.heap.size (0 + s.size * 1) [.int .u8 58]) (.slice (some ⟨w.heap.size, 0, none⟩) (s.size + 1) cap) (s.data.toList ++ [58]) ∧ Below w.heap.size w (W.setCells w.heap.size (0 + s.size * 1) [.int .u8 58]) := by
      rintro W rfl hc
      refine ⟨⟨w.heap.size, cap, by simp, by simpa using hc, by simpa [World.setCells, World.setCell] using hlt2, fun j u hj => ?_⟩, ?_⟩
      · have hjl : j < s.size + 1 := by
          have := (List.getElem?_eq_some_iff.1 hj).1
          rw [Lib.byteCells_length] at this
          simpa using this
        rw [show (⟨w.heap.size, 0, none⟩ : Addr).add j = ⟨w.heap.size, j, none⟩ by rw [Lib.add_plain, Nat.zero_add]]
        by_cases hjn : j < s.size
        · rw [World.cell?_setCells_out _ _ _ _ _ (fun _ _ => Or.inl (by show j < 0 + s.size * 1; omega)), HC1.out j hjn, ← hj]
          have h5 : j < s.data.toList.length := by rw [size_len]; exact hjn
          simp only [Lib.byteCells, List.map_append, List.getElem?_append, List.length_map, if_pos h5, List.getElem?_map, List.getElem?_eq_getElem h5, Option.map_some, Option.getD_some]
        · have e : j = s.size := by omega
          subst e
          obtain ⟨o, ho⟩ := Option.isSome_iff_exists.1 (HSp.out hc 0 (by simp)).1
          have hu : u = .int .u8 58 := by
            simp [Lib.byteCells] at hj
            exact hj.symm
          subst hu
          simp only [World.setCells]
          simp only [Nat.zero_add, Nat.mul_one, Nat.add_zero] at ho ⊢
          exact World.cell?_setCell_same _ _ _ ho
      · simpa [World.setCells] using hBW.setCell (p := ⟨w.heap.size, s.size, none⟩) (Nat.le_refl _) (.int .u8 58)
    have HK1 := Lib.hid (K1 _ rfl)
    clear K1
    go_wp2_with (at_builtin; refine wpList_append_arg _ rfl _ _ 75 rfl 5 i0 (.int .u8 0) 1 1 Tryz.underlying75 hi hz0 hz1 hz2 rfl (by decide) w.heap.size 0 s.size cap (Lib.byteCells s.data.toList) rfl ?c1 HOld.out ⟨W1.heap.size, 0, none⟩ 1 1 [.int .u8 58] rfl rfl HNew.out ?c2 HSp.out ?c3 ?c4 ?c5 ?c6)
    case c1 => rw [Lib.byteCells_length, size_len, Nat.mul_one]
    case c2 => intro u hu; simp at hu; subst hu; rfl
    case c3 => unfold maxLen; omega
    case c4 => omega
    case c5 =>
      intro hc
      go_wp2_with fail
      go_meet
      have := HK1.out hc
      simpa using this
    case c6 =>
      intro hc v' w' hown hg
      have hBB := hBW.grown hg hBW.size (fun k hk => by cases hk)
      go_wp2_with fail
      go_meet
      refine ⟨BytesAt.of_own (B := W1.heap.size + 1) (by simpa [Lib.byteCells] using hown) (by simp), hBB⟩
  case rest =>
    obtain ⟨⟨g, cap2, hv, hle, hgw, hcells⟩, HB2⟩ := hcut
    have hlen : (s.data.toList ++ [58]).length = s.size + 1 := by simp
    rw [hlen] at hv hle
    have HLen := Lib.hid hlen
    subst hv
    have HC := Lib.hid hcells
    have hG2 := hG.next HB2
    clear hcells hlen hcv
    go_wp2_with fail
    refine (appInt_any g (s.size + 1) n (by omega) (by omega) (Lib.byteCells (s.data.toList ++ [58])) (by rw [Lib.byteCells_length, HLen.out]) _ hG2 hgw HC.out).mono ?_
    rintro e w3 ⟨v', rfl, hown, HB3⟩
    have hne : s.data.toList ++ [58] ++ Lib.itoa (n : Int) ≠ [] := by simp
    rw [show Lib.byteCells (s.data.toList ++ [58]) ++ Lib.byteCells (Lib.itoa (n : Int)) = Lib.byteCells (s.data.toList ++ [58] ++ Lib.itoa (n : Int)) by simp [Lib.byteCells]] at hown
    rw [show s.size + 1 + (Lib.itoa (n : Int)).length = (s.data.toList ++ [58] ++ Lib.itoa (n : Int)).length by simp; omega] at hown
    obtain ⟨g3, cap3, hv3, hle3, hgw3, hc3⟩ := BytesAt.of_own hown hne
    subst hv3
    have hback := BytesAt.back (cap := cap3) hc3 rfl
    have HE2 := Lib.hid (show hostWrite s.data.toList n = s.data.toList ++ [58] ++ Lib.itoa (n : Int) by rw [HE.out]; simp)
    clear hc3 hown hne
    generalize s.data.toList ++ [58] ++ Lib.itoa (n : Int) = r at hback HE2
    go_wp2_with fail
    go_ret
    exact RetV.of (f := S) _ HE2.out rfl (HB2.trans (HB3.mono HB2.size))
end Go.Proofs.YteigjobliflkdaaGreatDoor
/- Walks: host.Normal, host.Is. -/
namespace Go.Proofs.YteigjobliflkdaaGreatDoor
open Go.RowKit

theorem split_ok {s : ByteArray} {n : List UInt8} {p : Int} (h : hostSplit s.data.toList = .ok (n, p)) (w : World) (hG : Good w) (hs : s.size ≤ 60000) :
    Calls Tryz.prog 26 #[.string s] w fun e w' => e = .returned (.tuple #[.string ⟨n.toArray⟩, .int .i64 p, .int .i64 0]) ∧ Below w.heap.size w w' := by
  have := split_any s w hG hs; rw [h] at this; exact this
theorem split_err {s : ByteArray} {x : Int} (h : hostSplit s.data.toList = .error x) (w : World) (hG : Good w) (hs : s.size ≤ 60000) :
    Calls Tryz.prog 26 #[.string s] w fun e w' => e = .returned (.tuple #[.string ⟨#[]⟩, .int .i64 0, .int .i64 x]) ∧ Below w.heap.size w w' := by
  have := split_any s w hG hs; rw [h] at this; exact this
theorem write_any' {n : List UInt8} {p : Int} (w : World) (hG : Good w) (hs : n.length ≤ 50000) (h1 : 1 ≤ p) (h2 : p ≤ 65535) :
    Calls Tryz.prog 98 #[.string ⟨n.toArray⟩, .int .i64 p] w fun e w' => e = .returned (.string ⟨(hostWrite n p).toArray⟩) ∧ Below w.heap.size w w' := by
  have := write_any ⟨n.toArray⟩ p w hG (by rw [size_mk]; exact hs) h1 h2
  exact this

set_option maxRecDepth 100000 in
set_option maxHeartbeats 800000 in
theorem normal_any (s : ByteArray) (w : World) (hG : Good w) (hs : s.size ≤ 60000) :
    Calls Tryz.prog 28 #[.string s] w (RetV (vStr (hostNormal s.data.toList)) w) := by
  cases hh : hostSplit s.data.toList with
  | error x =>
    have hx := (err_ne hh).1
    have HE := Lib.hid (show hostNormal s.data.toList = .error x by unfold hostNormal; rw [hh])
    have HH := Lib.hid hh
    clear hh
    go_enter Tryz.func28, Tryz.ntmps28
    go_wp2_with (go_at_call 26; refine (split_err HH.out _ hG hs).mono ?_; rintro e w1 ⟨rfl, HB⟩)
    go_ret2
    exact RetV.of (f := vStr) _ HE.out rfl HB
  | ok r =>
    obtain ⟨n, p⟩ := r
    have hk := hostSplit_ok hh
    have HN := Lib.hid (WrittenNormal hh)
    have HH := Lib.hid hh
    obtain ⟨hp1, hp2, hn1, hn2, hn3⟩ := hk
    clear hh hn3
    rw [HN.out]
    by_cases h64 : 64 < (hostWrite n p).length
    · have HE := Lib.hid (show hostWritten n p = .error 4 by unfold hostWritten; rw [if_pos h64])
      have hd : decide (64 < ((hostWrite n p).length : Int)) = true := by simp; omega
      go_enter Tryz.func28, Tryz.ntmps28
      go_wp2_with fail
      refine (split_ok HH.out _ hG hs).mono ?_
      rintro e w1 ⟨rfl, HB⟩
      go_wp2_with fail
      refine (write_any' _ (hG.next HB) (by omega) hp1 hp2).mono ?_
      rintro e w2 ⟨rfl, HB2⟩
      go_wp2_with fail
      go_ret2
      exact RetV.of (f := vStr) _ HE.out rfl (HB.trans (HB2.mono HB.size))
    · have HE := Lib.hid (show hostWritten n p = .ok (hostWrite n p) by unfold hostWritten; rw [if_neg h64])
      have hd : decide (64 < ((hostWrite n p).length : Int)) = false := by simp; omega
      go_enter Tryz.func28, Tryz.ntmps28
      go_wp2_with fail
      refine (split_ok HH.out _ hG hs).mono ?_
      rintro e w1 ⟨rfl, HB⟩
      go_wp2_with fail
      refine (write_any' _ (hG.next HB) (by omega) hp1 hp2).mono ?_
      rintro e w2 ⟨rfl, HB2⟩
      go_wp2_with fail
      go_ret2
      exact RetV.of (f := vStr) _ HE.out rfl (HB.trans (HB2.mono HB.size))

theorem is_any (s : ByteArray) (w : World) (hG : Good w) (hs : s.size ≤ 60000) :
    Calls Tryz.prog 30 #[.string s] w (RetV (.bool (hostIs s.data.toList)) w) := by
  cases hh : hostNormal s.data.toList with
  | error x =>
    have hx := (errn_ne hh).2
    have HE := Lib.hid (show hostIs s.data.toList = false by unfold hostIs; rw [hh])
    have HH := Lib.hid hh
    clear hh
    go_enter Tryz.func30, Tryz.ntmps30
    go_wp2_with (go_at_call 28; refine (strErr (normal_any s _ hG hs) HH.out).mono ?_; rintro e w1 ⟨rfl, HB⟩)
    go_ret
    exact RetV.of (f := Value.bool) _ HE.out rfl HB
  | ok n =>
    have HE := Lib.hid (show hostIs s.data.toList = (n == s.data.toList) by unfold hostIs; rw [hh])
    have HH := Lib.hid hh
    clear hh
    go_enter Tryz.func30, Tryz.ntmps30
    go_wp2_with (go_at_call 28; refine (strOk (normal_any s _ hG hs) HH.out).mono ?_; rintro e w1 ⟨rfl, HB⟩)
    go_ret
    exact RetV.of (f := Value.bool) _ HE.out (congrArg (fun l => Value.bool (n == l)) (Lib.toList_data s)) HB
end Go.Proofs.YteigjobliflkdaaGreatDoor
/- Walk: host.split, at one and at two hosts. -/
namespace Go.Proofs.YteigjobliflkdaaGreatDoor
open Go.RowKit

theorem info80 : (Tryz.prog.info? 80).map (fun i => (i.zero, i.size, i.bytes)) = some (some (.agg #[.string ByteArray.empty, .int .i64 0]), 2, 24) := by kernel_rfl

/-- The cells of places. -/
def placeCells (D : List (List UInt8 × Int)) : List Value := D.flatMap fun x => [S x.1, .int .i64 x.2]
theorem placeCells_length (D : List (List UInt8 × Int)) : (placeCells D).length = D.length * 2 := by
  induction D with
  | nil => rfl
  | cons a D ih => simp only [placeCells, List.flatMap_cons, List.length_append, List.length_cons, List.length_nil] at ih ⊢; omega
theorem placeCells_snoc (D : List (List UInt8 × Int)) (x : List UInt8 × Int) : placeCells (D ++ [x]) = placeCells D ++ [S x.1, .int .i64 x.2] := by simp [placeCells]

/-- 'append(v, place{..})' on a slice of places of the call's own. -/
theorem wpApp80 {ops : Array Oper} {rest : List Oper} {o : Oper} {a : Act} {Q : Exit → Act → World → Prop} (hgd : o.guard = none) (s x : Operand)
    (ho : o.op = .call { callee := .builtin .append, args := #[s, x], argTypes := #[76, 76] })
    {B0 B : Nat} {w0 wr : World} {v : Value} {n : Nat} {xs : List Value} {t1 : ByteArray} {t2 : Int} (hown : wr.ownsRow B 80 2 v n xs) (hB : Below B0 w0 wr) (hs : a.eval s = v)
    (hx : a.eval x = .slice (some ⟨wr.heap.size, 0, none⟩) 1 1) (hn : n ≤ 100000) (h0 : B0 ≤ B) (hle : B ≤ wr.heap.size)
    (h : ∀ v' w', w'.ownsRow B 80 2 v' (n + 1) (xs ++ [.string t1, .int .i64 t2]) → Below B0 w0 w' → wpList Tryz.prog ops Q rest (a.put o.dst v') w') :
    wpList Tryz.prog ops Q (o :: rest) a (wr.alloc (.cells #[.string t1, .int .i64 t2] 80)) := by
  obtain ⟨i0, hi, hz0, hz1, hz2⟩ := info_parts info80
  refine wpList_append_own _ hgd s x 76 ho B 80 i0 (.agg #[.string ByteArray.empty, .int .i64 0]) 2 24 Tryz.underlying76 hi hz0 hz1 hz2 rfl (by decide) v n xs hs (hown.alloc _) ⟨wr.heap.size, 0, none⟩ 1 1 [.string t1, .int .i64 t2] hx rfl (cell_two_new _ _ _ _) (by simp [Value.oneCell']) (by unfold maxLen; omega) (by omega) (by simp; omega) ?_
  intro v' w' hown' hg _
  refine h v' w' hown' ((hB.alloc (by omega) _).grown hg (by simp; omega) fun k hk => ?_)
  have := (hown.lt k hk).1
  omega

/-- What split hands back of hosts: the first error, or the places. -/
def RetPlaces (xs : List ByteArray) (w : World) (e : Ending) (w' : World) : Prop :=
  (∃ (k : Nat) (x : Int), k < xs.length ∧ (∀ j, j < k → ∃ d, hostSplit (xs[j]?.getD ByteArray.empty).data.toList = .ok d) ∧ hostSplit (xs[k]?.getD ByteArray.empty).data.toList = .error x ∧ e = .returned (.tuple #[.slice none 0 0, .int .i64 x]) ∧ Below w.heap.size w w') ∨
  (∃ (D : List (List UInt8 × Int)) (v : Value), D.length = xs.length ∧ (∀ j, j < xs.length → hostSplit (xs[j]?.getD ByteArray.empty).data.toList = .ok (D[j]?.getD ([], 0))) ∧ e = .returned (.tuple #[v, .int .i64 0]) ∧ w'.ownsRow w.heap.size 80 2 v D.length (placeCells D) ∧ Below w.heap.size w w')

set_option maxRecDepth 100000 in
set_option maxHeartbeats 1600000 in
theorem splits_any (g : Nat) (xs : List ByteArray) (w : World) (hG : Good w) (hx : ∀ x ∈ xs, x.size ≤ 60000) (hlen : xs.length ≤ 100) (hg : g < w.heap.size)
    (hc : ∀ j, j < xs.length → w.cell? ⟨g, j, none⟩ = some (.string (xs[j]?.getD ByteArray.empty))) :
    Calls Tryz.prog 82 #[.slice (some ⟨g, 0, none⟩) xs.length xs.length] w (RetPlaces xs w) := by
  have HC := Lib.hid hc
  have HX := Lib.hid hx
  clear hc hx
  go_enter Tryz.func82, Tryz.ntmps82
  go_wp2_with fail
  go_loopw [4, 12] (fun v i wr => ∃ (k : Nat) (D : List (List UInt8 × Int)), k ≤ xs.length ∧ i = .int .i64 k ∧ D.length = k ∧ Hid (∀ j, j < k → hostSplit (xs[j]?.getD ByteArray.empty).data.toList = .ok (D[j]?.getD ([], 0))) ∧ wr.ownsRow w.heap.size 80 2 v D.length (placeCells D) ∧ Below w.heap.size w wr) (fun _ i _ => xs.length - (intOf i).toNat)
  case atStart => exact ⟨0, [], Nat.zero_le _, rfl, rfl, fun j hj => by omega, World.ownsRow_nil _ _ _ _, Below.refl _ _⟩
  case round =>
    obtain ⟨k, D, hk, rfl, hDk, HA, hown, HB⟩ := hrel
    have HDK := Lib.hid hDk
    clear hDk
    by_cases hlt : k < xs.length
    · have hcell := (HB.cell (p := ⟨g, k, none⟩) hg).trans (HC.out k hlt)
      have hxs := HX.out xs[k] (List.getElem_mem _)
      have HK := Lib.hid (show xs[k]?.getD ByteArray.empty = xs[k] by rw [List.getElem?_eq_getElem hlt]; rfl)
      rw [HK.out] at hcell
      generalize xs[k] = x at hcell hxs HK
      have hGr := hG.next HB
      cases hh : hostSplit x.data.toList with
      | error y =>
        have hy := (err_ne hh).1
        have HH := Lib.hid hh
        clear hh
        go_wp2_with fail
        refine (split_err HH.out _ hGr hxs).mono ?_
        rintro e w1 ⟨rfl, HB1⟩
        go_wp2_with fail
        go_ret2
        exact Or.inl ⟨k, y, hlt, fun j hj => ⟨_, HA.out j hj⟩, by rw [HK.out]; exact HH.out, rfl, HB.trans (HB1.mono HB.size)⟩
      | ok r =>
        obtain ⟨n, p⟩ := r
        have HH := Lib.hid hh
        have hn : n.length ≤ 64 := (hostSplit_ok hh).2.2.1
        clear hh
        go_wp2_with fail
        refine (split_ok HH.out _ hGr hxs).mono ?_
        rintro e w1 ⟨rfl, HB1⟩
        have hown1 := own_below hown HB1
        have HB2 := HB.trans (HB1.mono HB.size)
        have hsz := HB2.size
        have hDl := HDK.out
        have hDl2 : D.length ≤ 100 := by omega
        clear hDl
        go_wp2_with (at_builtin; refine wpApp80 rfl _ _ rfl hown1 HB2 rfl rfl (by omega) (by omega) (by omega) ?_)
        intro v' w2 hown2 HB3
        clear hown hown1 HB HB1 HB2
        go_wp2_with fail
        have HN := Lib.hid (show ∀ j, j < k + 1 → hostSplit (xs[j]?.getD ByteArray.empty).data.toList = .ok ((D ++ [(n, p)])[j]?.getD ([], 0)) by
          intro j hj
          by_cases e : j = k
          · subst e; rw [HK.out, HH.out, List.getElem?_append_right (by rw [HDK.out]; omega), HDK.out, Nat.sub_self]; rfl
          · rw [List.getElem?_append_left (by rw [HDK.out]; omega)]; exact HA.out j (by omega))
        refine ⟨⟨k + 1, D ++ [(n, p)], by omega, by go_num, by rw [List.length_append, HDK.out]; rfl, HN, ?_, HB3⟩, by (simp [intOf]; try omega)⟩
        rw [placeCells_snoc, List.length_append]
        exact hown2
    · have hkx : k = xs.length := by omega
      go_wp2_with fail
      go_ret2
      refine Or.inr ⟨D, _, by rw [HDK.out, hkx], ?_, rfl, hown, HB⟩
      rw [← hkx]; exact HA.out

theorem places_form {w : World} {B n : Nat} {v : Value} {xs : List Value} (h : w.ownsRow B 80 2 v n xs) (hn : 0 < n) : ∃ g cap, v = .slice (some ⟨g, 0, none⟩) n cap := by
  rcases h.2 with ⟨_, h0⟩ | ⟨g, cap, cur, rfl, _⟩
  · omega
  · exact ⟨g, cap, rfl⟩

/-- split of two hosts, both right. -/
theorem splits2_ok {g : Nat} {s t : ByteArray} {a b : List UInt8 × Int} (ha : hostSplit s.data.toList = .ok a) (hb : hostSplit t.data.toList = .ok b) (w : World) (hG : Good w) (hs : s.size ≤ 60000) (ht : t.size ≤ 60000) (hg : g < w.heap.size)
    (c0 : w.cell? ⟨g, 0, none⟩ = some (.string s)) (c1 : w.cell? ⟨g, 1, none⟩ = some (.string t)) :
    Calls Tryz.prog 82 #[.slice (some ⟨g, 0, none⟩) 2 2] w fun e w' => ∃ g' cap, e = .returned (.tuple #[.slice (some ⟨g', 0, none⟩) 2 cap, .int .i64 0]) ∧ w'.ownsRow w.heap.size 80 2 (.slice (some ⟨g', 0, none⟩) 2 cap) 2 [S a.1, .int .i64 a.2, S b.1, .int .i64 b.2] ∧ Below w.heap.size w w' := by
  refine (splits_any g [s, t] w hG (by simp; exact ⟨hs, ht⟩) (by simp) hg (fun j hj => ?_)).mono fun e w' h => ?_
  · match j, hj with
    | 0, _ => exact c0
    | 1, _ => exact c1
  · rcases h with ⟨k, x, hk, _, hx, _⟩ | ⟨D, v, hD, hh, rfl, hown, hB⟩
    · match k, hk with
      | 0, _ => simp [ha] at hx
      | 1, _ => simp [hb] at hx
    · match D, hD with
      | [d, f], _ =>
        have h0 := hh 0 (by simp); have h1 := hh 1 (by simp)
        simp [ha] at h0; simp [hb] at h1
        subst h0; subst h1
        obtain ⟨g', cap, rfl⟩ := places_form hown (by simp)
        exact ⟨g', cap, rfl, hown, hB⟩
theorem splits2_err1 {g : Nat} {s t : ByteArray} {x : Int} (ha : hostSplit s.data.toList = .error x) (w : World) (hG : Good w) (hs : s.size ≤ 60000) (ht : t.size ≤ 60000) (hg : g < w.heap.size)
    (c0 : w.cell? ⟨g, 0, none⟩ = some (.string s)) (c1 : w.cell? ⟨g, 1, none⟩ = some (.string t)) :
    Calls Tryz.prog 82 #[.slice (some ⟨g, 0, none⟩) 2 2] w fun e w' => e = .returned (.tuple #[.slice none 0 0, .int .i64 x]) ∧ Below w.heap.size w w' := by
  refine (splits_any g [s, t] w hG (by simp; exact ⟨hs, ht⟩) (by simp) hg (fun j hj => ?_)).mono fun e w' h => ?_
  · match j, hj with
    | 0, _ => exact c0
    | 1, _ => exact c1
  · rcases h with ⟨k, y, hk, hlt, hx, rfl, hB⟩ | ⟨D, v, hD, hh, _⟩
    · match k, hk with
      | 0, _ => simp [ha] at hx; subst hx; exact ⟨rfl, hB⟩
      | 1, _ => obtain ⟨d, hd⟩ := hlt 0 (by omega); simp [ha] at hd
    · have h0 := hh 0 (by simp); simp [ha] at h0
theorem splits2_err2 {g : Nat} {s t : ByteArray} {a : List UInt8 × Int} {x : Int} (ha : hostSplit s.data.toList = .ok a) (hb : hostSplit t.data.toList = .error x) (w : World) (hG : Good w) (hs : s.size ≤ 60000) (ht : t.size ≤ 60000) (hg : g < w.heap.size)
    (c0 : w.cell? ⟨g, 0, none⟩ = some (.string s)) (c1 : w.cell? ⟨g, 1, none⟩ = some (.string t)) :
    Calls Tryz.prog 82 #[.slice (some ⟨g, 0, none⟩) 2 2] w fun e w' => e = .returned (.tuple #[.slice none 0 0, .int .i64 x]) ∧ Below w.heap.size w w' := by
  refine (splits_any g [s, t] w hG (by simp; exact ⟨hs, ht⟩) (by simp) hg (fun j hj => ?_)).mono fun e w' h => ?_
  · match j, hj with
    | 0, _ => exact c0
    | 1, _ => exact c1
  · rcases h with ⟨k, y, hk, hlt, hx, rfl, hB⟩ | ⟨D, v, hD, hh, _⟩
    · match k, hk with
      | 0, _ => simp [ha] at hx
      | 1, _ => simp [hb] at hx; subst hx; exact ⟨rfl, hB⟩
    · have h0 := hh 1 (by simp); simp [hb] at h0
theorem splits1_ok {g : Nat} {s : ByteArray} {a : List UInt8 × Int} (ha : hostSplit s.data.toList = .ok a) (w : World) (hG : Good w) (hs : s.size ≤ 60000) (hg : g < w.heap.size)
    (c0 : w.cell? ⟨g, 0, none⟩ = some (.string s)) :
    Calls Tryz.prog 82 #[.slice (some ⟨g, 0, none⟩) 1 1] w fun e w' => ∃ g' cap, e = .returned (.tuple #[.slice (some ⟨g', 0, none⟩) 1 cap, .int .i64 0]) ∧ w'.ownsRow w.heap.size 80 2 (.slice (some ⟨g', 0, none⟩) 1 cap) 1 [S a.1, .int .i64 a.2] ∧ Below w.heap.size w w' := by
  refine (splits_any g [s] w hG (by simp; exact hs) (by simp) hg (fun j hj => ?_)).mono fun e w' h => ?_
  · match j, hj with
    | 0, _ => exact c0
  · rcases h with ⟨k, x, hk, _, hx, _⟩ | ⟨D, v, hD, hh, rfl, hown, hB⟩
    · match k, hk with
      | 0, _ => simp [ha] at hx
    · match D, hD with
      | [d], _ =>
        have h0 := hh 0 (by simp)
        simp [ha] at h0
        subst h0
        obtain ⟨g', cap, rfl⟩ := places_form hown (by simp)
        exact ⟨g', cap, rfl, hown, hB⟩
theorem splits1_err {g : Nat} {s : ByteArray} {x : Int} (ha : hostSplit s.data.toList = .error x) (w : World) (hG : Good w) (hs : s.size ≤ 60000) (hg : g < w.heap.size)
    (c0 : w.cell? ⟨g, 0, none⟩ = some (.string s)) :
    Calls Tryz.prog 82 #[.slice (some ⟨g, 0, none⟩) 1 1] w fun e w' => e = .returned (.tuple #[.slice none 0 0, .int .i64 x]) ∧ Below w.heap.size w w' := by
  refine (splits_any g [s] w hG (by simp; exact hs) (by simp) hg (fun j hj => ?_)).mono fun e w' h => ?_
  · match j, hj with
    | 0, _ => exact c0
  · rcases h with ⟨k, y, hk, hlt, hx, rfl, hB⟩ | ⟨D, v, hD, hh, _⟩
    · match k, hk with
      | 0, _ => simp [ha] at hx; subst hx; exact ⟨rfl, hB⟩
    · have h0 := hh 0 (by simp); simp [ha] at h0
end Go.Proofs.YteigjobliflkdaaGreatDoor
/- Plain: decimal numerals are read back; joining a name with a port. -/
namespace Go.Proofs.YteigjobliflkdaaGreatDoor
open Go

theorem dec_val : ∀ (n u : Nat), u < n → decVal (Lib.decDigits u) = u ∧ (Lib.decDigits u).all digitB = true
  | 0, u, h => by omega
  | n + 1, u, h => by
    by_cases h10 : u < 10
    · rw [Lib.decDigits_one h10]
      have h1 : (UInt8.ofNat (48 + u)).toNat = 48 + u := by rw [UInt8.toNat_ofNat']; omega
      constructor
      · simp only [decVal, List.foldl_cons, List.foldl_nil, h1]; omega
      · simp [digitB]; omega
    · have ih := dec_val n (u / 10) (by omega)
      have h1 : (UInt8.ofNat (48 + u % 10)).toNat = 48 + u % 10 := by rw [UInt8.toNat_ofNat']; omega
      rw [Lib.decDigits, dif_neg h10]
      constructor
      · rw [decVal_snoc, ih.1, h1]; omega
      · rw [List.all_append, ih.2]; simp [digitB]; omega
theorem nDigits5 (u : Nat) (h : u < 100000) : 1 ≤ Lib.nDigits u ∧ Lib.nDigits u ≤ 5 := by
  refine ⟨Lib.nDigits_pos u, ?_⟩
  by_cases h1 : u < 10
  · rw [Lib.nDigits_small h1]; omega
  rw [Lib.nDigits_big h1]
  by_cases h2 : u / 10 < 10
  · rw [Lib.nDigits_small h2]; omega
  rw [Lib.nDigits_big h2]
  by_cases h3 : u / 10 / 10 < 10
  · rw [Lib.nDigits_small h3]; omega
  rw [Lib.nDigits_big h3]
  by_cases h4 : u / 10 / 10 / 10 < 10
  · rw [Lib.nDigits_small h4]; omega
  rw [Lib.nDigits_big h4, Lib.nDigits_small (by omega)]; omega
theorem itoa_digs (u : Nat) (h : u < 100000) : digsOK (Lib.itoa u) = true ∧ decVal (Lib.itoa u) = u := by
  rw [Lib.itoa_nonneg]
  have := dec_val (u + 1) u (by omega)
  have hd := nDigits5 u h
  refine ⟨?_, this.1⟩
  simp only [digsOK, Bool.and_eq_true, decide_eq_true_eq, Lib.decDigits_length]
  exact ⟨⟨hd.1, hd.2⟩, this.2⟩

theorem cut1_mem (c : UInt8) : ∀ l : List UInt8, (cut1 c l).2.2 = false → ∀ b ∈ l, b ≠ c
  | [], _, b, hb => by simp at hb
  | a :: l, h, b, hb => by
    by_cases e : a = c
    · subst e; simp [cut1] at h
    · simp only [cut1, if_neg e] at h
      rcases List.mem_cons.1 hb with rfl | hb
      · exact e
      · exact cut1_mem c l h b hb
theorem cut1_snoc (c : UInt8) : ∀ l m : List UInt8, (∀ b ∈ l, b ≠ c) → cut1 c (l ++ c :: m) = (l, m, true)
  | [], m, _ => by simp [cut1]
  | a :: l, m, h => by
    have ih := cut1_snoc c l m fun b hb => h b (List.mem_cons_of_mem _ hb)
    simp only [List.cons_append, cut1, if_neg (h a (List.mem_cons_self ..)), ih]
theorem contains_cut (c : UInt8) (l : List UInt8) : Lib.contains l [c] = (cut1 c l).2.2 := by
  unfold Lib.contains
  rw [index_one]
  cases (cut1 c l).2.2 <;> simp

/-- A name without a port is joined with one. -/
theorem join_split {l n : List UInt8} {p0 : Int} (h : hostSplit l = .ok (n, p0)) (hc : (cut1 58 l).2.2 = false) (u : Nat) (h1 : 1 ≤ u) (h2 : u ≤ 65535) :
    hostSplit (l ++ 58 :: Lib.itoa u) = .ok (n, u) := by
  have hd := itoa_digs u (by omega)
  have hl := (cut1_none 58 l hc).1
  have hs := cut1_snoc 58 l (Lib.itoa u) (cut1_mem 58 l hc)
  have hk := hostSplit_ok h
  rw [hl, ] at hk
  have hlen : l.length ≤ 64 := by have := hk.2.2.1; rw [hk.2.2.2.2, lower_length] at this; exact this
  have hlab : (segs 46 l).all labB = true := by
    unfold hostSplit at h
    rw [hl, hc] at h
    by_cases hb : (segs 46 l).all labB = true
    · exact hb
    · rw [Bool.eq_false_iff.2 hb] at h
      split at h
      · cases h
      · simp at h
  have hdl : (Lib.itoa (u : Int)).length ≤ 5 := by
    have := hd.1
    simp only [digsOK, Bool.and_eq_true, decide_eq_true_eq] at this
    exact this.1.2
  unfold hostSplit
  rw [hs, if_neg (by simp; omega), hd.1, hlab, hd.2, hk.2.2.2.2]
  simp
  rw [if_neg (by omega), if_neg (by omega)]
theorem join_no {l n : List UInt8} {p0 : Int} (h : hostSplit l = .ok (n, p0)) : ((cut1 58 l).2.2 = true ↔ n.length ≠ l.length) := by
  have hk := (hostSplit_ok h).2.2.2.2
  rw [hk, lower_length]
  cases hc : (cut1 58 l).2.2 with
  | true =>
    have := (cut1_len 58 l).2.2 hc
    simp; omega
  | false => simp [(cut1_none 58 l hc).1]
end Go.Proofs.YteigjobliflkdaaGreatDoor
