/- Walks: host's label, and what it calls. -/
import Derived.Test.YteigjobliflkdaaGreatDoorR15e
import Derived.Test.YteigjobliflkdaaGreatDoorShelf
import Derived.Defers
import Derived.Recover
namespace Go.Proofs.YteigjobliflkdaaGreatDoor
open Go.RowKit

theorem trim_any (s t : ByteArray) (w : World) (hs : s.size ≤ 60000) (ht : t.size ≤ 60000) (hascii : ∀ (j : Nat) b, t.data.toList[j]? = some b → b.toNat < 128) :
    Calls Tryz.prog 132 #[.string s, .string t] w fun e w' => e = .returned (.string ⟨(Lib.trimS s.data.toList t.data.toList).toArray⟩) ∧ Below w.heap.size w w' :=
  Any.strings_Trim_laid Tryz.lays160 (by kernel_rfl) s t w (by omega) (by omega) hascii

theorem in_any (s t : ByteArray) (w : World) (hs : s.size ≤ 60000) (ht : t.size ≤ 60000) (hascii : ∀ (j : Nat) b, t.data.toList[j]? = some b → b.toNat < 128) :
    Calls Tryz.prog 90 #[.string s, .string t] w fun e w' => e = .returned (.bool (s.data.toList.all (t.data.toList.contains ·))) ∧ Below w.heap.size w w' := by
  have HT := Lib.hid (trimS_nil s.data.toList t.data.toList)
  go_enter Tryz.func90, Tryz.ntmps90
  go_wp2_with (go_at_call 132; refine (trim_any _ _ _ hs ht hascii).mono ?_; rintro e w1 ⟨rfl, HB⟩)
  go_ret
  exact ⟨ret_bool (by rw [← HT.out]), HB⟩

/-- The bytes of labels in small letters, as the text lists them. -/
def letters : List UInt8 := [97, 98, 99, 100, 101, 102, 103, 104, 105, 106, 107, 108, 109, 110, 111, 112, 113, 114, 115, 116, 117, 118, 119, 120, 121, 122, 48, 49, 50, 51, 52, 53, 54, 55, 56, 57, 45]
theorem ascii_of (l : List UInt8) (h : l.all (fun b => decide (b.toNat < 128)) = true) (j : Nat) (b : UInt8) (hj : l[j]? = some b) : b.toNat < 128 := by
  have := List.all_eq_true.1 h b (List.mem_of_getElem? hj)
  simpa using this
def letB (l : List UInt8) : Bool := l.all (letters.contains ·)
def digB (l : List UInt8) : Bool := l.all digitB
theorem in_letters (s : ByteArray) (w : World) (hs : s.size ≤ 60000) :
    Calls Tryz.prog 90 #[.string s, .string ⟨#[97, 98, 99, 100, 101, 102, 103, 104, 105, 106, 107, 108, 109, 110, 111, 112, 113, 114, 115, 116, 117, 118, 119, 120, 121, 122, 48, 49, 50, 51, 52, 53, 54, 55, 56, 57, 45]⟩] w fun e w' => e = .returned (.bool (letB s.data.toList)) ∧ Below w.heap.size w w' :=
  in_any s ⟨#[97, 98, 99, 100, 101, 102, 103, 104, 105, 106, 107, 108, 109, 110, 111, 112, 113, 114, 115, 116, 117, 118, 119, 120, 121, 122, 48, 49, 50, 51, 52, 53, 54, 55, 56, 57, 45]⟩ w hs (by decide) (ascii_of _ (by decide))
theorem in_digits (s : ByteArray) (w : World) (hs : s.size ≤ 60000) :
    Calls Tryz.prog 90 #[.string s, .string ⟨#[48, 49, 50, 51, 52, 53, 54, 55, 56, 57]⟩] w fun e w' => e = .returned (.bool (digB s.data.toList)) ∧ Below w.heap.size w w' := by
  have := in_any s ⟨#[48, 49, 50, 51, 52, 53, 54, 55, 56, 57]⟩ w hs (by decide) (ascii_of _ (by decide))
  rw [show (fun b => (⟨#[48, 49, 50, 51, 52, 53, 54, 55, 56, 57]⟩ : ByteArray).data.toList.contains b) = digitB from ?_] at this
  · exact this
  · funext b
    have : ∀ n : Fin 256, ([48, 49, 50, 51, 52, 53, 54, 55, 56, 57] : List UInt8).contains (UInt8.ofFin n) = digitB (UInt8.ofFin n) := by decide +kernel
    exact this b.toFin
theorem hasPrefix_any (s t : ByteArray) (w : World) :
    Calls Tryz.prog 104 #[.string s, .string t] w fun e w' => e = .returned (.bool (Lib.hasPrefix s.data.toList t.data.toList)) ∧ w = w' := (Tryz.strings_HasPrefix s t w).mono fun _ _ h => ⟨h.1, h.2.symm⟩
theorem hasSuffix_any (s t : ByteArray) (w : World) (hs : s.size ≤ 60000) :
    Calls Tryz.prog 137 #[.string s, .string t] w fun e w' => e = .returned (.bool (Lib.hasSuffix s.data.toList t.data.toList)) ∧ w = w' := (Tryz.strings_HasSuffix s t w (by omega)).mono fun _ _ h => ⟨h.1, h.2.symm⟩

/-- What the deferred function of label leaves. -/
def labFin (b : Bool) (l : List UInt8) : Bool := b && !Lib.hasPrefix l [45] && !Lib.hasSuffix l [45]

set_option maxRecDepth 100000 in
theorem label_deferred (g h : Nat) (b : Bool) (s : ByteArray) (u : FrameMode) (w : World) (hs : s.size ≤ 60000) (hb : w.cell? ⟨g, 0, none⟩ = some (.bool b)) (hf : w.frozen? ⟨g, 0, none⟩ = false) (hc : w.cell? ⟨h, 0, none⟩ = some (.string s)) :
    CallsD Tryz.prog 136 #[.pointer (some ⟨g, 0, none⟩), .pointer (some ⟨h, 0, none⟩)] u w fun e u' w' => u' = u ∧ (e = .returned (.tuple #[]) ∧ w' = w.setCell ⟨g, 0, none⟩ (.bool (labFin b s.data.toList))) := by
  go_enter_d Tryz.func136, Tryz.ntmps136
  go_wp2_with (first | (go_at_call 104; refine (hasPrefix_any _ _ _).mono ?_; rintro e w' ⟨rfl, rfl⟩) | (go_at_call 137; refine (hasSuffix_any _ _ _ hs).mono ?_; rintro e w' ⟨rfl, rfl⟩))
  · have h1 : b = true := by assumption
    have h2 : Lib.hasPrefix s.data.toList [45] = true := by assumption
    go_end0
    exact ⟨rfl, congrArg (fun x => w.setCell _ (.bool x)) (by rw [labFin, h1, h2]; rfl)⟩
  · have h1 : b = true := by assumption
    have h2 : ¬ Lib.hasPrefix s.data.toList [45] = true := by assumption
    go_end0
    exact ⟨rfl, congrArg (fun x => w.setCell _ (.bool x)) (by rw [labFin, h1, Bool.eq_false_iff.2 h2]; simp)⟩
  · have h1 : ¬ b = true := by assumption
    go_end0
    exact ⟨rfl, congrArg (fun x => w.setCell _ (.bool x)) (by rw [labFin, Bool.eq_false_iff.2 h1]; rfl)⟩

theorem low_lch (b : UInt8) : letters.contains (lowB b) = lchB b := by
  have : ∀ n : Fin 256, letters.contains (lowB (UInt8.ofFin n)) = lchB (UInt8.ofFin n) := by decide +kernel
  exact this b.toFin
theorem low_all (l : List UInt8) : letB (lower l) = l.all lchB := by
  rw [letB, lower, List.all_map]
  congr 1; funext b; exact low_lch b
theorem labFin_eq (l : List UInt8) : labFin (decide (1 ≤ l.length) && decide (l.length ≤ 63) && l.all lchB) l = labB l := by
  unfold labFin labB
  cases l with
  | nil => simp
  | cons a t =>
    have h1 : Lib.hasPrefix (a :: t) [45] = decide (((a :: t)[0]?.getD 0).toNat = 45) := by
      simp only [Lib.hasPrefix, List.isPrefixOf, Bool.and_true, List.getElem?_cons_zero, Option.getD_some]
      rw [Bool.eq_iff_iff]; simp only [beq_iff_eq, decide_eq_true_eq]
      exact ⟨fun e => by rw [← e]; rfl, fun e => (UInt8.toNat_inj.1 e).symm⟩
    have h2 : Lib.hasSuffix (a :: t) [45] = decide (((a :: t)[(a :: t).length - 1]?.getD 0).toNat = 45) := by
      rw [Bool.eq_iff_iff]
      simp only [Lib.hasSuffix, List.isSuffixOf_iff_suffix, decide_eq_true_eq]
      rw [List.getElem?_eq_getElem (by simp)]
      constructor
      · rintro ⟨p, hp⟩
        have : (a :: t)[(a :: t).length - 1]? = some 45 := by rw [← hp]; simp
        rw [List.getElem?_eq_getElem (by simp)] at this
        injection this with this
        rw [Option.getD_some, this]; rfl
      · intro e
        have e' : (a :: t)[(a :: t).length - 1] = 45 := UInt8.toNat_inj.1 e
        refine ⟨(a :: t).take ((a :: t).length - 1), ?_⟩
        conv => rhs; rw [← List.take_append_drop ((a :: t).length - 1) (a :: t)]
        rw [List.drop_eq_getElem_cons (by simp), e', List.drop_eq_nil_of_le (by simp)]
    rw [h1, h2]
    generalize decide (((a :: t)[0]?.getD 0).toNat = 45) = x
    generalize decide (((a :: t)[(a :: t).length - 1]?.getD 0).toNat = 45) = y
    cases x <;> cases y <;> simp

set_option maxRecDepth 100000 in
set_option maxHeartbeats 800000 in
theorem label_any (s : ByteArray) (w : World) (hs : s.size ≤ 60000) :
    Calls Tryz.prog 93 #[.string s] w (RetV (.bool (labB s.data.toList)) w) := by
  have hmf : ∀ (fn : Fn) (first cap : Array Value) (w : World), (Instr.makeFunc fn first cap).run Tryz.prog w = .ok (.func fn first cap) w := fun _ _ _ _ => rfl
  have c0 : ((w.alloc (.cells #[.string s] 9)).alloc (.cells #[.bool false] 4)).cell? ⟨w.heap.size, 0, none⟩ = some (.string s) := by
    rw [World.cell?_alloc_past _ _ _ (by simp), World.cell?_alloc_at _ _ _ _ rfl]; rfl
  have c1 : ((w.alloc (.cells #[.string s] 9)).alloc (.cells #[.bool false] 4)).cell? ⟨w.heap.size + 1, 0, none⟩ = some (.bool false) := by
    rw [World.cell?_alloc_at _ _ _ _ (by simp)]; rfl
  have f1 : ((w.alloc (.cells #[.string s] 9)).alloc (.cells #[.bool false] 4)).frozen? ⟨w.heap.size + 1, 0, none⟩ = false := World.frozen?_alloc_at _ _ _ _ (by simp)
  have hb0 : Below w.heap.size w ((w.alloc (.cells #[.string s] 9)).alloc (.cells #[.bool false] 4)) := ((Below.refl _ _).alloc (Nat.le_refl _) _).alloc (by simp) _
  by_cases h1 : 1 ≤ s.size
  · by_cases h2 : s.size ≤ 63
    · have hd1 : decide (1 ≤ (s.size : Int)) = true := by simp; omega
      have hd2 : decide ((s.size : Int) ≤ 63) = true := by simp; omega
      have HZ := Lib.hid (show labB s.data.toList = labFin (letB (lower s.data.toList)) s.data.toList by
        rw [← labFin_eq, size_len, decide_eq_true h1, decide_eq_true h2, low_all]; rfl)
      go_enter_defers Tryz.func93, Tryz.ntmps93
      go_wp2_with fail
      refine (lower_tok s _ hs).mono ?_
      rintro e w1 ⟨rfl, HB1⟩
      go_wp2_with fail
      refine (in_letters ⟨(lower s.data.toList).toArray⟩ _ (by rw [size_mk, lower_length, size_len]; exact hs)).mono ?_
      rintro e w2 ⟨rfl, HB2⟩
      have HB := HB1.trans (HB2.mono HB1.size)
      have HF := Lib.hid HB
      have k0 := (HB.cell (p := ⟨w.heap.size, 0, none⟩) (by simp; omega)).trans c0
      have k1 := (HB.cell (p := ⟨w.heap.size + 1, 0, none⟩) (by simp)).trans c1
      have g1 := (HB.frozen (p := ⟨w.heap.size + 1, 0, none⟩) (by simp)).trans f1
      clear HB HB1 HB2 c0 c1 f1
      go_wp2_with fail
      refine leaves_cons (f := 136) (args := #[.pointer (some ⟨w.heap.size + 1, 0, none⟩), .pointer (some ⟨w.heap.size, 0, none⟩)]) (by simp) (by simp [go_sem]) ?_
      have hne : (⟨w.heap.size + 1, 0, none⟩ : Addr) ≠ ⟨w.heap.size, 0, none⟩ := by simp
      refine (label_deferred (w.heap.size + 1) w.heap.size (letB (lower s.data.toList)) s .returning _ hs ?_ ?_ ?_).mono ?_
      · exact World.cell?_setCell_same _ _ _ k1
      · simp [g1]
      · rw [World.cell?_setCell_other _ _ _ _ hne]; exact k0
      rintro e u' w'' ⟨rfl, rfl, rfl⟩
      have hq : ((w2.setCell ⟨w.heap.size + 1, 0, none⟩ (.bool (letB (lower s.data.toList)))).setCell ⟨w.heap.size + 1, 0, none⟩ (.bool (labFin (letB (lower s.data.toList)) s.data.toList))).cell? ⟨w.heap.size + 1, 0, none⟩ = some (.bool (labFin (letB (lower s.data.toList)) s.data.toList)) :=
        World.cell?_setCell_same _ _ _ (World.cell?_setCell_same _ _ _ k1)
      have HBB := ((hb0.trans (HF.out.mono (by simp; omega))).setCell (p := ⟨w.heap.size + 1, 0, none⟩) (by simp) (.bool (letB (lower s.data.toList)))).setCell (p := ⟨w.heap.size + 1, 0, none⟩) (by simp) (.bool (labFin (letB (lower s.data.toList)) s.data.toList))
      generalize ((w2.setCell ⟨w.heap.size + 1, 0, none⟩ (.bool (letB (lower s.data.toList)))).setCell ⟨w.heap.size + 1, 0, none⟩ (.bool (labFin (letB (lower s.data.toList)) s.data.toList))) = w5 at hq HBB
      simp [Leaves, settle, results, Tryz.results93, go_sem, hq]
      exact RetV.of (f := Value.bool) _ HZ.out rfl HBB
    · have hd1 : decide (1 ≤ (s.size : Int)) = true := by simp; omega
      have hd2 : decide ((s.size : Int) ≤ 63) = false := by simp; omega
      have HZ := Lib.hid (show labB s.data.toList = labFin false s.data.toList by
        rw [← labFin_eq, size_len, decide_eq_false h2]; simp)
      go_enter_defers Tryz.func93, Tryz.ntmps93
      go_wp2_with fail
      refine leaves_cons (f := 136) (args := #[.pointer (some ⟨w.heap.size + 1, 0, none⟩), .pointer (some ⟨w.heap.size, 0, none⟩)]) (by simp) (by simp [go_sem]) ?_
      refine (label_deferred (w.heap.size + 1) w.heap.size false s .returning _ hs c1 f1 c0).mono ?_
      rintro e u' w'' ⟨rfl, rfl, rfl⟩
      have hq := World.cell?_setCell_same _ _ (.bool (labFin false s.data.toList)) c1
      have HBB := hb0.setCell (p := ⟨w.heap.size + 1, 0, none⟩) (by simp) (.bool (labFin false s.data.toList))
      generalize ((w.alloc (.cells #[.string s] 9)).alloc (.cells #[.bool false] 4)).setCell ⟨w.heap.size + 1, 0, none⟩ (.bool (labFin false s.data.toList)) = w5 at hq HBB
      simp [Leaves, settle, results, Tryz.results93, go_sem, hq]
      exact RetV.of (f := Value.bool) _ HZ.out rfl HBB
  · have hd1 : decide (1 ≤ (s.size : Int)) = false := by simp; omega
    have HZ := Lib.hid (show labB s.data.toList = labFin false s.data.toList by
      rw [← labFin_eq, size_len, decide_eq_false h1]; simp)
    go_enter_defers Tryz.func93, Tryz.ntmps93
    go_wp2_with fail
    refine leaves_cons (f := 136) (args := #[.pointer (some ⟨w.heap.size + 1, 0, none⟩), .pointer (some ⟨w.heap.size, 0, none⟩)]) (by simp) (by simp [go_sem]) ?_
    refine (label_deferred (w.heap.size + 1) w.heap.size false s .returning _ hs c1 f1 c0).mono ?_
    rintro e u' w'' ⟨rfl, rfl, rfl⟩
    have hq := World.cell?_setCell_same _ _ (.bool (labFin false s.data.toList)) c1
    have HBB := hb0.setCell (p := ⟨w.heap.size + 1, 0, none⟩) (by simp) (.bool (labFin false s.data.toList))
    generalize ((w.alloc (.cells #[.string s] 9)).alloc (.cells #[.bool false] 4)).setCell ⟨w.heap.size + 1, 0, none⟩ (.bool (labFin false s.data.toList)) = w5 at hq HBB
    simp [Leaves, settle, results, Tryz.results93, go_sem, hq]
    exact RetV.of (f := Value.bool) _ HZ.out rfl HBB
end Go.Proofs.YteigjobliflkdaaGreatDoor
