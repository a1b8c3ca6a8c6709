/- Texts of this claim, joined in build order: D3, D4, D5. -/
import Derived.Test.YteigjobliflkdaaGreatDoorZ9
import Derived.Test.YteigjobliflkdaaGreatDoorZ4
import Derived.Test.YteigjobliflkdaaGreatDoorZ8
import Derived.ArgAppend
import Derived.Test.YteigjobliflkdaaGreatDoorZ14
/- Walks: dots' maker, path, built. -/
namespace Go.Proofs.YteigjobliflkdaaGreatDoor
open Go.RowKit

/-- The value v is a slice of the texts L; they lie below B, not in block b. -/
def TextsB (w : World) (B b : Nat) (v : Value) (L : List (List UInt8)) : Prop := ∃ ao cap, v = .slice ao L.length cap ∧ ∀ j, j < L.length → ∃ g, ao = some ⟨g, 0, none⟩ ∧ g < B ∧ g ≠ b ∧ w.cell? ⟨g, j, none⟩ = some (.string ⟨(L[j]?.getD []).toArray⟩)
theorem But.cell {B b : Nat} {x y : World} (h : But B b x y) {g j : Nat} (hg : g < B) (hb : g ≠ b) : y.cell? ⟨g, j, none⟩ = x.cell? ⟨g, j, none⟩ := World.cell?_of_block (h.block g hg hb)

set_option maxRecDepth 100000 in
set_option maxHeartbeats 4000000 in
theorem add_any {w : World} {b : Nat} {op : Bool} {v : Value} {L : List (List UInt8)} (hb : w.heap[b]? = some (.cells #[.pointer none, .slice none 0 0, .bool op] 205 (0, 0))) (hT : TextsB w w.heap.size b v L) (hn : L.length ≤ 60000) (hs : (slashes L).length ≤ 60000) :
    Calls Tryz.prog 216 #[.pointer (some ⟨b, 0, none⟩), v] w fun e w' => e = .returned (.tuple #[]) ∧ Bld w' w.heap.size b 205 [.bool op] (slashes L) ∧ But w.heap.size b w w' := by
  obtain ⟨ao, cap, rfl, hc⟩ := hT
  have HC := Lib.hid hc
  have HBb := Lib.hid hb
  have hbl : b < w.heap.size := (Array.getElem?_eq_some_iff.1 hb).1
  clear hc hb
  go_enter Tryz.func216, Tryz.ntmps216
  go_wp2_with fail
  go_loopw [8] (fun i wr => ∃ k : Nat, k ≤ L.length ∧ i = .int .i64 k ∧ Hid (Bld wr w.heap.size b 205 [.bool op] (slashes (L.take k)) ∧ But w.heap.size b w wr)) (fun i _ => L.length - (intOf i).toNat)
  case atStart => exact ⟨0, Nat.zero_le _, rfl, by rw [List.take_zero]; exact Bld.fresh hbl HBb.out, But.refl _ _ _⟩
  case round =>
    obtain ⟨k, hk, rfl, HP⟩ := hrel
    have hsz := HP.out.2.size
    by_cases hlt : k < L.length
    · have d1 : decide ((k : Int) < (L.length : Int)) = true := by simp; omega
      obtain ⟨g, rfl, hg, hgb, hcell⟩ := HC.out k hlt
      have hcell2 := (HP.out.2.cell (j := k) hg hgb).trans hcell
      have hN := slashes_take L k hlt
      have hl1 := slashes_le L k
      have hl2 := slashes_piece L k hlt
      obtain ⟨x, hx⟩ : ∃ x : ByteArray, (⟨(L[k]?.getD []).toArray⟩ : ByteArray) = x := ⟨_, rfl⟩
      have hxl : x.data.toList = L[k]?.getD [] := by rw [← hx]
      rw [hx] at hcell2
      rw [← hxl] at hN hl2
      rw [size_len] at hl2
      have HN := Lib.hid (show slashes (L.take k) ++ [47] ++ x.data.toList = slashes (L.take (k + 1)) by rw [hN]; simp)
      clear hcell hN hx hxl
      go_wp2_with fail
      refine (writeByte_any (c := 47) rfl bldT205 HP.out.1 (by omega) hsz).mono ?_
      rintro e w1 ⟨rfl, HB1, HW1⟩
      go_wp2_with fail
      refine (writeString_any bldT205 HB1 (by simp) (by simp; omega) (by omega) (by have := HW1.size; omega)).mono ?_
      rintro e w2 ⟨rfl, HB2, HW2⟩
      rw [HN.out] at HB2
      have HF := Lib.hid (⟨HB2, (HP.out.2.trans HW1).trans HW2⟩ : Bld w2 w.heap.size b 205 [.bool op] (slashes (L.take (k + 1))) ∧ But w.heap.size b w w2)
      clear HB1 HW1 HB2 HW2
      go_wp2_with fail
      go_roundw
      case rel => exact ⟨k + 1, by omega, by go_num, HF⟩
      case measure => (simp [intOf]; try omega)
    · have d1 : decide ((k : Int) < (L.length : Int)) = false := by simp; omega
      have hE : L.take k = L := List.take_of_length_le (by omega)
      have hP := HP.out
      rw [hE] at hP
      have hP := Lib.hid hP
      clear HP hE
      go_wp2_with fail
      go_end0
      exact ⟨rfl, hP.out.1, hP.out.2⟩

theorem Bld.cell2 {w : World} {B b T : Nat} {y : Value} {x : List Value} {l : List UInt8} (h : Bld w B b T (y :: x) l) : w.cell? ⟨b, 2, none⟩ = some y := by
  obtain ⟨p, ao, cap, hb, _⟩ := h.slice
  rw [bld_cell hb]; rfl
set_option maxRecDepth 100000 in
set_option maxHeartbeats 2000000 in
theorem textP_any {w : World} {B b : Nat} {op : Bool} {L : List (List UInt8)} (h : Bld w B b 205 [.bool op] (slashes L)) (hB : B ≤ w.heap.size) (hs : (slashes L).length ≤ 60000) :
    Calls Tryz.prog 217 #[.pointer (some ⟨b, 0, none⟩)] w fun e w' => e = .returned (S (dPut L op)) ∧ (∀ B0, B0 ≤ b → B0 ≤ B → Below B0 w w') := by
  have c2 := h.cell2
  have H := Lib.hid h
  have e0 := slashes_empty L
  have hp := dPut_eq L op
  by_cases hop : op = true ∨ L = []
  · have HE := Lib.hid (show dPut L op = slashes L ++ [47] by
      rw [hp]
      rcases hop with rfl | rfl
      · simp
      · simp)
    have hne : slashes L ++ [47] ≠ [] := by simp
    rcases hop with rfl | rfl
    · clear h e0 hp
      go_enter Tryz.func217, Tryz.ntmps217
      go_wp2_with fail
      refine (writeByte_any (c := 47) rfl bldT205 H.out (by omega) hB).mono ?_
      rintro e w1 ⟨rfl, HB1, HW1⟩
      go_wp2_with fail
      refine (string_any HB1 hne).mono ?_
      rintro e w2 ⟨rfl, HB2⟩
      go_wp2_with fail
      go_ret
      exact ⟨by rw [HE.out]; rfl, fun B0 h1 h2 => (HW1.below h1 h2).trans (HB2.mono h2)⟩
    · have hl0 : (slashes ([] : List (List UInt8))).length = 0 := rfl
      have HL := Lib.hid (len_any H.out)
      cases op with
      | true =>
        clear h e0 hp
        go_enter Tryz.func217, Tryz.ntmps217
        go_wp2_with fail
        refine (writeByte_any (c := 47) rfl bldT205 H.out (by omega) hB).mono ?_
        rintro e w1 ⟨rfl, HB1, HW1⟩
        go_wp2_with fail
        refine (string_any HB1 hne).mono ?_
        rintro e w2 ⟨rfl, HB2⟩
        go_wp2_with fail
        go_ret
        exact ⟨by rw [HE.out]; rfl, fun B0 h1 h2 => (HW1.below h1 h2).trans (HB2.mono h2)⟩
      | false =>
        clear h e0 hp
        go_enter Tryz.func217, Tryz.ntmps217
        go_wp2_with fail
        refine HL.out.mono ?_
        rintro e w0 ⟨rfl, rfl⟩
        go_wp2_with fail
        refine (writeByte_any (c := 47) rfl bldT205 H.out (by omega) hB).mono ?_
        rintro e w1 ⟨rfl, HB1, HW1⟩
        go_wp2_with fail
        refine (string_any HB1 hne).mono ?_
        rintro e w2 ⟨rfl, HB2⟩
        go_wp2_with fail
        go_ret
        exact ⟨by rw [HE.out]; rfl, fun B0 h1 h2 => (HW1.below h1 h2).trans (HB2.mono h2)⟩
  · have hop1 : op = false := by cases op; rfl; exact absurd (.inl rfl) hop
    have hL : L ≠ [] := fun e => hop (.inr e)
    subst hop1
    have hL' : (L == []) = false := by simpa using hL
    have hne : slashes L ≠ [] := by rw [hL'] at e0; simpa using e0
    have hpos : 0 < (slashes L).length := List.length_pos_iff.2 hne
    have HE := Lib.hid (show dPut L false = slashes L by rw [hp, hL']; simp)
    have HL := Lib.hid (len_any H.out)
    have HNE := Lib.hid hne
    have d1 : (((slashes L).length : Int) == 0) = false := by simp; exact hne
    clear h e0 hp hL hL' hop hne
    go_enter Tryz.func217, Tryz.ntmps217
    go_wp2_with fail
    refine HL.out.mono ?_
    rintro e w0 ⟨rfl, rfl⟩
    go_wp2_with fail
    refine (string_any H.out HNE.out).mono ?_
    rintro e w2 ⟨rfl, HB2⟩
    go_wp2_with fail
    go_ret
    exact ⟨by rw [HE.out]; rfl, fun B0 h1 h2 => HB2.mono h2⟩

/-- built. -/
theorem built_any {w : World} {v : Value} {L : List (List UInt8)} (op : Bool) (hT : ∃ ao cap, v = .slice ao L.length cap ∧ ∀ j, j < L.length → ∃ g, ao = some ⟨g, 0, none⟩ ∧ w.cell? ⟨g, j, none⟩ = some (.string ⟨(L[j]?.getD []).toArray⟩)) (hn : L.length ≤ 60000) (hs : (slashes L).length ≤ 60000) :
    Calls Tryz.prog 188 #[v, .bool op] w (RetV (S (dPut L op)) w) := by
  have hb : (w.alloc (.cells #[.pointer none, .slice none 0 0, .bool op] 205)).heap[w.heap.size]? = some (.cells #[.pointer none, .slice none 0 0, .bool op] 205 (0, 0)) := heap_alloc_new _ _
  have HT2 : TextsB (w.alloc (.cells #[.pointer none, .slice none 0 0, .bool op] 205)) (w.alloc (.cells #[.pointer none, .slice none 0 0, .bool op] 205)).heap.size w.heap.size v L := by
    obtain ⟨ao, cap, e, hc⟩ := hT
    refine ⟨ao, cap, e, fun j hj => ?_⟩
    obtain ⟨g, e, hcell⟩ := hc j hj
    have hg := World.block_lt_of_cell? w _ hcell
    have hg : g < w.heap.size := hg
    exact ⟨g, e, by simp; omega, by omega, by rw [World.cell?_of_block (w := w) (a := ⟨g, j, none⟩) (Below.heap_alloc _ _ _ hg)]; exact hcell⟩
  have HA := Lib.hid (add_any hb HT2 hn hs)
  obtain ⟨ao, cap, rfl, _⟩ := hT
  clear hb HT2
  go_enter Tryz.func188, Tryz.ntmps188
  go_wp2_with fail
  refine HA.out.mono ?_
  rintro e w1 ⟨rfl, HB1, HW1⟩
  go_wp2_with fail
  refine (textP_any HB1 HW1.size hs).mono ?_
  rintro e w2 ⟨rfl, HB2⟩
  unfold S
  go_wp2_with fail
  go_ret
  exact RetV.mk rfl (((Below.refl _ _).alloc (Nat.le_refl _) _).trans ((HW1.below (Nat.le_refl _) (by simp)).trans (HB2 _ (Nat.le_refl _) (by simp))))
end Go.Proofs.YteigjobliflkdaaGreatDoor
/- What dots.Clean keeps: a slice of the call's own, or the whole of what a cut left; plain words on cleaning. -/
namespace Go.Proofs.YteigjobliflkdaaGreatDoor
open Go.RowKit Go.Shelf

/-- A slice of texts that the call made; or one that was cut to its length. -/
def KeptAt (w : World) (B : Nat) (v : Value) (L : List (List UInt8)) : Prop :=
  w.ownsRow B 9 1 v L.length (L.map S) ∨ ∃ g, v = .slice (some ⟨g, 0, none⟩) L.length L.length ∧ B ≤ g ∧ g < w.heap.size ∧ ∀ j, j < L.length → w.cell? ⟨g, j, none⟩ = some (.string ⟨(L[j]?.getD []).toArray⟩)
theorem KeptAt.nil (w : World) (B : Nat) : KeptAt w B (.slice none 0 0) [] := .inl (World.ownsRow_nil _ _ _ _)
theorem row_cells {w : World} {B g cap : Nat} {L : List (List UInt8)} (h : w.ownsRow B 9 1 (.slice (some ⟨g, 0, none⟩) L.length cap) L.length (L.map S)) (j : Nat) (hj : j < L.length) : w.cell? ⟨g, j, none⟩ = some (.string ⟨(L[j]?.getD []).toArray⟩) := by
  have := World.ownsRow.cells h rfl j (S (L[j]?.getD [])) (by rw [List.getElem?_map, List.getElem?_eq_getElem hj]; rfl)
  have hadd : (⟨g, 0, none⟩ : Addr).add j = ⟨g, j, none⟩ := by unfold Addr.add; split <;> simp_all
  rw [hadd] at this; exact this
/-- Its form, what can be read, and where it lies. -/
theorem KeptAt.form {w : World} {B : Nat} {v : Value} {L : List (List UInt8)} (h : KeptAt w B v L) : ∃ ao cap, v = .slice ao L.length cap ∧ L.length ≤ cap ∧ (L = [] ∨ ∃ g, ao = some ⟨g, 0, none⟩ ∧ B ≤ g ∧ g < w.heap.size ∧ ∀ j, j < L.length → w.cell? ⟨g, j, none⟩ = some (.string ⟨(L[j]?.getD []).toArray⟩)) := by
  rcases h with h | ⟨g, rfl, h1, h2, h3⟩
  · have h' := h
    obtain ⟨_, ⟨rfl, h0⟩ | ⟨g, cap, cur, rfl, hg, hgb, hc, _⟩⟩ := h'
    · exact ⟨none, 0, by rw [h0], by omega, .inl (List.length_eq_zero_iff.1 h0)⟩
    · exact ⟨_, cap, rfl, hc, .inr ⟨g, rfl, hg, (Array.getElem?_eq_some_iff.1 hgb).1, fun j hj => row_cells h j hj⟩⟩
  · exact ⟨_, _, rfl, Nat.le_refl _, .inr ⟨g, rfl, h1, h2, h3⟩⟩
theorem KeptAt.blocks {w w' : World} {B : Nat} {v : Value} {L : List (List UInt8)} (h : KeptAt w B v L) (hs : w.heap.size ≤ w'.heap.size) (hk : ∀ j, B ≤ j → (∃ o : Obj, w.heap[j]? = some o ∧ o.isCells = true) → w'.heap[j]? = w.heap[j]?) : KeptAt w' B v L := by
  rcases h with ⟨o1, o2 | ⟨g, cap, cur, hv, hg, hgb, r⟩⟩ | ⟨g, rfl, h1, h2, h3⟩
  · exact .inl ⟨o1, .inl o2⟩
  · exact .inl ⟨o1, .inr ⟨g, cap, cur, hv, hg, by rw [hk g hg ⟨_, hgb, rfl⟩]; exact hgb, r⟩⟩
  · refine .inr ⟨g, rfl, h1, by omega, fun j hj => ?_⟩
    have hc := h3 j hj
    rw [World.cell?_of_block (w := w) (a := ⟨g, j, none⟩) (hk g h1 (cells_of_cell hc))]
    exact hc
theorem KeptAt.kept {w w' : World} {B : Nat} {v : Value} {L : List (List UInt8)} {row : Option Nat} (h : KeptAt w B v L) (hg : w.grownBy w' row) (hr : ∀ r, row = some r → ∃ o : Obj, w.heap[r]? = some o ∧ o.isCells = false) : KeptAt w' B v L :=
  h.blocks hg.size fun j _ ⟨o, ho, hc⟩ => hg.block j (Array.getElem?_eq_some_iff.1 ho).1 (fun e => by
    obtain ⟨o', ho', hc'⟩ := hr j e.symm
    rw [ho] at ho'; cases ho'; rw [hc] at hc'; cases hc')
theorem KeptAt.set {w : World} {B : Nat} {v : Value} {L : List (List UInt8)} (h : KeptAt w B v L) {b : Nat} (hb : b < B) (u : Value) : KeptAt (w.setCell ⟨b, 0, none⟩ u) B v L :=
  h.blocks (by simp) fun j hj _ => Below.heap_setCell _ _ _ j (by show j ≠ b; omega)
theorem KeptAt.pop {w : World} {B g cap : Nat} {L : List (List UInt8)} (h : KeptAt w B (.slice (some ⟨g, 0, none⟩) L.length cap) L) (hL : L ≠ []) : KeptAt w B (.slice (some ⟨g, 0, none⟩) (L.length - 1) (L.length - 1)) L.dropLast := by
  obtain ⟨ao, cap', e, _, h0 | ⟨g', rfl, h1, h2, h3⟩⟩ := h.form
  · exact absurd h0 hL
  · injection e with e _ _
    injection e with e
    injection e with e _ _
    subst e
    refine .inr ⟨g, by rw [List.length_dropLast], h1, h2, fun j hj => ?_⟩
    rw [List.length_dropLast] at hj
    rw [h3 j (by omega), List.dropLast_eq_take, List.getElem?_take, if_pos hj]
theorem KeptAt.row {w : World} {B : Nat} {v : Value} {L : List (List UInt8)} (h : KeptAt w B v L) : ∀ r, v.ownBlock = some r → B ≤ r ∧ r < w.heap.size := by
  obtain ⟨ao, cap, rfl, _, h0 | ⟨g, rfl, h1, h2, _⟩⟩ := h.form
  · intro r hr
    rcases h with h | ⟨g, e, h1, h2, _⟩
    · exact World.ownsRow.lt h r hr
    · rw [e] at hr
      have : g = r := by simpa [Value.ownBlock] using hr
      subst this; exact ⟨h1, h2⟩
  · intro r hr
    have : g = r := by simpa [Value.ownBlock] using hr
    subst this; exact ⟨h1, h2⟩

set_option maxRecDepth 100000 in
/-- 'append(kept, t)' in a round. -/
theorem wpAppKeptIn {F : Fence} {n : Nat} {ops : Array Oper} {rest : List Oper} {o : Oper} {a : Act} {Q : Exit → Act → World → Prop} (hgd : o.guard = none) (s x : Operand)
    (ho : o.op = .call { callee := .builtin .append, args := #[s, x], argTypes := #[34, 34] })
    {B : Nat} {wr : World} {v : Value} {L : List (List UInt8)} {t : ByteArray} (hk : KeptAt wr B v L) (hs : a.eval s = v)
    {b : Nat} (hbs : wr.heap.size = b) (hx : a.eval x = .slice (some ⟨b, 0, none⟩) 1 1) (hn : L.length ≤ 100000) (hle : B ≤ wr.heap.size)
    (h : ∀ v' w' row, w'.ownsRow B 9 1 v' (L.length + 1) ((L ++ [t.data.toList]).map S) → (wr.alloc (.cells #[.string t] 9)).grownBy w' row → (∀ r, row = some r → B ≤ r ∧ ∃ o : Obj, wr.heap[r]? = some o ∧ o.isCells = true) → wpListIn F n Tryz.prog ops Q rest (a.put o.dst v') w') :
    wpListIn F n Tryz.prog ops Q (o :: rest) a (wr.alloc (.cells #[.string t] 9)) := by
  subst hbs
  obtain ⟨i0, hi, hz0, hz1, hz2⟩ := info_parts info9
  have hnew : ∀ j u, ([.string t] : List Value)[j]? = some u → (wr.alloc (.cells #[.string t] 9)).cell? ((⟨wr.heap.size, 0, none⟩ : Addr).add j) = some u := cell_one_new _ _ _
  have hmap : (L ++ [t.data.toList]).map S = L.map S ++ [.string t] := by rw [List.map_append, List.map_singleton, ← S_of]
  have hrun : ∃ v' w' row, (Builtin.append_ #[34, 34] o.type #[v, .slice (some ⟨wr.heap.size, 0, none⟩) 1 1]).run Tryz.prog (wr.alloc (.cells #[.string t] 9)) = .ok v' w' ∧ w'.ownsRow B 9 1 v' (L.length + 1) (L.map S ++ [.string t]) ∧ (wr.alloc (.cells #[.string t] 9)).grownBy w' row ∧ (∀ r, row = some r → B ≤ r ∧ ∃ o : Obj, wr.heap[r]? = some o ∧ o.isCells = true) := by
    rcases hk with hk | ⟨g, rfl, h1, h2, h3⟩
    · have hown := own_below hk ((Below.refl _ _).alloc (Nat.le_refl _) (.cells #[.string t] 9))
      obtain ⟨v', w', e1, e2, e3, _⟩ := run_append_own (P := Tryz.prog) (wr.alloc (.cells #[.string t] 9)) B 34 o.type 9 i0 (.string ByteArray.empty) 1 16 Tryz.underlying34 hi hz0 hz1 hz2 rfl (by decide) v L.length (L.map S) hown ⟨wr.heap.size, 0, none⟩ 1 1 [.string t] rfl hnew (by simp [Value.oneCell']) (by unfold maxLen; omega) (by omega) (by simp; omega)
      refine ⟨v', w', _, e1, e2, e3, fun r hr => ?_⟩
      obtain ⟨_, ⟨rfl, _⟩ | ⟨g, cap, cur, rfl, hg, hgb, _⟩⟩ := hk
      · simp [Value.ownBlock] at hr
      · have : g = r := by simpa [Value.ownBlock] using hr
        subst this
        exact ⟨hg, _, hgb, rfl⟩
    · obtain ⟨v', w', e1, e2, e3⟩ := run_append_arg_grows (P := Tryz.prog) (wr.alloc (.cells #[.string t] 9)) 34 o.type 9 i0 (.string ByteArray.empty) 1 16 Tryz.underlying34 hi hz0 hz1 hz2 rfl (by decide) ⟨g, 0, none⟩ L.length L.length (L.map S) (by simp) (fun j u hu => by
          have hadd : (⟨g, 0, none⟩ : Addr).add j = ⟨g, j, none⟩ := by unfold Addr.add; split <;> simp_all
          have hj : j < L.length := by
            rcases Nat.lt_or_ge j L.length with h' | h'
            · exact h'
            · rw [List.getElem?_eq_none (by simpa using h')] at hu; cases hu
          rw [List.getElem?_map, List.getElem?_eq_getElem hj] at hu
          injection hu with hu
          rw [hadd, World.cell?_of_block (w := wr) (a := ⟨g, j, none⟩) (Below.heap_alloc _ _ _ h2), h3 j hj, ← hu, List.getElem?_eq_getElem hj]; rfl)
        ⟨wr.heap.size, 0, none⟩ 1 1 [.string t] rfl hnew (by omega) (by unfold maxLen; omega) (by omega)
      exact ⟨v', w', none, e1, own_mono e2 (by simp; omega), e3, fun r hr => by cases hr⟩
  obtain ⟨v', w', row, hr, r1, r2, r3⟩ := hrun
  rw [← hmap] at r1
  refine wpListIn_plain hgd fun K hK' => ?_
  unfold Oper.wpIn
  refine ⟨?_, ?_⟩
  · simp [Oper.about, ho, resolve, Target.leads, Sem.run_pure]
  · rw [Oper.semAt_plain F _ _ (by rw [ho]; intro c hc'; cases hc')]
    simp [execOp, ho, resolve, invoke, builtin, hs, hx, hr, Result.andThen]
    exact hK' _ _ (h v' w' row r1 r2 r3)

/-! Cleaning, piece by piece -/
def pcs (pre : List (ByteArray × Bool)) : List (List UInt8) := pre.map fun x => x.1.data.toList
theorem pcs_all : ∀ L : List (List UInt8), pcs (pieceL L) = L
  | [] => rfl
  | [a] => rfl
  | a :: b :: r => by have := pcs_all (b :: r); simp only [pieceL, pcs, List.map_cons] at this ⊢; rw [this]
theorem cleanGo_app : ∀ (L M kept : List (List UInt8)) (op : Bool), cleanGo (L ++ M) kept op = (cleanGo L kept op).bind fun x => cleanGo M x.1 x.2
  | [], M, kept, op => rfl
  | s :: L, M, kept, op => by
    rw [List.cons_append, cleanGo_cons, cleanGo_cons]
    cases cleanOne s kept with
    | none => rfl
    | some x => exact cleanGo_app L M x.1 x.2
theorem cleanGo_one (s : List UInt8) (kept : List (List UInt8)) (op : Bool) : cleanGo [s] kept op = cleanOne s kept := by
  rw [cleanGo_cons]; cases cleanOne s kept <;> rfl
theorem clean_step {pre : List (ByteArray × Bool)} {x : ByteArray} {la : Bool} {kept : List (List UInt8)} {op : Bool} {r : Option (List (List UInt8) × Bool)} (h : cleanGo (pcs pre) [] false = some (kept, op)) (hr : cleanOne x.data.toList kept = r) : cleanGo (pcs (pre ++ [(x, la)])) [] false = r := by
  have : pcs (pre ++ [(x, la)]) = pcs pre ++ [x.data.toList] := by simp [pcs]
  rw [this, cleanGo_app, h]
  show cleanGo [x.data.toList] kept op = r
  rw [cleanGo_one, hr]
theorem clean_part {pre all : List (ByteArray × Bool)} (h : pre <+: all) (hn : cleanGo (pcs pre) [] false = none) : cleanGo (pcs all) [] false = none := by
  obtain ⟨t, rfl⟩ := h
  rw [show pcs (pre ++ t) = pcs pre ++ pcs t by simp [pcs], cleanGo_app, hn]; rfl
theorem clean_len : ∀ (L kept : List (List UInt8)) (op : Bool) (y : List (List UInt8) × Bool), cleanGo L kept op = some y → (slashes y.1).length ≤ (slashes kept).length + (slashes L).length ∧ y.1.length ≤ kept.length + L.length
  | [], kept, op, y, h => by simp only [cleanGo] at h; injection h with h; rw [← h]; simp
  | s :: r, kept, op, y, h => by
    rw [cleanGo_cons] at h
    cases ho : cleanOne s kept with
    | none => rw [ho] at h; cases h
    | some z =>
      rw [ho] at h
      have h1 := clean_len r z.1 z.2 y h
      have h2 : (slashes z.1).length ≤ (slashes kept).length + 1 + s.length ∧ z.1.length ≤ kept.length + 1 := by
        unfold cleanOne at ho
        split at ho
        · split at ho
          · cases ho
          · injection ho with ho; rw [← ho]; have := slashes_dropLast kept; simp only [List.length_dropLast]; omega
        · split at ho <;> injection ho with ho <;> rw [← ho]
          · simp only; omega
          · rw [show slashes (kept ++ [s]) = slashes kept ++ 47 :: s by simp [slashes]]; simp; omega
      rw [slashes_cons]; simp only [List.length_cons, List.length_append]; omega
def lastP (pre : List (ByteArray × Bool)) : Bool := (pre.getLast?.map (·.2)).getD false
theorem lastP_snoc (pre : List (ByteArray × Bool)) (x : ByteArray) (la : Bool) : lastP (pre ++ [(x, la)]) = la := by simp [lastP]
theorem lastP_all : ∀ L : List (List UInt8), L ≠ [] → lastP (pieceL L) = true
  | [], h => absurd rfl h
  | [a], _ => rfl
  | a :: b :: r, _ => by
    have ih := lastP_all (b :: r) (by simp)
    have hne : pieceL (b :: r) ≠ [] := by intro e; have := congrArg List.length e; rw [pieceL_length] at this; simp at this
    unfold lastP at ih ⊢
    rw [pieceL, List.getLast?_cons_of_ne_nil hne]; exact ih
theorem one_dot {s : List UInt8} {kept : List (List UInt8)} (h : s = [] ∨ s = [46]) : cleanOne s kept = some (kept, true) := by
  unfold cleanOne; rcases h with rfl | rfl <;> simp
theorem one_dots_no {s : List UInt8} (h : s = [46, 46]) : cleanOne s [] = none := by subst h; rfl
theorem one_dots {s : List UInt8} {kept : List (List UInt8)} (h : s = [46, 46]) (hk : kept ≠ []) : cleanOne s kept = some (kept.dropLast, true) := by
  subst h; unfold cleanOne; simp [hk]
theorem one_text {s : List UInt8} {kept : List (List UInt8)} (h1 : s ≠ [46]) (h2 : s ≠ [46, 46]) (h3 : s ≠ []) : cleanOne s kept = some (kept ++ [s], false) := by
  unfold cleanOne; simp [h1, h2, h3]
end Go.Proofs.YteigjobliflkdaaGreatDoor
/- Walk: dots.Clean. -/
namespace Go.Proofs.YteigjobliflkdaaGreatDoor
open Go.RowKit Go.Shelf
attribute [local go_sem] Oper.semAt_some

theorem two_result {fn : Func} {p q : Tmp} (h : fn.results = #[.cell p 9, .cell q 23]) {tmps : Array Value} {w : World} {g g' : Nat} {x y : Value} (hp : tmps.getD p undef = .pointer (some ⟨g, 0, none⟩)) (hq : tmps.getD q undef = .pointer (some ⟨g', 0, none⟩)) (hs : Boxed w g 9 x) (hs' : Boxed w g' 23 y) :
    (results fn tmps).run Tryz.prog w = .ok (.tuple #[x, y]) w := by
  have hp' : tmps[p]?.getD undef = .pointer (some ⟨g, 0, none⟩) := by simpa using hp
  have hq' : tmps[q]?.getD undef = .pointer (some ⟨g', 0, none⟩) := by simpa using hq
  have hc := hs.cell
  have hc' := hs'.cell
  simp [results, h, hp', hq', asAddr, go_sem, hc, hc']

/-- The boxes under way. -/
structure CleanAtW (w : World) (kept : List (List UInt8)) (la : Bool) (v : Value) (W : World) : Prop where
  keeps : KeptAt W (w.heap.size + 5) v kept
  txt : Boxed W w.heap.size 9 (.string ⟨#[]⟩)
  err : Boxed W (w.heap.size + 1) 23 (.int .i64 0)
  box : Boxed W (w.heap.size + 2) 34 v
  opn : Boxed W (w.heap.size + 3) 4 (.bool la)
  low : Below w.heap.size w W
  size : w.heap.size + 5 ≤ W.heap.size
theorem CleanAtW.blocks {w W W' : World} {kept : List (List UInt8)} {la : Bool} {v : Value} (h : CleanAtW w kept la v W) (hs : W.heap.size ≤ W'.heap.size) (hb : Below w.heap.size W W') (hk : ∀ j, w.heap.size ≤ j → j ≠ w.heap.size + 4 → (∃ o : Obj, W.heap[j]? = some o ∧ o.isCells = true) → W'.heap[j]? = W.heap[j]?) : CleanAtW w kept la v W' :=
  ⟨h.keeps.blocks hs (fun j hj ho => hk j (by omega) (by omega) ho),
   (hk _ (by omega) (by omega) ⟨_, h.txt, rfl⟩).trans h.txt, (hk _ (by omega) (by omega) ⟨_, h.err, rfl⟩).trans h.err,
   (hk _ (by omega) (by omega) ⟨_, h.box, rfl⟩).trans h.box, (hk _ (by omega) (by omega) ⟨_, h.opn, rfl⟩).trans h.opn, h.low.trans hb, Nat.le_trans h.size hs⟩
def CleanIn (w : World) (pre : List (ByteArray × Bool)) (W : World) : Prop := ∃ kept op v, cleanGo (pcs pre) [] false = some (kept, op) ∧ CleanAtW w kept (lastP pre && op) v W
def CleanOut (w : World) (pre : List (ByteArray × Bool)) (W : World) : Prop := Boxed W w.heap.size 9 (.string ⟨#[]⟩) ∧ Boxed W (w.heap.size + 1) 23 (.int .i64 18) ∧ cleanGo (pcs pre) [] false = none ∧ Below w.heap.size w W
theorem CleanIn.own (w : World) : OwnFrom (w.heap.size + 5) (CleanIn w) := by
  rintro s W W' row ⟨kept, op, v, h1, h2⟩ hg hr
  refine ⟨kept, op, v, h1, h2.blocks hg.size ?_ ?_⟩
  · exact (Below.refl _ W).grown hg (by have := h2.size; omega) (fun r e => by have := (hr r e).1; omega)
  · rintro j _ _ ⟨o, ho, hc⟩
    refine hg.block j (Array.getElem?_eq_some_iff.1 ho).1 (fun e => ?_)
    obtain ⟨_, o', ho', hc'⟩ := hr j e.symm
    rw [ho] at ho'; cases ho'; rw [hc] at hc'; cases hc'
theorem CleanOut.own (w : World) : OwnFrom (w.heap.size + 5) (CleanOut w) :=
  OwnFrom.and (own_boxed (by omega)) (OwnFrom.and (own_boxed (by omega)) (OwnFrom.and (own_pure _ _) (ownFrom_below (Nat.le_refl _) (by omega))))
theorem CleanIn.set {w W : World} {pre : List (ByteArray × Bool)} (h : CleanIn w pre W) (v : Value) : CleanIn w pre (W.setCell ⟨w.heap.size + 4, 0, none⟩ v) := by
  obtain ⟨kept, op, u, h1, h2⟩ := h
  exact ⟨kept, op, u, h1, h2.blocks (by simp) ((Below.refl _ W).setCell (p := ⟨w.heap.size + 4, 0, none⟩) (by show w.heap.size ≤ w.heap.size + 4; omega) v) (fun j _ hj _ => setCell_other hj v)⟩
theorem CleanOut.set {w W : World} {pre : List (ByteArray × Bool)} (h : CleanOut w pre W) (v : Value) : CleanOut w pre (W.setCell ⟨w.heap.size + 4, 0, none⟩ v) :=
  ⟨Boxed.other' h.1 (by omega) v, Boxed.other' h.2.1 (by omega) v, h.2.2.1, h.2.2.2.setCell (p := ⟨w.heap.size + 4, 0, none⟩) (by show w.heap.size ≤ w.heap.size + 4; omega) v⟩
/-- The open box is written. -/
theorem CleanAtW.setOpn {w W : World} {kept : List (List UInt8)} {la : Bool} {v : Value} (h : CleanAtW w kept la v W) (b : Bool) : CleanAtW w kept b v (W.setCell ⟨w.heap.size + 3, 0, none⟩ (.bool b)) :=
  ⟨h.keeps.set (by omega) _, Boxed.other' h.txt (by omega) _, Boxed.other' h.err (by omega) _, Boxed.other' h.box (by omega) _, Boxed.set h.opn _,
   h.low.setCell (p := ⟨w.heap.size + 3, 0, none⟩) (by show w.heap.size ≤ w.heap.size + 3; omega) _, by have := h.size; simpa using this⟩
/-- The kept box is written. -/
theorem CleanAtW.setBox {w W : World} {kept kept' : List (List UInt8)} {la : Bool} {v u : Value} (h : CleanAtW w kept la v W) (hk : KeptAt W (w.heap.size + 5) u kept') : CleanAtW w kept' la u (W.setCell ⟨w.heap.size + 2, 0, none⟩ u) :=
  ⟨hk.set (by omega) _, Boxed.other' h.txt (by omega) _, Boxed.other' h.err (by omega) _, Boxed.set h.box _, Boxed.other' h.opn (by omega) _,
   h.low.setCell (p := ⟨w.heap.size + 2, 0, none⟩) (by show w.heap.size ≤ w.heap.size + 2; omega) _, by have := h.size; simpa using this⟩
/-- A text was appended. -/
theorem CleanAtW.grow {w W w' : World} {kept : List (List UInt8)} {la : Bool} {v v' : Value} {t : ByteArray} {row : Option Nat} (h : CleanAtW w kept la v W) (h0 : 0 < w.heap.size) (hg : (W.alloc (.cells #[.string t] 9)).grownBy w' row) (hr : ∀ r, row = some r → w.heap.size + 5 ≤ r ∧ ∃ o : Obj, W.heap[r]? = some o ∧ o.isCells = true)
    (hown : w'.ownsRow (w.heap.size + 5) 9 1 v' (kept.length + 1) (kept.map S ++ [S t.data.toList])) :
    Boxed w' (w.heap.size + 2) 34 v ∧ KeepsFrom (w.heap.size + 5) W (w'.setCell ⟨w.heap.size + 2, 0, none⟩ v') ∧ Two 0 (w.heap.size + 4) W (w'.setCell ⟨w.heap.size + 2, 0, none⟩ v') ∧ CleanAtW w (kept ++ [t.data.toList]) la v' (w'.setCell ⟨w.heap.size + 2, 0, none⟩ v') := by
  have hsz := h.size
  have hlow : ∀ j, j < w.heap.size + 5 → w'.heap[j]? = W.heap[j]? := fun j hj =>
    (hg.block j (by simp; omega) (fun e => by have := (hr j e.symm).1; omega)).trans (Below.heap_alloc _ _ _ (by omega))
  have hK : KeepsFrom (w.heap.size + 5) W w' := ((KeepsOthers.alloc W _).trans (KeepsOthers.of_grownBy hg (fun j o e ho => by
    obtain ⟨_, o', ho', hc⟩ := hr j e
    rw [(Below.heap_alloc W (.cells #[.string t] 9) j (Array.getElem?_eq_some_iff.1 ho').1), ho'] at ho
    cases ho; exact hc))).from _
  have hbel : Below w.heap.size W w' := ((Below.refl _ W).alloc (by omega) _).grown hg (by simp; omega) (fun r e => by have := (hr r e).1; omega)
  refine ⟨(hlow _ (by omega)).trans h.box, hK.trans ((KeepsOthers.setCell _ _ _).from _), ⟨(setCell_other (by omega) _).trans (hlow _ (by omega)), (setCell_other (by omega) _).trans (hlow _ (by omega))⟩, ?_⟩
  refine ⟨KeptAt.set (.inl (by rw [List.length_append, List.map_append]; exact hown)) (by omega) _, Boxed.other' ((hlow _ (by omega)).trans h.txt) (by omega) _, Boxed.other' ((hlow _ (by omega)).trans h.err) (by omega) _, Boxed.set ((hlow _ (by omega)).trans h.box) _, Boxed.other' ((hlow _ (by omega)).trans h.opn) (by omega) _,
    (h.low.trans hbel).setCell (p := ⟨w.heap.size + 2, 0, none⟩) (by show w.heap.size ≤ w.heap.size + 2; omega) _, ?_⟩
  have := hK.size
  simp; omega
theorem CleanAtW.fail {w W : World} {kept : List (List UInt8)} {la : Bool} {v : Value} {pre : List (ByteArray × Bool)} (h : CleanAtW w kept la v W) (hn : cleanGo (pcs pre) [] false = none) : CleanOut w pre ((W.setCell ⟨w.heap.size, 0, none⟩ (.string ⟨#[]⟩)).setCell ⟨w.heap.size + 1, 0, none⟩ (.int .i64 18)) :=
  ⟨Boxed.other' (Boxed.set h.txt _) (by omega) _, Boxed.set (Boxed.other' h.err (by omega) _) _, hn,
   (h.low.setCell (p := ⟨w.heap.size, 0, none⟩) (Nat.le_refl _) _).setCell (p := ⟨w.heap.size + 1, 0, none⟩) (by show w.heap.size ≤ w.heap.size + 1; omega) _⟩
theorem two_set (W : World) {b : Nat} {B : Nat} (h0 : 0 ≠ b) (h1 : B ≠ b) (v : Value) : Two 0 B W (W.setCell ⟨b, 0, none⟩ v) := ⟨setCell_other h0 v, setCell_other h1 v⟩
theorem Boxed.alloc {W : World} {B t : Nat} {v : Value} (h : Boxed W B t v) (o : Obj) : Boxed (W.alloc o) B t v := (Below.heap_alloc _ _ _ (Array.getElem?_eq_some_iff.1 h).1).trans h
theorem Boxed.new' (W : World) (k t : Nat) (v : Value) (h : k = W.heap.size) : Boxed (W.alloc (.cells #[v] t)) k t v := by subst h; exact Boxed.new _ _ _
theorem dPut_pos (kept : List (List UInt8)) : dPut kept (decide (0 < kept.length)) = dPut kept true := by
  rw [dPut_eq, dPut_eq]
  cases kept with
  | nil => simp
  | cons a l => simp

set_option maxRecDepth 100000 in
set_option maxHeartbeats 8000000 in
theorem clean_in (s : ByteArray) (w : World) (hG : Good w) (h0 : 0 < s.size) (hs : s.size ≤ 50000) (h47 : s[0].toNat = 47) :
    CallsIn Fence.wide 3 Tryz.prog 147 #[.string s] w (RetV (cleanT (match cleanGo (segs 47 s.data.toList.tail) [] false with | none => .error 18 | some x => .ok (dPut x.1 x.2))) w) := by
  obtain ⟨r, hr⟩ : ∃ r : Except Int (List UInt8), (match cleanGo (segs 47 s.data.toList.tail) [] false with | none => .error 18 | some x => .ok (dPut x.1 x.2)) = r := ⟨_, rfl⟩
  rw [hr]
  have hne : s.toList.isEmpty = false := by rw [Lib.toList_data]; simp; intro e; rw [← size_len, e] at h0; simp at h0
  have e47 : ((s[0].toNat : Int) != 47) = false := by simp; omega
  have i1 : (1 : Int) ≤ s.size := by omega
  obtain ⟨p, hp⟩ : ∃ p, s.extract 1 s.size = p := ⟨_, rfl⟩
  have hpl : p.data.toList = s.data.toList.tail := by rw [← hp, Lib.extract_data, ← List.drop_one]; exact List.take_of_length_le (by simp)
  have hps : p.size ≤ 50000 := by rw [← size_len, hpl, List.length_tail, size_len]; omega
  rw [← hpl] at hr
  have HR := Lib.hid hr
  clear hr
  obtain ⟨m, hm⟩ := hG.maxlen
  clear h47 hpl
  refine callsIn_of_wp_marks Tryz.func147 rfl trivial ?_ rfl
  simp only [Tryz.ntmps147, List.size_toArray, List.length_cons, List.length_nil, Nat.reduceAdd, Nat.reduceSub, Array.replicate_succ, Array.replicate_zero, List.push_toArray, List.append_toArray, List.nil_append, List.cons_append]
  gi_wp2_with fail
  refine ⟨trivial, (pieces_in 2 _ _).mono ?_⟩
  rintro e w2 ⟨rfl, hw2⟩
  have h8 := hG.size
  have hsz : w2.heap.size = w.heap.size + 5 := by rw [hw2]; simp
  have hC0 : CleanIn w [] w2 := by
    refine ⟨[], false, .slice none 0 0, rfl, KeptAt.nil _ _, ?_, ?_, ?_, ?_, ?_, by omega⟩
    · rw [hw2]; exact ((((Boxed.new' _ _ _ _ rfl).alloc _).alloc _).alloc _).alloc _
    · rw [hw2]; exact (((Boxed.new' _ _ _ _ (by simp)).alloc _).alloc _).alloc _
    · rw [hw2]; exact ((Boxed.new' _ _ _ _ (by simp)).alloc _).alloc _
    · rw [hw2]; exact (Boxed.new' _ _ _ _ (by simp)).alloc _
    · rw [hw2]; exact (((((Below.refl _ _).alloc (Nat.le_refl _) _).alloc (by simp) _).alloc (by simp; omega) _).alloc (by simp; omega) _).alloc (by simp; omega) _
  have hBp : Boxed w2 (w.heap.size + 4) 9 (.string p) := by rw [hw2]; exact Boxed.new' _ _ _ _ (by simp)
  have hB2 : Below w.heap.size w w2 := by obtain ⟨_, _, _, _, h⟩ := hC0; exact h.low
  have hm2 : w2.cell? ⟨0, 0, none⟩ = some (.int .i64 m) := (hB2.cell (p := ⟨0, 0, none⟩) (World.block_lt_of_cell? w _ hm)).trans hm
  clear hw2 hm
  gi_wp2
  rw [show w.heap.size + 1 + 1 + 1 + 1 = w.heap.size + 4 from rfl, show w.heap.size + 1 + 1 + 1 = w.heap.size + 3 from rfl, show w.heap.size + 1 + 1 = w.heap.size + 2 from rfl]
  have hlen : (segs 47 p.data.toList).length ≤ 50001 := by
    have := segs_le 47 p.data.toList
    rw [size_len] at this; omega
  refine rangeBox (n := 3) (by omega) (gf := 187) (lb := #[.pointer (some ⟨w.heap.size + 4, 0, none⟩)]) rfl (enters_of Tryz.func187 (by kernel_rfl) rfl) (by omega) (by omega)
    (pieces1_box 2 (by omega) (w.heap.size + 4) p w2 m hm2 hBp (by omega) (by omega)) (fun _ => rfl) (CleanIn w) (CleanOut w) (hsz ▸ CleanIn.own w) (hsz ▸ CleanOut.own w)
    (fun _ _ v h => CleanIn.set h v) (fun _ _ v h => CleanOut.set h v)
    hC0 ?a1 ?assign ?body ?done ?stop
  case assign =>
    intro l x W K hK
    gi_wp2
    exact hK
  case body =>
    rintro l pre ⟨x, la⟩ W ⟨kept, op, v, hgo, hat⟩ hlt
    have hb0 := hat.txt.cell
    have hf0 := hat.txt.frozen
    have hb1 := hat.err.cell
    have hf1 := hat.err.frozen
    have hb2 := hat.box.cell
    have hf2 := hat.box.frozen
    have hb3 := hat.opn.cell
    have hf3 := hat.opn.frozen
    obtain ⟨xl, rfl⟩ : ∃ xl : List UInt8, x = ⟨xl.toArray⟩ := ⟨x.data.toList, (bs_mk x).symm⟩
    have HT := Lib.hid hat
    have hkl : kept.length ≤ 60000 := by
      have := (clean_len _ _ _ _ hgo).2
      simp only [pcs, List.length_nil, List.length_map] at this
      omega
    have HGO := Lib.hid (fun r h => clean_step (x := ⟨xl.toArray⟩) (la := la) (r := r) hgo h)
    clear hat hgo
    have hW := HT.out.size
    rcases piece_kinds xl with rfl | rfl | rfl | ⟨n1, n2, n3⟩
    · have HM := Lib.hid (HGO.out _ (one_dot (.inr rfl)))
      have HD := Lib.hid (dotted_B (s := ⟨#[46]⟩) (b := true) rfl)
      cases la with
      | true =>
        gi_wp2_with fail
        refine ⟨trivial, (inRoundC l (callsIn_wide.2 (HD.out _))).mono ?_⟩
        rintro e W' ⟨rfl, rfl⟩
        gi_wp2
        exact ⟨(KeepsOthers.setCell _ _ _).from _, two_set _ (by omega) (by omega) _, _, _, _, HM.out, by rw [lastP_snoc]; exact HT.out.setOpn _⟩
      | false =>
        gi_wp2
        · rename_i hh _; exact absurd hh (by simp [undef])
        · rename_i hh _; exact absurd hh (by simp [undef])
        refine ⟨trivial, ?_⟩
        gi_wp2
        exact ⟨(KeepsOthers.setCell _ _ _).from _, two_set _ (by omega) (by omega) _, _, _, _, HM.out, by rw [lastP_snoc]; exact HT.out.setOpn _⟩
    · have HD := Lib.hid (dotted_B (s := ⟨#[46, 46]⟩) (b := true) rfl)
      by_cases hk0 : kept = []
      · subst hk0
        have HM := Lib.hid (HGO.out _ (one_dots_no rfl))
        obtain ⟨ao, cap, rfl, hcap, hc⟩ := HT.out.keeps.form
        clear hcap hc
        cases la with
        | true =>
          gi_wp2_with fail
          refine ⟨trivial, (inRoundC l (callsIn_wide.2 (HD.out _))).mono ?_⟩
          rintro e W' ⟨rfl, rfl⟩
          gi_wp2
          exact ⟨(((KeepsOthers.setCell _ _ _).from _).trans ((KeepsOthers.setCell _ _ _).from _)).trans ((KeepsOthers.setCell _ _ _).from _), (HT.out.setOpn _).fail HM.out⟩
        | false =>
          gi_wp2_with fail
          · rename_i hh _; exact absurd hh (by simp [undef])
          · rename_i hh _; exact absurd hh (by simp [undef])
          refine ⟨trivial, ?_⟩
          gi_wp2
          exact ⟨(((KeepsOthers.setCell _ _ _).from _).trans ((KeepsOthers.setCell _ _ _).from _)).trans ((KeepsOthers.setCell _ _ _).from _), (HT.out.setOpn _).fail HM.out⟩
      · have HM := Lib.hid (HGO.out _ (one_dots rfl hk0))
        have hlp : 0 < kept.length := List.length_pos_iff.2 hk0
        obtain ⟨ao, cap, hv, hcap, hc⟩ := HT.out.keeps.form
        rcases hc with hc | ⟨g, rfl, hg1, hg2, hg3⟩
        · exact absurd hc hk0
        subst hv
        clear hg1 hg2 hg3
        have d3 : ((kept.length : Int) == 0) = false := by rw [beq_eq_false_iff_ne]; omega
        have HP := Lib.hid (fun b => (HT.out.setOpn b).setBox ((HT.out.setOpn b).keeps.pop hk0))
        clear hk0
        cases la with
        | true =>
          gi_wp2_with fail
          refine ⟨trivial, (inRoundC l (callsIn_wide.2 (HD.out _))).mono ?_⟩
          rintro e W' ⟨rfl, rfl⟩
          gi_wp2
          exact ⟨((KeepsOthers.setCell _ _ _).from _).trans ((KeepsOthers.setCell _ _ _).from _), (two_set _ (by omega) (by omega) _).trans (two_set _ (by omega) (by omega) _), _, _, _, HM.out, by rw [lastP_snoc]; exact HP.out _⟩
        | false =>
          gi_wp2_with fail
          · rename_i hh _; exact absurd hh (by simp [undef])
          · rename_i hh _; exact absurd hh (by simp [undef])
          refine ⟨trivial, ?_⟩
          gi_wp2
          exact ⟨((KeepsOthers.setCell _ _ _).from _).trans ((KeepsOthers.setCell _ _ _).from _), (two_set _ (by omega) (by omega) _).trans (two_set _ (by omega) (by omega) _), _, _, _, HM.out, by rw [lastP_snoc]; exact HP.out _⟩
    · have HM := Lib.hid (HGO.out _ (one_dot (.inl rfl)))
      cases la with
      | true =>
        gi_wp2
        refine ⟨trivial, ?_⟩
        gi_wp2
        exact ⟨(KeepsOthers.setCell _ _ _).from _, two_set _ (by omega) (by omega) _, _, _, _, HM.out, by rw [lastP_snoc]; exact HT.out.setOpn _⟩
      | false =>
        gi_wp2
        · rename_i hh _; exact absurd hh (by simp [undef])
        · rename_i hh _; exact absurd hh (by simp [undef])
        refine ⟨trivial, ?_⟩
        gi_wp2
        exact ⟨(KeepsOthers.setCell _ _ _).from _, two_set _ (by omega) (by omega) _, _, _, _, HM.out, by rw [lastP_snoc]; exact HT.out.setOpn _⟩
    · have HM := Lib.hid (HGO.out _ (one_text n1 n2 n3))
      have HD := Lib.hid (dotted_B (s := ⟨xl.toArray⟩) (b := false) (by simp [dottedB, n1, n2]))
      obtain ⟨xb, hxb⟩ : ∃ xb : ByteArray, (⟨xl.toArray⟩ : ByteArray) = xb := ⟨_, rfl⟩
      have hxl : xl = xb.data.toList := by rw [← hxb]
      subst hxl
      rw [bs_mk] at HD HM HGO
      simp only [bs_mk]
      have f1 := bytes_ne n1
      have f2 := bytes_ne n2
      have f3 := bytes_ne n3
      have f4 : xb.toList.isEmpty = false := by rw [Lib.toList_data]; simpa using n3
      clear n1 n2 n3 hxb
      cases la with
      | true =>
        gi_wp2_with fail
        refine ⟨trivial, (inRoundC l (callsIn_wide.2 (HD.out _))).mono ?_⟩
        rintro e W' ⟨rfl, rfl⟩
        have HT1 := Lib.hid (HT.out.setOpn false)
        have hz := HT1.out.size
        gi_wp2_with (gi_at_builtin; refine wpAppKeptIn rfl _ _ rfl HT1.out.keeps rfl (by simp) rfl (by omega) hz ?_)
        intro v' w' row hown hg hr
        obtain ⟨hb, k1, k2, k3⟩ := HT1.out.grow (by omega) hg hr hown
        obtain ⟨ao, cap, hv', hcap, hc⟩ := k3.keeps.form
        rw [List.length_append, List.length_singleton] at hv'
        subst hv'
        clear hcap hc
        have hbc := hb.cell
        have hbf := hb.frozen
        have HK := Lib.hid (And.intro k1 (And.intro k2 k3))
        clear hb k1 k2 k3 hown hg hr
        gi_wp2
        exact ⟨((KeepsOthers.setCell _ _ _).from _).trans HK.out.1, (two_set _ (by omega) (by omega) _).trans HK.out.2.1, _, _, _, HM.out, by rw [lastP_snoc]; exact HK.out.2.2⟩
      | false =>
        gi_wp2_with fail
        · rename_i hh _; exact absurd hh (by simp [undef])
        · rename_i hh _; exact absurd hh (by simp [undef])
        refine ⟨trivial, ?_⟩
        have HT1 := Lib.hid (HT.out.setOpn false)
        have hz := HT1.out.size
        gi_wp2_with (gi_at_builtin; refine wpAppKeptIn rfl _ _ rfl HT1.out.keeps rfl (by simp) rfl (by omega) hz ?_)
        intro v' w' row hown hg hr
        obtain ⟨hb, k1, k2, k3⟩ := HT1.out.grow (by omega) hg hr hown
        obtain ⟨ao, cap, hv', hcap, hc⟩ := k3.keeps.form
        rw [List.length_append, List.length_singleton] at hv'
        subst hv'
        clear hcap hc
        have hbc := hb.cell
        have hbf := hb.frozen
        have HK := Lib.hid (And.intro k1 (And.intro k2 k3))
        clear hb k1 k2 k3 hown hg hr
        gi_wp2
        exact ⟨((KeepsOthers.setCell _ _ _).from _).trans HK.out.1, (two_set _ (by omega) (by omega) _).trans HK.out.2.1, _, _, _, HM.out, by rw [lastP_snoc]; exact HK.out.2.2⟩
  case done =>
    rintro D ys W hD rfl ⟨kept, op, v, hgo, hat⟩ hK
    have hDw : w.heap.size ≤ D := by omega
    have hb0 := hat.txt.cell
    have hf0 := hat.txt.frozen
    have hb1 := hat.err.cell
    have hf1 := hat.err.frozen
    have hb2 := hat.box.cell
    have hb3 := hat.opn.cell
    rw [lastP_all _ (segs_ne 47 _), Bool.true_and] at hb3
    have hL := clean_len _ _ _ _ hgo
    rw [pcs_all] at hgo hL
    rw [segs_slashes, size_len] at hL
    simp only [slashes, List.flatMap_nil, List.length_nil] at hL
    have HGO := Lib.hid hgo
    obtain ⟨ao, cap, hv, hcap, hc⟩ := hat.keeps.form
    have HB := Lib.hid (fun (b : Bool) => built_any (w := W) (v := v) (L := kept) b ⟨ao, cap, hv, fun j hj => by
      rcases hc with rfl | ⟨g, e, _, _, h⟩
      · cases hj
      · exact ⟨g, e, h j hj⟩⟩ (by omega) (by unfold slashes; omega))
    have HT := Lib.hid hat
    clear hat hgo hc
    have hz0 := HT.out.size
    have HX := Lib.hid (show r = .ok (dPut kept op) by rw [← HR.out, HGO.out])
    cases op with
    | true =>
      subst hv
      gi_wp2_with fail
      refine ⟨trivial, (callsIn_wide.2 (HB.out _)).mono ?_⟩
      rintro e W' ⟨rfl, hB1⟩
      rw [dPut_pos]
      have hbx : Boxed W' w.heap.size 9 (.string ⟨#[]⟩) := (hB1.block _ (by omega)).trans HT.out.txt
      have hex : Boxed W' (w.heap.size + 1) 23 (.int .i64 0) := (hB1.block _ (by omega)).trans HT.out.err
      have hK' : W'.heap[D]? = some (.deferred (some [])) := (hB1.block _ (Array.getElem?_eq_some_iff.1 hK).1).trans hK
      have c0 := hbx.cell
      have c1 := hbx.frozen
      have c2 := hex.cell
      have c3 := hex.frozen
      have HA := Lib.hid hbx
      have HE := Lib.hid hex
      have HBB := Lib.hid (HT.out.low.trans (hB1.mono (show w.heap.size ≤ W.heap.size by omega)))
      clear hbx hex hB1
      unfold S
      gi_wp2
      have hK2 : ((W'.setCell ⟨w.heap.size, 0, none⟩ (.string ⟨(dPut kept true).toArray⟩)).setCell ⟨w.heap.size + 1, 0, none⟩ (.int .i64 0)).heap[D]? = some (.deferred (some [])) := (setCell_other (by omega) _).trans ((setCell_other (by omega) _).trans hK')
      refine ⟨by simp, .inl ⟨_, _, rfl, run_takeDeferred hK2, ?_⟩⟩
      exact ⟨_, two_result Tryz.results147 rfl rfl (Boxed.put (Boxed.other' (Boxed.set HA.out _) (by omega) _) (by omega)) (Boxed.put (Boxed.set (Boxed.other' HE.out (by omega) _) _) (by omega)), RetV.mk (by rw [HX.out]; rfl) (((HBB.out.setCell (p := ⟨w.heap.size, 0, none⟩) (Nat.le_refl _) _).setCell (p := ⟨w.heap.size + 1, 0, none⟩) (by show w.heap.size ≤ w.heap.size + 1; omega) _).trans (belowK_b (w := w) (Nat.le_refl _) _ D _ _ hDw hK2 rfl rfl))⟩
    | false =>
      subst hv
      gi_wp2_with fail
      refine ⟨trivial, (callsIn_wide.2 (HB.out _)).mono ?_⟩
      rintro e W' ⟨rfl, hB1⟩
      have hbx : Boxed W' w.heap.size 9 (.string ⟨#[]⟩) := (hB1.block _ (by omega)).trans HT.out.txt
      have hex : Boxed W' (w.heap.size + 1) 23 (.int .i64 0) := (hB1.block _ (by omega)).trans HT.out.err
      have hK' : W'.heap[D]? = some (.deferred (some [])) := (hB1.block _ (Array.getElem?_eq_some_iff.1 hK).1).trans hK
      have c0 := hbx.cell
      have c1 := hbx.frozen
      have c2 := hex.cell
      have c3 := hex.frozen
      have HA := Lib.hid hbx
      have HE := Lib.hid hex
      have HBB := Lib.hid (HT.out.low.trans (hB1.mono (show w.heap.size ≤ W.heap.size by omega)))
      clear hbx hex hB1
      unfold S
      gi_wp2
      have hK2 : ((W'.setCell ⟨w.heap.size, 0, none⟩ (.string ⟨(dPut kept false).toArray⟩)).setCell ⟨w.heap.size + 1, 0, none⟩ (.int .i64 0)).heap[D]? = some (.deferred (some [])) := (setCell_other (by omega) _).trans ((setCell_other (by omega) _).trans hK')
      refine ⟨by simp, .inl ⟨_, _, rfl, run_takeDeferred hK2, ?_⟩⟩
      exact ⟨_, two_result Tryz.results147 rfl rfl (Boxed.put (Boxed.other' (Boxed.set HA.out _) (by omega) _) (by omega)) (Boxed.put (Boxed.set (Boxed.other' HE.out (by omega) _) _) (by omega)), RetV.mk (by rw [HX.out]; rfl) (((HBB.out.setCell (p := ⟨w.heap.size, 0, none⟩) (Nat.le_refl _) _).setCell (p := ⟨w.heap.size + 1, 0, none⟩) (by show w.heap.size ≤ w.heap.size + 1; omega) _).trans (belowK_b (w := w) (Nat.le_refl _) _ D _ _ hDw hK2 rfl rfl))⟩
  case stop =>
    rintro D pre W hD hpre ⟨ht, he, hn, hB⟩ hK
    have hDw : w.heap.size ≤ D := by omega
    have hDn : w.heap.size ≠ D := by omega
    have hDm : w.heap.size + 1 ≠ D := by omega
    have HN := Lib.hid (clean_part hpre hn)
    have HT := Lib.hid ht
    have HE := Lib.hid he
    clear ht he hn hpre
    gi_wp2
    refine ⟨by simp, .inl ⟨_, _, rfl, run_takeDeferred hK, ?_⟩⟩
    exact ⟨_, two_result Tryz.results147 rfl rfl (Boxed.put HT.out hDn) (Boxed.put HE.out hDm), RetV.mk (by have h := HN.out; rw [pcs_all] at h; rw [← HR.out, h]; rfl) (hB.trans (belowK_b (w := w) (Nat.le_refl _) _ D _ _ hDw hK rfl rfl))⟩

/-- Clean. -/
theorem cleanP_any (s : ByteArray) (w : World) (hG : Good w) (hs : s.size ≤ 50000) : Calls Tryz.prog 147 #[.string s] w (RetV (cleanT (dClean s.data.toList)) w) := by
  by_cases h0 : s.size = 0
  · have hl : s.data.toList = [] := List.length_eq_zero_iff.1 (by rw [size_len]; exact h0)
    have hs0 : s = ⟨#[]⟩ := by rw [← bs_mk s, hl]
    subst hs0
    go_enter Tryz.func147, Tryz.ntmps147
    go_wp2_with fail
    exact bodyPost_ret (two_result Tryz.results147 rfl rfl ((Boxed.new' _ _ _ _ rfl).alloc _) (Boxed.new' _ _ _ _ (by simp))) rfl (RetV.mk rfl (((Below.refl _ _).alloc (Nat.le_refl _) _).alloc (by simp) _))
  have hpos : 0 < s.size := by omega
  have hh : s.data.toList.head? = some s[0] := by
    rw [List.head?_eq_getElem?, List.getElem?_eq_getElem (by rw [size_len]; exact hpos)]; rfl
  by_cases h47 : s[0].toNat = 47
  · have e := clean_in s w hG hpos hs h47
    have hE : dClean s.data.toList = match cleanGo (segs 47 s.data.toList.tail) [] false with | none => .error 18 | some x => .ok (dPut x.1 x.2) := by
      unfold dClean
      rw [hh, show (some s[0] == some (47 : UInt8)) = true by rw [beq_iff_eq]; exact congrArg some (UInt8.toNat_inj.1 h47)]; rfl
    rw [hE]
    exact callsIn_wide.1 e
  · have HE := Lib.hid (show dClean s.data.toList = .error 3 by
      unfold dClean
      rw [hh, show (some s[0] == some (47 : UInt8)) = false by rw [beq_eq_false_iff_ne]; intro e; injection e with e; rw [e] at h47; exact h47 rfl]
      rfl)
    have e47 : ((s[0].toNat : Int) != 47) = true := by simp; omega
    have hne : s.toList.isEmpty = false := by rw [Lib.toList_data]; simp; intro e; rw [← size_len, e] at h0; simp at h0
    clear h47 hh
    go_enter Tryz.func147, Tryz.ntmps147
    go_wp2_with fail
    exact bodyPost_ret (two_result Tryz.results147 rfl rfl ((Boxed.new' _ _ _ _ rfl).alloc _) (Boxed.new' _ _ _ _ (by simp))) rfl (RetV.mk (by rw [HE.out]; rfl) (((Below.refl _ _).alloc (Nat.le_refl _) _).alloc (by simp) _))
end Go.Proofs.YteigjobliflkdaaGreatDoor
