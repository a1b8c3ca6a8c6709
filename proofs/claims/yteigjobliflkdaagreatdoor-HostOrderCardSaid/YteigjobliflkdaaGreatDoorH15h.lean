/- Walk: host.Under. -/
import Derived.Test.YteigjobliflkdaaGreatDoorH15g
import Derived.Maps.Own
import Derived.Maps.Views
namespace Go.Proofs.YteigjobliflkdaaGreatDoor
open Go.RowKit

def joinS (c : UInt8) : List (List UInt8) → List UInt8
  | [] => []
  | [a] => a
  | a :: b :: t => a ++ c :: joinS c (b :: t)
theorem join_segs (c : UInt8) : ∀ l : List UInt8, joinS c (segs c l) = l
  | [] => rfl
  | b :: l => by
    have ih := join_segs c l
    unfold segs
    split
    · rename_i e; subst e
      cases h : segs b l with
      | nil => exact absurd h (segs_ne b l)
      | cons x t => rw [h] at ih; simp [joinS, ih]
    · split
      · rename_i h; exact absurd h (segs_ne c l)
      · rename_i x t h
        rw [h] at ih
        cases t with
        | nil => simp [joinS] at ih ⊢; exact ih
        | cons y t => simp [joinS] at ih ⊢; exact ih
theorem segs_inj (c : UInt8) {x y : List UInt8} (h : segs c x = segs c y) : x = y := by rw [← join_segs c x, h, join_segs]

/-- acc: the names that lie in the map; cur: the one at hand. -/
def UnderAt (A : List UInt8) (acc : List (List UInt8)) (cur : List UInt8) : Prop := ∀ x, (segs 46 x <:+ segs 46 A) ↔ (x ∈ acc ∨ segs 46 x <:+ segs 46 cur)
theorem UnderAt.start (A : List UInt8) : UnderAt A [] A := fun x => by simp
theorem UnderAt.next {A : List UInt8} {acc : List (List UInt8)} {cur : List UInt8} (h : UnderAt A acc cur) (hc : (cut1 46 cur).2.2 = true) : UnderAt A (acc ++ [cur]) (cut1 46 cur).2.1 := fun x => by
  have e : segs 46 cur = (cut1 46 cur).1 :: segs 46 (cut1 46 cur).2.1 := by rw [segs_cut 46 cur, hc]; simp
  rw [h x, List.mem_append, List.mem_singleton, e, List.suffix_cons_iff, ← e, or_assoc]
  constructor
  · rintro (h | h | h)
    · exact Or.inl h
    · exact Or.inr (Or.inl (segs_inj 46 h))
    · exact Or.inr (Or.inr h)
  · rintro (h | h | h)
    · exact Or.inl h
    · exact Or.inr (Or.inl (by rw [h]))
    · exact Or.inr (Or.inr h)
theorem UnderAt.last {A : List UInt8} {acc : List (List UInt8)} {cur : List UInt8} (h : UnderAt A acc cur) (hc : (cut1 46 cur).2.2 = false) (x : List UInt8) : (segs 46 x).isSuffixOf (segs 46 A) = decide (x ∈ acc ++ [cur]) := by
  have e : segs 46 cur = [cur] := by rw [segs_cut 46 cur, hc]; simp
  rw [Bool.eq_iff_iff, List.isSuffixOf_iff_suffix, decide_eq_true_eq, h x, List.mem_append, List.mem_singleton]
  constructor
  · rintro (h | h)
    · exact Or.inl h
    · refine Or.inr (segs_inj 46 ?_)
      rw [e] at h ⊢
      rcases List.suffix_cons_iff.1 h with h | h
      · exact h
      · exact absurd (List.suffix_nil.1 h) (segs_ne 46 x)
  · rintro (h | h)
    · exact Or.inl h
    · exact Or.inr (by rw [h]; exact List.suffix_refl _)

/-- The set of names in the map. -/
noncomputable def names (acc : List (List UInt8)) : DataW Unit := Maps.setOf (.lit (.bool true)) (acc.map Lit.string)
theorem names_snoc (acc : List (List UInt8)) (x : List UInt8) : names (acc ++ [x]) = (names acc).put (.string x) (.lit (.bool true)) := by
  unfold names; rw [List.map_append, List.map_singleton, Maps.setOf_snoc]
theorem names_map : ∀ (n : Nat) (acc : List (List UInt8)), acc.length = n → Maps.IsMap (names acc)
  | 0, acc, h => by
    have := List.length_eq_zero_iff.1 h
    subst this; exact ⟨[], rfl⟩
  | n + 1, acc, h => by
    rcases List.eq_nil_or_concat acc with rfl | ⟨acc, y, rfl⟩
    · simp at h
    · rw [List.concat_eq_append] at h ⊢
      rw [names_snoc]
      exact (names_map n acc (by simpa using h)).put _ _
theorem names_at (x : List UInt8) (z : DataW Unit) : ∀ (n : Nat) (acc : List (List UInt8)), acc.length = n → (names acc).atKey (.string x) z = if x ∈ acc then .lit (.bool true) else z
  | 0, acc, h => by
    have := List.length_eq_zero_iff.1 h
    subst this; rfl
  | n + 1, acc, h => by
    rcases List.eq_nil_or_concat acc with rfl | ⟨acc, y, rfl⟩
    · simp at h
    · rw [List.concat_eq_append] at h ⊢
      rw [names_snoc]
      by_cases e : y = x
      · subst e
        rw [Maps.atKey_put_same (names_map _ acc rfl) (by simp [WideAt.IsKeyLit]), if_pos (by simp)]
      · rw [Maps.atKey_put_other (by intro e'; injection e' with e'; exact e e'.symm), names_at x z n acc (by simpa using h)]
        simp [Ne.symm e]

theorem plainElem_bool_inv {P : Program} {e : TypeId} (he : P.underlying e = some .bool) {v : Value} {z : DataW Unit × List MemPlace} (h : plainElem P e v = some z) : ∃ a, v = .bool a ∧ z = (.lit (.bool a), []) := by
  unfold plainElem at h
  rw [he] at h
  cases v <;> simp at h
  subst h
  exact ⟨_, rfl, rfl⟩
theorem zero4 (w : World) : (zeroValue 4).run Tryz.prog w = .ok (.bool false) w := by kernel_rfl
theorem lookup_name {w : World} {b n : Nat} {acc : List (List UInt8)} (h : w.ownsMap Tryz.prog 9 (plainElem Tryz.prog 4) b n (names acc)) (s : ByteArray) (hs : s.size ≤ 60000) :
    (Instr.lookup 81 (.map (some b)) (.string s) false).run Tryz.prog w = .ok (.bool (decide (s.data.toList ∈ acc))) w := by
  obtain ⟨v, ps, hrun, hv⟩ := h.lookup (Maps.string_keyed Tryz.underlying9) Tryz.underlying81 (zero4 w) (plainElem_bool Tryz.underlying4 false) (WideMaps.keyOf_string_mk Tryz.underlying9 (s := s) (by unfold maxLen; omega))
  rw [names_at _ _ _ acc rfl] at hv
  rw [hrun]
  obtain ⟨a, rfl, hz⟩ := plainElem_bool_inv Tryz.underlying4 hv
  by_cases hm : s.data.toList ∈ acc
  · rw [if_pos hm] at hz; simp at hz; rw [hz.1]; simp [hm]
  · rw [if_neg hm] at hz; simp at hz; rw [hz.1]; simp [hm]

theorem map_below {w w' : World} {b n : Nat} {D : DataW Unit} (h : w.ownsMap Tryz.prog 9 (plainElem Tryz.prog 4) b n D) (hB : Below w.heap.size w w') : w'.ownsMap Tryz.prog 9 (plainElem Tryz.prog 4) b n D := by
  have hl := h.lt
  obtain ⟨es, clock, hb, r⟩ := h
  exact ⟨es, clock, by rw [hB.block b hl]; exact hb, r⟩

def strLen : Value → Nat
  | .string s => s.size
  | _ => 0

set_option maxRecDepth 100000 in
set_option maxHeartbeats 1600000 in
theorem under_any (s t : ByteArray) (w : World) (hG : Good w) (hs : s.size ≤ 60000) (ht : t.size ≤ 60000) :
    Calls Tryz.prog 22 #[.string s, .string t] w (RetV (vBool (hostUnder s.data.toList t.data.toList)) w) := by
  have HC := Lib.hid (two_cells w s t)
  have hG1 := hG.next (one_below w (.cells #[.string s, .string t] 9))
  have hmm := @run_makeMap Tryz.prog
  cases hh : hostSplit s.data.toList with
  | error x =>
    have hx := (err_ne hh).1
    have HE := Lib.hid (show hostUnder s.data.toList t.data.toList = (false, x) by unfold hostUnder; rw [hh])
    have HH := Lib.hid hh
    clear hh
    go_enter Tryz.func22, Tryz.ntmps22
    go_wp2_with fail
    refine (splits2_err1 HH.out _ hG1 hs ht (by simp) HC.out.1 HC.out.2).mono ?_
    rintro e w1 ⟨rfl, HB⟩
    go_wp2_with fail
    go_ret2
    exact RetV.of (f := vBool) _ HE.out rfl (below_of_alloc HB)
  | ok a =>
    cases hg : hostSplit t.data.toList with
    | error x =>
      have hx := (err_ne hg).1
      have HE := Lib.hid (show hostUnder s.data.toList t.data.toList = (false, x) by unfold hostUnder; rw [hh, hg])
      have HH := Lib.hid hh
      have HG := Lib.hid hg
      clear hh hg
      go_enter Tryz.func22, Tryz.ntmps22
      go_wp2_with fail
      refine (splits2_err2 HH.out HG.out _ hG1 hs ht (by simp) HC.out.1 HC.out.2).mono ?_
      rintro e w1 ⟨rfl, HB⟩
      go_wp2_with fail
      go_ret2
      exact RetV.of (f := vBool) _ HE.out rfl (below_of_alloc HB)
    | ok b =>
      obtain ⟨n, p⟩ := a
      obtain ⟨m, q⟩ := b
      have HE := Lib.hid (show hostUnder s.data.toList t.data.toList = ((segs 46 m).isSuffixOf (segs 46 n), 0) by unfold hostUnder; rw [hh, hg])
      have hn : n.length ≤ 64 := (hostSplit_ok hh).2.2.1
      have hm : m.length ≤ 64 := (hostSplit_ok hg).2.2.1
      have HH := Lib.hid hh
      have HG := Lib.hid hg
      clear hh hg
      go_enter Tryz.func22, Tryz.ntmps22
      go_wp2_with fail
      refine (splits2_ok HH.out HG.out _ hG1 hs ht (by simp) HC.out.1 HC.out.2).mono ?_
      rintro e w1 ⟨g, cap, rfl, hown, HB⟩
      have HB1 := below_of_alloc HB
      have hown1 := own_below hown (one_below w1 (.map #[] 0))
      have hmap := World.ownsMap_made w1 Tryz.prog 9 (plainElem (H := Unit) Tryz.prog 4)
      have HB2 := HB1.alloc HB1.size (.map #[] 0)
      have hG2 := hG.next HB2
      have c0 := own_at hown1 0 (.string ⟨n.toArray⟩) rfl
      have hgz := hG.size
      clear HB
      go_wp2_with fail
      go_loopw [9] (fun nm wr => ∃ (cur : List UInt8) (acc : List (List UInt8)), nm = .string ⟨cur.toArray⟩ ∧ cur.length + acc.length ≤ 64 ∧ Hid (UnderAt n acc cur) ∧ Hid (wr.ownsMap Tryz.prog 9 (plainElem Tryz.prog 4) w1.heap.size acc.length (names acc)) ∧ Hid (wr.ownsRow (w.alloc (.cells #[.string s, .string t] 9)).heap.size 80 2 (.slice (some ⟨g, 0, none⟩) 2 cap) 2 [S n, .int .i64 p, S m, .int .i64 q]) ∧ Good wr ∧ Below w.heap.size w wr) (fun nm _ => strLen nm)
      case atStart => exact ⟨n, [], rfl, by simpa using hn, UnderAt.start n, hmap, hown1, hG2, HB2⟩
      case round =>
        clear hmap hown1 hG2 c0
        obtain ⟨cur, acc, rfl, hle, HU, HM, hown2, hG3, HB3⟩ := hrel
        go_wp2_with (at_mapUpdate; refine wpList_mapUpdate_own _ rfl _ _ _ 81 rfl 9 4 (Maps.string_keyed Tryz.underlying9) Tryz.underlying81 _ w1.heap.size acc.length _ rfl HM.out (by unfold maxLen; omega) _ _ _ rfl rfl (WideMaps.keyOf_string_mk Tryz.underlying9 (s := ⟨cur.toArray⟩) (by rw [size_mk]; unfold maxLen; omega)) _ [] (plainElem_bool Tryz.underlying4 true) ?_)
        intro w4 hm4 hg4
        have hgl : g < w1.heap.size := (hown.lt g rfl).2
        have HB4 := HB3.grown hg4 HB3.size (fun k hk => by cases hk; exact HB1.size)
        have hown4 := hown2.out.kept hg4 (Or.inr (by simp [Value.ownBlock]; omega))
        rw [← names_snoc] at hm4
        have hG4 := hG.next HB4
        clear hown2 HB3 HM hG3 hg4
        go_wp2_with fail
        refine (cut_any 46 ⟨cur.toArray⟩ w4 hG4 (by rw [size_mk]; omega)).mono ?_
        rintro e w5 ⟨rfl, HB5⟩
        have hm5 := map_below hm4 HB5
        have hown5 := own_below hown4 HB5
        have HB6 := HB4.trans (HB5.mono HB4.size)
        have hG5 := hG4.next HB5
        clear hown4 HB4 hm4 hG4 HB5
        have hlc := (cut1_len 46 cur).2.2
        cases hc : (cut1 46 cur).2.2 with
        | true =>
          have HUN := Lib.hid (HU.out.next hc)
          have hl := hlc hc
          clear hlc
          generalize cut1 46 cur = r at HUN hl
          clear hc
          go_wp2_with fail
          refine ⟨⟨r.2.1, acc ++ [cur], rfl, by rw [List.length_append]; simp; omega, HUN, by rw [List.length_append]; exact hm5, hown5, hG5, HB6⟩, by simp only [strLen, size_mk]; omega⟩
        | false =>
          have HUL := Lib.hid (HU.out.last hc m)
          clear hlc
          have hlk := lookup_name hm5 ⟨m.toArray⟩ (by rw [size_mk]; omega)
          rw [show (⟨m.toArray⟩ : ByteArray).data.toList = m from rfl] at hlk
          generalize decide (m ∈ acc ++ [cur]) = b at hlk HUL
          have c2 := own_at hown5 2 (.string ⟨m.toArray⟩) rfl
          clear hc hm5
          go_wp2_with fail
          go_ret2
          exact RetV.of (f := vBool) _ HE.out (by rw [HUL.out]; rfl) HB6
end Go.Proofs.YteigjobliflkdaaGreatDoor
