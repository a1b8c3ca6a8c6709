/- Walk: host.split, at one and at two hosts. -/
import Derived.Test.YteigjobliflkdaaGreatDoorH15e
namespace Go.Proofs.YteigjobliflkdaaGreatDoor
open Go.RowKit

theorem info80 : (Tryz.prog.info? 80).map (fun i => (i.zero, i.size, i.bytes)) = some (some (.agg #[.string ByteArray.empty, .int .i64 0]), 2, 24) := by kernel_rfl

/-- The cells of places. -/
def placeCells (D : List (List UInt8 × Int)) : List Value := D.flatMap fun x => [S x.1, .int .i64 x.2]
theorem placeCells_length (D : List (List UInt8 × Int)) : (placeCells D).length = D.length * 2 := by
  induction D with
  | nil => rfl
  | cons a D ih => simp only [placeCells, List.flatMap_cons, List.length_append, List.length_cons, List.length_nil] at ih ⊢; omega
theorem placeCells_snoc (D : List (List UInt8 × Int)) (x : List UInt8 × Int) : placeCells (D ++ [x]) = placeCells D ++ [S x.1, .int .i64 x.2] := by simp [placeCells]

/-- 'append(v, place{..})' on a slice of places of the call's own. -/
theorem wpApp80 {ops : Array Oper} {rest : List Oper} {o : Oper} {a : Act} {Q : Exit → Act → World → Prop} (hgd : o.guard = none) (s x : Operand)
    (ho : o.op = .call { callee := .builtin .append, args := #[s, x], argTypes := #[76, 76] })
    {B0 B : Nat} {w0 wr : World} {v : Value} {n : Nat} {xs : List Value} {t1 : ByteArray} {t2 : Int} (hown : wr.ownsRow B 80 2 v n xs) (hB : Below B0 w0 wr) (hs : a.eval s = v)
    (hx : a.eval x = .slice (some ⟨wr.heap.size, 0, none⟩) 1 1) (hn : n ≤ 100000) (h0 : B0 ≤ B) (hle : B ≤ wr.heap.size)
    (h : ∀ v' w', w'.ownsRow B 80 2 v' (n + 1) (xs ++ [.string t1, .int .i64 t2]) → Below B0 w0 w' → wpList Tryz.prog ops Q rest (a.put o.dst v') w') :
    wpList Tryz.prog ops Q (o :: rest) a (wr.alloc (.cells #[.string t1, .int .i64 t2] 80)) := by
  obtain ⟨i0, hi, hz0, hz1, hz2⟩ := info_parts info80
  refine wpList_append_own _ hgd s x 76 ho B 80 i0 (.agg #[.string ByteArray.empty, .int .i64 0]) 2 24 Tryz.underlying76 hi hz0 hz1 hz2 rfl (by decide) v n xs hs (hown.alloc _) ⟨wr.heap.size, 0, none⟩ 1 1 [.string t1, .int .i64 t2] hx rfl (cell_two_new _ _ _ _) (by simp [Value.oneCell']) (by unfold maxLen; omega) (by omega) (by simp; omega) ?_
  intro v' w' hown' hg _
  refine h v' w' hown' ((hB.alloc (by omega) _).grown hg (by simp; omega) fun k hk => ?_)
  have := (hown.lt k hk).1
  omega

/-- What split hands back of hosts: the first error, or the places. -/
def RetPlaces (xs : List ByteArray) (w : World) (e : Ending) (w' : World) : Prop :=
  (∃ (k : Nat) (x : Int), k < xs.length ∧ (∀ j, j < k → ∃ d, hostSplit (xs[j]?.getD ByteArray.empty).data.toList = .ok d) ∧ hostSplit (xs[k]?.getD ByteArray.empty).data.toList = .error x ∧ e = .returned (.tuple #[.slice none 0 0, .int .i64 x]) ∧ Below w.heap.size w w') ∨
  (∃ (D : List (List UInt8 × Int)) (v : Value), D.length = xs.length ∧ (∀ j, j < xs.length → hostSplit (xs[j]?.getD ByteArray.empty).data.toList = .ok (D[j]?.getD ([], 0))) ∧ e = .returned (.tuple #[v, .int .i64 0]) ∧ w'.ownsRow w.heap.size 80 2 v D.length (placeCells D) ∧ Below w.heap.size w w')

set_option maxRecDepth 100000 in
set_option maxHeartbeats 1600000 in
theorem splits_any (g : Nat) (xs : List ByteArray) (w : World) (hG : Good w) (hx : ∀ x ∈ xs, x.size ≤ 60000) (hlen : xs.length ≤ 100) (hg : g < w.heap.size)
    (hc : ∀ j, j < xs.length → w.cell? ⟨g, j, none⟩ = some (.string (xs[j]?.getD ByteArray.empty))) :
    Calls Tryz.prog 82 #[.slice (some ⟨g, 0, none⟩) xs.length xs.length] w (RetPlaces xs w) := by
  have HC := Lib.hid hc
  have HX := Lib.hid hx
  clear hc hx
  go_enter Tryz.func82, Tryz.ntmps82
  go_wp2_with fail
  go_loopw [4, 12] (fun v i wr => ∃ (k : Nat) (D : List (List UInt8 × Int)), k ≤ xs.length ∧ i = .int .i64 k ∧ D.length = k ∧ Hid (∀ j, j < k → hostSplit (xs[j]?.getD ByteArray.empty).data.toList = .ok (D[j]?.getD ([], 0))) ∧ wr.ownsRow w.heap.size 80 2 v D.length (placeCells D) ∧ Below w.heap.size w wr) (fun _ i _ => xs.length - (intOf i).toNat)
  case atStart => exact ⟨0, [], Nat.zero_le _, rfl, rfl, fun j hj => by omega, World.ownsRow_nil _ _ _ _, Below.refl _ _⟩
  case round =>
    obtain ⟨k, D, hk, rfl, hDk, HA, hown, HB⟩ := hrel
    have HDK := Lib.hid hDk
    clear hDk
    by_cases hlt : k < xs.length
    · have hcell := (HB.cell (p := ⟨g, k, none⟩) hg).trans (HC.out k hlt)
      have hxs := HX.out xs[k] (List.getElem_mem _)
      have HK := Lib.hid (show xs[k]?.getD ByteArray.empty = xs[k] by rw [List.getElem?_eq_getElem hlt]; rfl)
      rw [HK.out] at hcell
      generalize xs[k] = x at hcell hxs HK
      have hGr := hG.next HB
      cases hh : hostSplit x.data.toList with
      | error y =>
        have hy := (err_ne hh).1
        have HH := Lib.hid hh
        clear hh
        go_wp2_with fail
        refine (split_err HH.out _ hGr hxs).mono ?_
        rintro e w1 ⟨rfl, HB1⟩
        go_wp2_with fail
        go_ret2
        exact Or.inl ⟨k, y, hlt, fun j hj => ⟨_, HA.out j hj⟩, by rw [HK.out]; exact HH.out, rfl, HB.trans (HB1.mono HB.size)⟩
      | ok r =>
        obtain ⟨n, p⟩ := r
        have HH := Lib.hid hh
        have hn : n.length ≤ 64 := (hostSplit_ok hh).2.2.1
        clear hh
        go_wp2_with fail
        refine (split_ok HH.out _ hGr hxs).mono ?_
        rintro e w1 ⟨rfl, HB1⟩
        have hown1 := own_below hown HB1
        have HB2 := HB.trans (HB1.mono HB.size)
        have hsz := HB2.size
        have hDl := HDK.out
        have hDl2 : D.length ≤ 100 := by omega
        clear hDl
        go_wp2_with (at_builtin; refine wpApp80 rfl _ _ rfl hown1 HB2 rfl rfl (by omega) (by omega) (by omega) ?_)
        intro v' w2 hown2 HB3
        clear hown hown1 HB HB1 HB2
        go_wp2_with fail
        have HN := Lib.hid (show ∀ j, j < k + 1 → hostSplit (xs[j]?.getD ByteArray.empty).data.toList = .ok ((D ++ [(n, p)])[j]?.getD ([], 0)) by
          intro j hj
          by_cases e : j = k
          · subst e; rw [HK.out, HH.out, List.getElem?_append_right (by rw [HDK.out]; omega), HDK.out, Nat.sub_self]; rfl
          · rw [List.getElem?_append_left (by rw [HDK.out]; omega)]; exact HA.out j (by omega))
        refine ⟨⟨k + 1, D ++ [(n, p)], by omega, by go_num, by rw [List.length_append, HDK.out]; rfl, HN, ?_, HB3⟩, by (simp [intOf]; try omega)⟩
        rw [placeCells_snoc, List.length_append]
        exact hown2
    · have hkx : k = xs.length := by omega
      go_wp2_with fail
      go_ret2
      refine Or.inr ⟨D, _, by rw [HDK.out, hkx], ?_, rfl, hown, HB⟩
      rw [← hkx]; exact HA.out

theorem places_form {w : World} {B n : Nat} {v : Value} {xs : List Value} (h : w.ownsRow B 80 2 v n xs) (hn : 0 < n) : ∃ g cap, v = .slice (some ⟨g, 0, none⟩) n cap := by
  rcases h.2 with ⟨_, h0⟩ | ⟨g, cap, cur, rfl, _⟩
  · omega
  · exact ⟨g, cap, rfl⟩

/-- split of two hosts, both right. -/
theorem splits2_ok {g : Nat} {s t : ByteArray} {a b : List UInt8 × Int} (ha : hostSplit s.data.toList = .ok a) (hb : hostSplit t.data.toList = .ok b) (w : World) (hG : Good w) (hs : s.size ≤ 60000) (ht : t.size ≤ 60000) (hg : g < w.heap.size)
    (c0 : w.cell? ⟨g, 0, none⟩ = some (.string s)) (c1 : w.cell? ⟨g, 1, none⟩ = some (.string t)) :
    Calls Tryz.prog 82 #[.slice (some ⟨g, 0, none⟩) 2 2] w fun e w' => ∃ g' cap, e = .returned (.tuple #[.slice (some ⟨g', 0, none⟩) 2 cap, .int .i64 0]) ∧ w'.ownsRow w.heap.size 80 2 (.slice (some ⟨g', 0, none⟩) 2 cap) 2 [S a.1, .int .i64 a.2, S b.1, .int .i64 b.2] ∧ Below w.heap.size w w' := by
  refine (splits_any g [s, t] w hG (by simp; exact ⟨hs, ht⟩) (by simp) hg (fun j hj => ?_)).mono fun e w' h => ?_
  · match j, hj with
    | 0, _ => exact c0
    | 1, _ => exact c1
  · rcases h with ⟨k, x, hk, _, hx, _⟩ | ⟨D, v, hD, hh, rfl, hown, hB⟩
    · match k, hk with
      | 0, _ => simp [ha] at hx
      | 1, _ => simp [hb] at hx
    · match D, hD with
      | [d, f], _ =>
        have h0 := hh 0 (by simp); have h1 := hh 1 (by simp)
        simp [ha] at h0; simp [hb] at h1
        subst h0; subst h1
        obtain ⟨g', cap, rfl⟩ := places_form hown (by simp)
        exact ⟨g', cap, rfl, hown, hB⟩
theorem splits2_err1 {g : Nat} {s t : ByteArray} {x : Int} (ha : hostSplit s.data.toList = .error x) (w : World) (hG : Good w) (hs : s.size ≤ 60000) (ht : t.size ≤ 60000) (hg : g < w.heap.size)
    (c0 : w.cell? ⟨g, 0, none⟩ = some (.string s)) (c1 : w.cell? ⟨g, 1, none⟩ = some (.string t)) :
    Calls Tryz.prog 82 #[.slice (some ⟨g, 0, none⟩) 2 2] w fun e w' => e = .returned (.tuple #[.slice none 0 0, .int .i64 x]) ∧ Below w.heap.size w w' := by
  refine (splits_any g [s, t] w hG (by simp; exact ⟨hs, ht⟩) (by simp) hg (fun j hj => ?_)).mono fun e w' h => ?_
  · match j, hj with
    | 0, _ => exact c0
    | 1, _ => exact c1
  · rcases h with ⟨k, y, hk, hlt, hx, rfl, hB⟩ | ⟨D, v, hD, hh, _⟩
    · match k, hk with
      | 0, _ => simp [ha] at hx; subst hx; exact ⟨rfl, hB⟩
      | 1, _ => obtain ⟨d, hd⟩ := hlt 0 (by omega); simp [ha] at hd
    · have h0 := hh 0 (by simp); simp [ha] at h0
theorem splits2_err2 {g : Nat} {s t : ByteArray} {a : List UInt8 × Int} {x : Int} (ha : hostSplit s.data.toList = .ok a) (hb : hostSplit t.data.toList = .error x) (w : World) (hG : Good w) (hs : s.size ≤ 60000) (ht : t.size ≤ 60000) (hg : g < w.heap.size)
    (c0 : w.cell? ⟨g, 0, none⟩ = some (.string s)) (c1 : w.cell? ⟨g, 1, none⟩ = some (.string t)) :
    Calls Tryz.prog 82 #[.slice (some ⟨g, 0, none⟩) 2 2] w fun e w' => e = .returned (.tuple #[.slice none 0 0, .int .i64 x]) ∧ Below w.heap.size w w' := by
  refine (splits_any g [s, t] w hG (by simp; exact ⟨hs, ht⟩) (by simp) hg (fun j hj => ?_)).mono fun e w' h => ?_
  · match j, hj with
    | 0, _ => exact c0
    | 1, _ => exact c1
  · rcases h with ⟨k, y, hk, hlt, hx, rfl, hB⟩ | ⟨D, v, hD, hh, _⟩
    · match k, hk with
      | 0, _ => simp [ha] at hx
      | 1, _ => simp [hb] at hx; subst hx; exact ⟨rfl, hB⟩
    · have h0 := hh 1 (by simp); simp [hb] at h0
theorem splits1_ok {g : Nat} {s : ByteArray} {a : List UInt8 × Int} (ha : hostSplit s.data.toList = .ok a) (w : World) (hG : Good w) (hs : s.size ≤ 60000) (hg : g < w.heap.size)
    (c0 : w.cell? ⟨g, 0, none⟩ = some (.string s)) :
    Calls Tryz.prog 82 #[.slice (some ⟨g, 0, none⟩) 1 1] w fun e w' => ∃ g' cap, e = .returned (.tuple #[.slice (some ⟨g', 0, none⟩) 1 cap, .int .i64 0]) ∧ w'.ownsRow w.heap.size 80 2 (.slice (some ⟨g', 0, none⟩) 1 cap) 1 [S a.1, .int .i64 a.2] ∧ Below w.heap.size w w' := by
  refine (splits_any g [s] w hG (by simp; exact hs) (by simp) hg (fun j hj => ?_)).mono fun e w' h => ?_
  · match j, hj with
    | 0, _ => exact c0
  · rcases h with ⟨k, x, hk, _, hx, _⟩ | ⟨D, v, hD, hh, rfl, hown, hB⟩
    · match k, hk with
      | 0, _ => simp [ha] at hx
    · match D, hD with
      | [d], _ =>
        have h0 := hh 0 (by simp)
        simp [ha] at h0
        subst h0
        obtain ⟨g', cap, rfl⟩ := places_form hown (by simp)
        exact ⟨g', cap, rfl, hown, hB⟩
theorem splits1_err {g : Nat} {s : ByteArray} {x : Int} (ha : hostSplit s.data.toList = .error x) (w : World) (hG : Good w) (hs : s.size ≤ 60000) (hg : g < w.heap.size)
    (c0 : w.cell? ⟨g, 0, none⟩ = some (.string s)) :
    Calls Tryz.prog 82 #[.slice (some ⟨g, 0, none⟩) 1 1] w fun e w' => e = .returned (.tuple #[.slice none 0 0, .int .i64 x]) ∧ Below w.heap.size w w' := by
  refine (splits_any g [s] w hG (by simp; exact hs) (by simp) hg (fun j hj => ?_)).mono fun e w' h => ?_
  · match j, hj with
    | 0, _ => exact c0
  · rcases h with ⟨k, y, hk, hlt, hx, rfl, hB⟩ | ⟨D, v, hD, hh, _⟩
    · match k, hk with
      | 0, _ => simp [ha] at hx; subst hx; exact ⟨rfl, hB⟩
    · have h0 := hh 0 (by simp); simp [ha] at h0
end Go.Proofs.YteigjobliflkdaaGreatDoor
