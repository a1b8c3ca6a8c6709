/- Plain: decimal numerals are read back; joining a name with a port. -/
import Derived.Test.YteigjobliflkdaaGreatDoorS15
namespace Go.Proofs.YteigjobliflkdaaGreatDoor
open Go

theorem dec_val : ∀ (n u : Nat), u < n → decVal (Lib.decDigits u) = u ∧ (Lib.decDigits u).all digitB = true
  | 0, u, h => by omega
  | n + 1, u, h => by
    by_cases h10 : u < 10
    · rw [Lib.decDigits_one h10]
      have h1 : (UInt8.ofNat (48 + u)).toNat = 48 + u := by rw [UInt8.toNat_ofNat']; omega
      constructor
      · simp only [decVal, List.foldl_cons, List.foldl_nil, h1]; omega
      · simp [digitB]; omega
    · have ih := dec_val n (u / 10) (by omega)
      have h1 : (UInt8.ofNat (48 + u % 10)).toNat = 48 + u % 10 := by rw [UInt8.toNat_ofNat']; omega
      rw [Lib.decDigits, dif_neg h10]
      constructor
      · rw [decVal_snoc, ih.1, h1]; omega
      · rw [List.all_append, ih.2]; simp [digitB]; omega
theorem nDigits5 (u : Nat) (h : u < 100000) : 1 ≤ Lib.nDigits u ∧ Lib.nDigits u ≤ 5 := by
  refine ⟨Lib.nDigits_pos u, ?_⟩
  by_cases h1 : u < 10
  · rw [Lib.nDigits_small h1]; omega
  rw [Lib.nDigits_big h1]
  by_cases h2 : u / 10 < 10
  · rw [Lib.nDigits_small h2]; omega
  rw [Lib.nDigits_big h2]
  by_cases h3 : u / 10 / 10 < 10
  · rw [Lib.nDigits_small h3]; omega
  rw [Lib.nDigits_big h3]
  by_cases h4 : u / 10 / 10 / 10 < 10
  · rw [Lib.nDigits_small h4]; omega
  rw [Lib.nDigits_big h4, Lib.nDigits_small (by omega)]; omega
theorem itoa_digs (u : Nat) (h : u < 100000) : digsOK (Lib.itoa u) = true ∧ decVal (Lib.itoa u) = u := by
  rw [Lib.itoa_nonneg]
  have := dec_val (u + 1) u (by omega)
  have hd := nDigits5 u h
  refine ⟨?_, this.1⟩
  simp only [digsOK, Bool.and_eq_true, decide_eq_true_eq, Lib.decDigits_length]
  exact ⟨⟨hd.1, hd.2⟩, this.2⟩

theorem cut1_mem (c : UInt8) : ∀ l : List UInt8, (cut1 c l).2.2 = false → ∀ b ∈ l, b ≠ c
  | [], _, b, hb => by simp at hb
  | a :: l, h, b, hb => by
    by_cases e : a = c
    · subst e; simp [cut1] at h
    · simp only [cut1, if_neg e] at h
      rcases List.mem_cons.1 hb with rfl | hb
      · exact e
      · exact cut1_mem c l h b hb
theorem cut1_snoc (c : UInt8) : ∀ l m : List UInt8, (∀ b ∈ l, b ≠ c) → cut1 c (l ++ c :: m) = (l, m, true)
  | [], m, _ => by simp [cut1]
  | a :: l, m, h => by
    have ih := cut1_snoc c l m fun b hb => h b (List.mem_cons_of_mem _ hb)
    simp only [List.cons_append, cut1, if_neg (h a (List.mem_cons_self ..)), ih]
theorem contains_cut (c : UInt8) (l : List UInt8) : Lib.contains l [c] = (cut1 c l).2.2 := by
  unfold Lib.contains
  rw [index_one]
  cases (cut1 c l).2.2 <;> simp

/-- A name without a port is joined with one. -/
theorem join_split {l n : List UInt8} {p0 : Int} (h : hostSplit l = .ok (n, p0)) (hc : (cut1 58 l).2.2 = false) (u : Nat) (h1 : 1 ≤ u) (h2 : u ≤ 65535) :
    hostSplit (l ++ 58 :: Lib.itoa u) = .ok (n, u) := by
  have hd := itoa_digs u (by omega)
  have hl := (cut1_none 58 l hc).1
  have hs := cut1_snoc 58 l (Lib.itoa u) (cut1_mem 58 l hc)
  have hk := hostSplit_ok h
  rw [hl, ] at hk
  have hlen : l.length ≤ 64 := by have := hk.2.2.1; rw [hk.2.2.2.2, lower_length] at this; exact this
  have hlab : (segs 46 l).all labB = true := by
    unfold hostSplit at h
    rw [hl, hc] at h
    by_cases hb : (segs 46 l).all labB = true
    · exact hb
    · rw [Bool.eq_false_iff.2 hb] at h
      split at h
      · cases h
      · simp at h
  have hdl : (Lib.itoa (u : Int)).length ≤ 5 := by
    have := hd.1
    simp only [digsOK, Bool.and_eq_true, decide_eq_true_eq] at this
    exact this.1.2
  unfold hostSplit
  rw [hs, if_neg (by simp; omega), hd.1, hlab, hd.2, hk.2.2.2.2]
  simp
  rw [if_neg (by omega), if_neg (by omega)]
theorem join_no {l n : List UInt8} {p0 : Int} (h : hostSplit l = .ok (n, p0)) : ((cut1 58 l).2.2 = true ↔ n.length ≠ l.length) := by
  have hk := (hostSplit_ok h).2.2.2.2
  rw [hk, lower_length]
  cases hc : (cut1 58 l).2.2 with
  | true =>
    have := (cut1_len 58 l).2.2 hc
    simp; omega
  | false => simp [(cut1_none 58 l hc).1]
end Go.Proofs.YteigjobliflkdaaGreatDoor
