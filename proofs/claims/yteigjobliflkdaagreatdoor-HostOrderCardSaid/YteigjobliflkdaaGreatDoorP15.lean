/- Plain: the laws of hosts made of numbers, and of normal hosts. No program stands here. -/
import Derived.Test.YteigjobliflkdaaGreatDoorS15
namespace Go.Proofs.YteigjobliflkdaaGreatDoor
open Go

/-! Hosts made of numbers -/
def madeNames : List (List UInt8) := [[97], [98], [65], [120, 46, 97], [88, 46, 65], [97, 46, 111, 114, 103], [98, 46, 97, 46, 111, 114, 103], [120, 97], [97, 45, 98, 46, 111, 114, 103], [49, 46, 50]]
def madePorts : List (List UInt8) := [[], [58, 56, 48], [58, 48, 56, 48], [58, 56, 49], [58, 56, 48, 56, 48], [58, 49], [58, 54, 53, 53, 51, 53]]
def madePort : List Int := [80, 80, 80, 81, 8080, 1, 65535]
def madeRank : List Int := [1, 3, 1, 2, 2, 4, 5, 7, 6, 0]
def madeN (i : Nat) : List UInt8 := (madeNames[i]?.getD [])
def madeP (j : Nat) : List UInt8 := (madePorts[j]?.getD [])
def madeI (j : Nat) : Int := (madePort[j]?.getD 0)
def madeR (i : Nat) : Int := (madeRank[i]?.getD 0)
def isOk (r : Except Int (List UInt8 × Int)) (n : List UInt8) (p : Int) : Bool := match r with
  | .ok x => x.1 == n && x.2 == p
  | .error _ => false
theorem isOk_eq {r : Except Int (List UInt8 × Int)} {n : List UInt8} {p : Int} (h : isOk r n p = true) : r = .ok (n, p) := by
  cases r with
  | error e => simp [isOk] at h
  | ok x => obtain ⟨a, b⟩ := x; simp [isOk] at h; obtain ⟨rfl, rfl⟩ := h; rfl
theorem all_range {n : Nat} {f : Nat → Bool} (h : (List.range n).all f = true) (i : Nat) (hi : i < n) : f i = true :=
  List.all_eq_true.1 h i (List.mem_range.2 hi)
theorem all_range2 {n m : Nat} {f : Nat → Nat → Bool} (h : ((List.range n).all fun i => (List.range m).all (f i)) = true) (i j : Nat) (hi : i < n) (hj : j < m) : f i j = true :=
  all_range (all_range h i hi) j hj
theorem made_split (i j : Nat) (hi : i < 10) (hj : j < 7) : hostSplit (madeN i ++ madeP j) = .ok (lower (madeN i), madeI j) :=
  isOk_eq (all_range2 (f := fun i j => isOk (hostSplit (madeN i ++ madeP j)) (lower (madeN i)) (madeI j)) (by kernel_rfl) i j hi hj)
theorem made_cmpL (i i' : Nat) (hi : i < 10) (hi' : i' < 10) : cmpL (segs 46 (lower (madeN i))).reverse (segs 46 (lower (madeN i'))).reverse = cmpI (madeR i) (madeR i') := by
  have := all_range2 (n := 10) (m := 10) (f := fun i i' => decide (cmpL (segs 46 (lower (madeN i))).reverse (segs 46 (lower (madeN i'))).reverse = cmpI (madeR i) (madeR i'))) (by kernel_rfl) i i' hi hi'
  simpa using this
theorem made_same (i i' : Nat) (hi : i < 10) (hi' : i' < 10) : (lower (madeN i) == lower (madeN i')) = decide (madeR i = madeR i') := by
  have := all_range2 (n := 10) (m := 10) (f := fun i i' => (lower (madeN i) == lower (madeN i')) == decide (madeR i = madeR i')) (by kernel_rfl) i i' hi hi'
  simpa using this
theorem made_written (i j : Nat) (hi : i < 10) (hj : j < 7) : hostNormal (madeN i ++ madeP j) = .ok (hostWrite (lower (madeN i)) (madeI j)) := by
  have h := all_range2 (n := 10) (m := 7) (f := fun i j => decide ((hostWrite (lower (madeN i)) (madeI j)).length ≤ 64)) (by kernel_rfl) i j hi hj
  have h : (hostWrite (lower (madeN i)) (madeI j)).length ≤ 64 := of_decide_eq_true h
  unfold hostNormal; rw [made_split i j hi hj]
  show hostWritten (lower (madeN i)) (madeI j) = _
  unfold hostWritten; rw [if_neg (by omega)]
theorem made_len (i j : Nat) (hi : i < 10) (hj : j < 7) : (madeN i ++ madeP j).length ≤ 60 := by
  have h := all_range2 (n := 10) (m := 7) (f := fun i j => decide ((madeN i ++ madeP j).length ≤ 60)) (by kernel_rfl) i j hi hj
  exact of_decide_eq_true h

/-! Writing and reading back -/
theorem lowB_idem (b : UInt8) : lowB (lowB b) = lowB b := by
  unfold lowB
  by_cases h : 65 ≤ b.toNat ∧ b.toNat ≤ 90
  · rw [if_pos h, if_neg]
    intro ⟨_, h2⟩
    rw [UInt8.toNat_add] at h2
    have : (32 : UInt8).toNat = 32 := rfl
    rw [this] at h2
    omega
  · rw [if_neg h, if_neg h]
theorem lower_idem (l : List UInt8) : lower (lower l) = lower l := by simp [lower, lowB_idem]
theorem lowB_ne {c : UInt8} (hc : c.toNat < 65) (b : UInt8) : lowB b = c ↔ b = c := by
  unfold lowB
  by_cases h : 65 ≤ b.toNat ∧ b.toNat ≤ 90
  · rw [if_pos h]
    constructor
    · intro e
      have := congrArg UInt8.toNat e
      rw [UInt8.toNat_add, show (32 : UInt8).toNat = 32 from rfl] at this
      omega
    · intro e; subst e; omega
  · rw [if_neg h]
theorem segs_lower (c : UInt8) (hc : c.toNat < 65) : ∀ l : List UInt8, segs c (lower l) = (segs c l).map lower
  | [] => rfl
  | b :: l => by
    have ih := segs_lower c hc l
    show segs c (lowB b :: lower l) = _
    unfold segs
    by_cases h : b = c
    · rw [if_pos h, if_pos ((lowB_ne hc b).2 h), ih]; rfl
    · rw [if_neg h, if_neg (fun e => h ((lowB_ne hc b).1 e)), ih]
      cases segs c l with
      | nil => rfl
      | cons a t => rfl
theorem lowB_lch (b : UInt8) (h : lchB b = true) : lchB (lowB b) = true := by
  unfold lowB
  by_cases hb : 65 ≤ b.toNat ∧ b.toNat ≤ 90
  · rw [if_pos hb]
    have : (b + 32).toNat = b.toNat + 32 := by rw [UInt8.toNat_add, show (32 : UInt8).toNat = 32 from rfl]; omega
    simp only [lchB, alnumB, digitB, this, Bool.or_eq_true, Bool.and_eq_true, decide_eq_true_eq]; omega
  · rw [if_neg hb]; exact h
theorem lowB_45 (b : UInt8) : (lowB b).toNat = 45 ↔ b.toNat = 45 := by
  have h := lowB_ne (c := 45) (by decide) b
  constructor
  · intro e; exact congrArg UInt8.toNat (h.1 (UInt8.toNat_inj.1 e))
  · intro e; exact congrArg UInt8.toNat (h.2 (UInt8.toNat_inj.1 e))
theorem labB_iff (l : List UInt8) : labB l = true ↔ 1 ≤ l.length ∧ l.length ≤ 63 ∧ (l[0]?.getD 0).toNat ≠ 45 ∧ (l[l.length-1]?.getD 0).toNat ≠ 45 ∧ ∀ b ∈ l, lchB b = true := by
  simp only [labB, Bool.and_eq_true, decide_eq_true_eq, Bool.not_eq_true', decide_eq_false_iff_not, List.all_eq_true]
  constructor
  · rintro ⟨⟨⟨⟨a, b⟩, c⟩, d⟩, e⟩; exact ⟨a, b, c, d, e⟩
  · rintro ⟨a, b, c, d, e⟩; exact ⟨⟨⟨⟨a, b⟩, c⟩, d⟩, e⟩
theorem labB_lower (l : List UInt8) (h : labB l = true) : labB (lower l) = true := by
  rw [labB_iff] at h ⊢
  obtain ⟨h1, h2, h3, h4, h5⟩ := h
  have hg : ∀ i, i < l.length → ((lower l)[i]?.getD 0) = lowB (l[i]?.getD 0) := by
    intro i hi
    rw [lower, List.getElem?_map, List.getElem?_eq_getElem hi]; rfl
  refine ⟨by rw [lower_length]; exact h1, by rw [lower_length]; exact h2, ?_, ?_, ?_⟩
  · rw [hg 0 (by omega)]; intro e; exact h3 ((lowB_45 _).1 e)
  · rw [lower_length, hg _ (by omega)]; intro e; exact h4 ((lowB_45 _).1 e)
  · intro b hb
    obtain ⟨a, ha, rfl⟩ := List.mem_map.1 hb
    exact lowB_lch a (h5 a ha)
theorem segs_all_mem (c : UInt8) : ∀ (l : List UInt8) (b : UInt8), b ∈ l → b = c ∨ ∃ x ∈ segs c l, b ∈ x
  | [], b, h => by simp at h
  | a :: l, b, h => by
    unfold segs
    by_cases e : a = c
    · rw [if_pos e]
      rcases List.mem_cons.1 h with rfl | h
      · exact .inl e
      · rcases segs_all_mem c l b h with h | ⟨x, hx, hb⟩
        · exact .inl h
        · exact .inr ⟨x, List.mem_cons_of_mem _ hx, hb⟩
    · rw [if_neg e]
      cases hs : segs c l with
      | nil => exact absurd hs (segs_ne c l)
      | cons s t =>
        simp only
        rcases List.mem_cons.1 h with rfl | h
        · exact .inr ⟨_, List.mem_cons_self .., List.mem_cons_self ..⟩
        · rcases segs_all_mem c l b h with h | ⟨x, hx, hb⟩
          · exact .inl h
          · rw [hs] at hx
            rcases List.mem_cons.1 hx with rfl | hx
            · exact .inr ⟨_, List.mem_cons_self .., List.mem_cons_of_mem _ hb⟩
            · exact .inr ⟨x, List.mem_cons_of_mem _ hx, hb⟩
/-- A name of good labels has no colon. -/
theorem labs_free {l : List UInt8} (h : (segs 46 l).all labB = true) : ∀ b ∈ l, b ≠ 58 := by
  intro b hb e
  subst e
  rcases segs_all_mem 46 l 58 hb with h' | ⟨x, hx, hbx⟩
  · exact absurd h' (by decide)
  · have := (labB_iff x).1 (List.all_eq_true.1 h x hx)
    exact absurd (this.2.2.2.2 58 hbx) (by decide)
theorem cut1_fst_free (c : UInt8) : ∀ l : List UInt8, ∀ b ∈ (cut1 c l).1, b ≠ c
  | [], b, h => by simp [cut1] at h
  | a :: l, b, h => by
    by_cases e : a = c
    · subst e; simp [cut1] at h
    · simp only [cut1, if_neg e] at h
      rcases List.mem_cons.1 h with rfl | h
      · exact e
      · exact cut1_fst_free c l b h
/-- What Split asks of the name and the port that it hands back. -/
def NameOK (n : List UInt8) (p : Int) : Prop := (segs 46 n).all labB = true ∧ n.length ≤ 64 ∧ 1 ≤ p ∧ p ≤ 65535 ∧ lower n = n
theorem NameOK.of {l n : List UInt8} {p : Int} (h : hostSplit l = .ok (n, p)) : NameOK n p := by
  have hk := hostSplit_ok h
  refine ⟨?_, hk.2.2.1, hk.1, hk.2.1, by rw [hk.2.2.2.2, lower_idem]⟩
  unfold hostSplit at h
  split at h
  · cases h
  split at h
  · cases h
  split at h
  · cases h
  rename_i h1 h2 h3
  rw [hk.2.2.2.2, segs_lower 46 (by decide), List.all_map]
  rw [List.all_eq_true]
  intro x hx
  have h3' : (segs 46 (cut1 58 l).1).all labB = true := by simpa using h3
  exact labB_lower x (List.all_eq_true.1 h3' x hx)
theorem dec_digits : ∀ n : Nat, (Lib.decDigits n).all digitB = true ∧ decVal (Lib.decDigits n) = n := by
  intro n
  induction n using Nat.strongRecOn with
  | ind n ih =>
    have one : ∀ k, k < 10 → digitB (UInt8.ofNat (48 + k)) = true ∧ (UInt8.ofNat (48 + k)).toNat - 48 = k := by decide
    by_cases h : n < 10
    · rw [Lib.decDigits_one h]
      obtain ⟨h1, h2⟩ := one n h
      exact ⟨by rw [List.all_cons, List.all_nil, h1]; rfl, by show 10 * 0 + ((UInt8.ofNat (48 + n)).toNat - 48) = n; rw [h2]; omega⟩
    · rw [Lib.decDigits, dif_neg h]
      obtain ⟨i1, i2⟩ := ih (n / 10) (by omega)
      obtain ⟨h1, h2⟩ := one (n % 10) (by omega)
      refine ⟨?_, ?_⟩
      · rw [List.all_append, i1, List.all_cons, List.all_nil, h1]; rfl
      · rw [decVal_snoc, i2, h2]; omega
theorem itoa_port {p : Int} (h1 : 1 ≤ p) (h2 : p ≤ 65535) : digsOK (Lib.itoa p) = true ∧ decVal (Lib.itoa p) = p.toNat ∧ ∀ b ∈ Lib.itoa p, b ≠ 58 := by
  obtain ⟨n, rfl⟩ := Int.eq_ofNat_of_zero_le (show 0 ≤ p by omega)
  rw [Lib.itoa_nonneg n]
  obtain ⟨a, b⟩ := dec_digits n
  have hl : 1 ≤ (Lib.decDigits n).length ∧ (Lib.decDigits n).length ≤ 5 := by
    have e : ∀ m : Nat, ∀ k, m < 10 ^ (k+1) → 1 ≤ (Lib.decDigits m).length ∧ (Lib.decDigits m).length ≤ k + 1 := by
      intro m k
      induction k generalizing m with
      | zero => intro h; rw [Lib.decDigits_one (by omega)]; simp
      | succ k ih =>
        intro h
        by_cases h10 : m < 10
        · rw [Lib.decDigits_one h10]; simp
        · rw [Lib.decDigits, dif_neg h10]
          have := ih (m / 10) (by rw [Nat.pow_succ] at h; omega)
          simp; omega
    exact e n 4 (by omega)
  refine ⟨by simp only [digsOK, Bool.and_eq_true, decide_eq_true_eq]; exact ⟨hl, a⟩, by rw [b]; omega, ?_⟩
  intro x hx e
  subst e
  exact absurd (List.all_eq_true.1 a 58 hx) (by decide)
theorem cut1_write {n r : List UInt8} (h : ∀ b ∈ n, b ≠ 58) : cut1 58 (n ++ 58 :: r) = (n, r, true) := by
  induction n with
  | nil => simp [cut1]
  | cons b n ih =>
    rw [List.cons_append, cut1, if_neg (h b (by simp)), ih fun x hx => h x (by simp [hx])]
/-- What was written is split again. -/
theorem split_write {n : List UInt8} {p : Int} (h : NameOK n p) : hostSplit (hostWrite n p) = .ok (n, p) := by
  obtain ⟨h1, h2, h3, h4, h5⟩ := h
  have hf := labs_free h1
  unfold hostWrite
  by_cases h80 : p = 80
  · rw [if_pos h80]
    have hc : cut1 58 n = (n, [], false) := cut1_free hf
    rw [(show Stage1 n n 80 from ⟨by rw [hc], .inl ⟨by rw [hc], rfl⟩⟩).split (by omega), if_neg (by rw [h1]; decide), if_neg (by omega), if_neg (by decide), h5, h80]
  · rw [if_neg h80]
    have hc := cut1_write (r := Lib.itoa p) hf
    obtain ⟨d1, d2, d3⟩ := itoa_port h3 h4
    have hl : (Lib.itoa p).length ≤ 5 := by simp only [digsOK, Bool.and_eq_true, decide_eq_true_eq] at d1; exact d1.1.2
    rw [(show Stage1 (n ++ 58 :: Lib.itoa p) n p from ⟨by rw [hc], .inr ⟨by rw [hc], by rw [hc]; exact d1, by rw [hc, d2]; omega⟩⟩).split (by simp; omega), if_neg (by rw [h1]; decide), if_neg (by omega), if_neg (by omega), h5]
theorem normal_normal {l t : List UInt8} (h : hostNormal l = .ok t) : hostNormal t = .ok t := by
  have h0 := h
  unfold hostNormal at h
  split at h
  · cases h
  rename_i x hx
  obtain ⟨n, p⟩ := x
  simp only at h
  have hk := NameOK.of hx
  have ht : hostWrite n p = t := by
    unfold hostWritten at h
    split at h
    · cases h
    · injection h
  unfold hostNormal
  rw [← ht, split_write hk]
  show hostWritten n p = _
  rw [h, ht]
theorem is_normal {l t : List UInt8} (h : hostNormal l = .ok t) : hostIs t = true := by
  unfold hostIs; rw [normal_normal h]; simp
theorem write_inj {n m : List UInt8} {p q : Int} (h : NameOK n p) (k : NameOK m q) (e : hostWrite n p = hostWrite m q) : n = m ∧ p = q := by
  have h1 := split_write h
  have h2 := split_write k
  rw [e, h2] at h1
  injection h1 with h1
  injection h1 with a b
  exact ⟨a.symm, b.symm⟩
/-- Two hosts are the same exactly if their normal forms are. -/
theorem same_iff {a b : List UInt8} {p q : List UInt8} (h : hostNormal a = .ok p) (k : hostNormal b = .ok q) : hostSame a b = (decide (p = q), 0) := by
  unfold hostNormal at h k
  split at h
  · cases h
  rename_i x hx
  split at k
  · cases k
  rename_i y hy
  obtain ⟨n, i⟩ := x
  obtain ⟨m, j⟩ := y
  simp only at h k
  have hp : hostWrite n i = p := by unfold hostWritten at h; split at h; · cases h
                                    · injection h
  have hq : hostWrite m j = q := by unfold hostWritten at k; split at k; · cases k
                                    · injection k
  unfold hostSame
  rw [hx, hy]
  simp only
  congr 1
  rw [Bool.eq_iff_iff]
  simp only [Bool.and_eq_true, beq_iff_eq, decide_eq_true_eq]
  constructor
  · rintro ⟨rfl, rfl⟩; rw [← hp, ← hq]
  · intro e; rw [← hp, ← hq] at e; exact write_inj (NameOK.of hx) (NameOK.of hy) e
/-- Join undoes Split. -/
theorem join_unsplit {a n t : List UInt8} {p : Int} (h : hostSplit a = .ok (n, p)) (k : hostNormal a = .ok t) : hostJoin n p = .ok t := by
  have hk := NameOK.of h
  have h80 : hostWrite n 80 = n := by simp [hostWrite]
  have hn : hostSplit n = .ok (n, 80) := by
    have := split_write (n := n) (p := 80) ⟨hk.1, hk.2.1, by decide, by decide, hk.2.2.2.2⟩
    rwa [h80] at this
  unfold hostJoin
  rw [hn]
  simp only
  rw [if_neg (by simp), if_neg (by have := hk.2.2; omega)]
  unfold hostNormal at k
  rw [h] at k
  exact k

/-! Under -/
theorem under_eq {a b n m : List UInt8} {p q : Int} (h : hostSplit a = .ok (n, p)) (k : hostSplit b = .ok (m, q)) : hostUnder a b = ((segs 46 m).isSuffixOf (segs 46 n), 0) := by
  unfold hostUnder; rw [h, k]
/-! Order -/
theorem compare_made (i j i' j' : Nat) (hi : i < 10) (hj : j < 7) (hi' : i' < 10) (hj' : j' < 7) :
    hostCompare (madeN i ++ madeP j) (madeN i' ++ madeP j') = (if cmpI (madeR i) (madeR i') = 0 then cmpI (madeI j) (madeI j') else cmpI (madeR i) (madeR i'), 0) := by
  unfold hostCompare; rw [made_split i j hi hj, made_split i' j' hi' hj']
  simp only [hostCmp]
  rw [made_cmpL i i' hi hi']
theorem same_made (i j i' j' : Nat) (hi : i < 10) (hj : j < 7) (hi' : i' < 10) (hj' : j' < 7) :
    hostSame (madeN i ++ madeP j) (madeN i' ++ madeP j') = (decide (madeR i = madeR i') && decide (madeI j = madeI j'), 0) := by
  unfold hostSame; rw [made_split i j hi hj, made_split i' j' hi' hj']
  simp only
  rw [made_same i i' hi hi']
  congr 1
theorem cmpI_cases (a b : Int) : (a < b ∧ cmpI a b = -1) ∨ (a = b ∧ cmpI a b = 0) ∨ (b < a ∧ cmpI a b = 1) := by
  unfold cmpI
  split
  · exact .inl ⟨by assumption, rfl⟩
  · split
    · exact .inr (.inr ⟨by assumption, rfl⟩)
    · exact .inr (.inl ⟨by omega, rfl⟩)
/-- The order of ranks. -/
def ord2 (a b c d : Int) : Int := if cmpI a c = 0 then cmpI b d else cmpI a c
theorem ord2_cases (a b c d : Int) : ((a < c ∨ (a = c ∧ b < d)) ∧ ord2 a b c d = -1) ∨ ((a = c ∧ b = d) ∧ ord2 a b c d = 0) ∨ ((c < a ∨ (a = c ∧ d < b)) ∧ ord2 a b c d = 1) := by
  unfold ord2
  rcases cmpI_cases a c with ⟨h, e⟩ | ⟨h, e⟩ | ⟨h, e⟩ <;> rw [e]
  · exact .inl ⟨.inl h, by simp⟩
  · rcases cmpI_cases b d with ⟨k, f⟩ | ⟨k, f⟩ | ⟨k, f⟩ <;> rw [f]
    · exact .inl ⟨.inr ⟨h, k⟩, by simp⟩
    · exact .inr (.inl ⟨⟨h, k⟩, by simp⟩)
    · exact .inr (.inr ⟨.inr ⟨h, k⟩, by simp⟩)
  · exact .inr (.inr ⟨.inl h, by simp⟩)
theorem ord2_range (a b c d : Int) : -1 ≤ ord2 a b c d ∧ ord2 a b c d ≤ 1 := by
  rcases ord2_cases a b c d with ⟨_, e⟩ | ⟨_, e⟩ | ⟨_, e⟩ <;> rw [e] <;> decide
theorem ord2_anti (a b c d : Int) : ord2 c d a b = - ord2 a b c d := by
  rcases ord2_cases a b c d with ⟨h, e⟩ | ⟨h, e⟩ | ⟨h, e⟩ <;> rcases ord2_cases c d a b with ⟨k, f⟩ | ⟨k, f⟩ | ⟨k, f⟩ <;> rw [e, f] <;> first | rfl | (exfalso; omega)
theorem ord2_zero (a b c d : Int) : ord2 a b c d = 0 ↔ a = c ∧ b = d := by
  rcases ord2_cases a b c d with ⟨h, e⟩ | ⟨h, e⟩ | ⟨h, e⟩ <;> rw [e] <;> constructor <;> intro k <;> first | (exfalso; omega) | omega
theorem ord2_le (a b c d e f : Int) (h : ord2 a b c d ≤ 0) (k : ord2 c d e f ≤ 0) : ord2 a b e f ≤ 0 := by
  rcases ord2_cases a b c d with ⟨h1, h2⟩ | ⟨h1, h2⟩ | ⟨h1, h2⟩ <;> rw [h2] at h <;> rcases ord2_cases c d e f with ⟨k1, k2⟩ | ⟨k1, k2⟩ | ⟨k1, k2⟩ <;> rw [k2] at k <;> rcases ord2_cases a b e f with ⟨l1, l2⟩ | ⟨l1, l2⟩ | ⟨l1, l2⟩ <;> rw [l2] <;> first | omega | (exfalso; omega)
theorem ord2_lt (a b c d e f : Int) (h : ord2 a b c d < 0) (k : ord2 c d e f ≤ 0) : ord2 a b e f < 0 := by
  rcases ord2_cases a b c d with ⟨h1, h2⟩ | ⟨h1, h2⟩ | ⟨h1, h2⟩ <;> rw [h2] at h <;> rcases ord2_cases c d e f with ⟨k1, k2⟩ | ⟨k1, k2⟩ | ⟨k1, k2⟩ <;> rw [k2] at k <;> rcases ord2_cases a b e f with ⟨l1, l2⟩ | ⟨l1, l2⟩ | ⟨l1, l2⟩ <;> rw [l2] <;> first | omega | (exfalso; omega)
end Go.Proofs.YteigjobliflkdaaGreatDoor
