/- Plain: what the packages host and waypostref15 compute, on lists of bytes. No program stands here. -/
import Derived.Lib.Split
import Derived.Lib.SlTrimSet
import Derived.Lib.Atoi
import Derived.Lib.ItoaMem
import Derived.WalkKit
namespace Go.Proofs.YteigjobliflkdaaGreatDoor
open Go

/-! Bytes -/
def digitB (b : UInt8) : Bool := decide (48 ≤ b.toNat) && decide (b.toNat ≤ 57)
def alnumB (b : UInt8) : Bool := digitB b || (decide (97 ≤ b.toNat) && decide (b.toNat ≤ 122)) || (decide (65 ≤ b.toNat) && decide (b.toNat ≤ 90))
def lchB (b : UInt8) : Bool := alnumB b || decide (b.toNat = 45)
def labB (l : List UInt8) : Bool := decide (1 ≤ l.length) && decide (l.length ≤ 63) && !(decide ((l[0]?.getD 0).toNat = 45)) && !(decide ((l[l.length-1]?.getD 0).toNat = 45)) && l.all lchB
def lowB (b : UInt8) : UInt8 := if 65 ≤ b.toNat ∧ b.toNat ≤ 90 then b + 32 else b
def lower (l : List UInt8) : List UInt8 := l.map lowB
theorem lower_length (l : List UInt8) : (lower l).length = l.length := by simp [lower]

/-! Cutting at a byte -/
def cut1 (c : UInt8) : List UInt8 → List UInt8 × List UInt8 × Bool
  | [] => ([], [], false)
  | b :: l => if b = c then ([], l, true) else (b :: (cut1 c l).1, (cut1 c l).2.1, (cut1 c l).2.2)
def segs (c : UInt8) : List UInt8 → List (List UInt8)
  | [] => [[]]
  | b :: l => if b = c then [] :: segs c l else match segs c l with
    | [] => [[b]]
    | h :: t => (b :: h) :: t

theorem segs_ne (c : UInt8) (l : List UInt8) : segs c l ≠ [] := by
  cases l with
  | nil => simp [segs]
  | cons b l => unfold segs; split <;> try split
                all_goals simp

theorem index_one (c : UInt8) : ∀ l : List UInt8, Lib.index l [c] = if (cut1 c l).2.2 then ((cut1 c l).1.length : Int) else -1
  | [] => by simp [Lib.index, cut1]
  | b :: l => by
    unfold Lib.index
    rw [index_one c l]
    by_cases h : b = c
    · subst h; simp [cut1]
    · have h' : (c == b) = false := by simp; exact fun e => h e.symm
      simp only [cut1, if_neg h, List.isPrefixOf, h', Bool.false_and]
      cases (cut1 c l).2.2
      · simp
      · have h1 : ((((cut1 c l).1.length : Int)) == -1) = false := by rw [beq_eq_false_iff_ne]; omega
        simp [h1]

theorem cut1_app (c : UInt8) : ∀ l : List UInt8, (cut1 c l).2.2 = true → l = (cut1 c l).1 ++ c :: (cut1 c l).2.1
  | [], h => by simp [cut1] at h
  | b :: l, h => by
    by_cases e : b = c
    · subst e; simp [cut1]
    · simp only [cut1, if_neg e] at h ⊢
      simpa using cut1_app c l h
theorem cut1_take (c : UInt8) : ∀ l : List UInt8, l.take (cut1 c l).1.length = (cut1 c l).1
  | [] => by simp [cut1]
  | b :: l => by
    by_cases e : b = c
    · subst e; simp [cut1]
    · simp only [cut1, if_neg e, List.length_cons, List.take_succ_cons, cut1_take c l]
theorem cut1_drop (c : UInt8) : ∀ l : List UInt8, (cut1 c l).2.2 = true → l.drop ((cut1 c l).1.length + 1) = (cut1 c l).2.1
  | [], h => by simp [cut1] at h
  | b :: l, h => by
    by_cases e : b = c
    · subst e; simp [cut1]
    · simp only [cut1, if_neg e] at h ⊢
      simpa using cut1_drop c l h
theorem cut1_none (c : UInt8) : ∀ l : List UInt8, (cut1 c l).2.2 = false → (cut1 c l).1 = l ∧ (cut1 c l).2.1 = []
  | [], _ => by simp [cut1]
  | b :: l, h => by
    by_cases e : b = c
    · subst e; simp [cut1] at h
    · simp only [cut1, if_neg e] at h ⊢
      simpa using cut1_none c l h

theorem lib_cut (c : UInt8) (l : List UInt8) : Lib.cut l [c] = cut1 c l := by
  unfold Lib.cut
  rw [index_one c l]
  cases h : (cut1 c l).2.2 with
  | false =>
    have := cut1_none c l h
    rw [if_neg (by simp)]
    apply Prod.ext
    · exact this.1.symm
    · exact Prod.ext this.2.symm h.symm
  | true =>
    rw [if_pos (by simp)]
    simp only [if_true, Int.toNat_natCast]
    exact Prod.ext (cut1_take c l) (Prod.ext (cut1_drop c l h) h.symm)

theorem segs_cut (c : UInt8) : ∀ l : List UInt8, segs c l = if (cut1 c l).2.2 then (cut1 c l).1 :: segs c (cut1 c l).2.1 else [l]
  | [] => by simp [segs, cut1]
  | b :: l => by
    by_cases e : b = c
    · subst e; simp [segs, cut1]
    · simp only [segs, cut1, if_neg e, segs_cut c l]
      cases (cut1 c l).2.2 <;> simp

theorem cut1_len (c : UInt8) : ∀ l : List UInt8, (cut1 c l).1.length ≤ l.length ∧ (cut1 c l).2.1.length ≤ l.length ∧ ((cut1 c l).2.2 = true → (cut1 c l).1.length + (cut1 c l).2.1.length + 1 = l.length)
  | [] => by simp [cut1]
  | b :: l => by
    have := cut1_len c l
    by_cases e : b = c
    · subst e; simp [cut1]
    · simp only [cut1, if_neg e]; refine ⟨by simp; omega, by simp; omega, fun h => ?_⟩
      have := this.2.2 h; simp; omega

/-- What strings.Split gives at one byte. -/
theorem lib_splitK (c : UInt8) : ∀ (n : Nat) (l : List UInt8), l.length < n → ∀ f, l.length < f → Lib.splitK [c] 0 (Lib.countFrom [c] f l) l = segs c l
  | 0, l, h, _, _ => by omega
  | n + 1, l, h, f, hf => by
    obtain ⟨f, rfl⟩ : ∃ g, f = g + 1 := ⟨f - 1, by omega⟩
    rw [segs_cut]
    unfold Lib.countFrom
    rw [index_one c l]
    cases hc : (cut1 c l).2.2 with
    | false => simp [Lib.splitK]
    | true =>
      have hl := (cut1_len c l).2.2 hc
      have h1 : ((((cut1 c l).1.length : Int)) == -1) = false := by rw [beq_eq_false_iff_ne]; omega
      simp only [if_true, h1, Bool.false_eq_true, if_false]
      have hd := cut1_drop c l hc
      have ht := cut1_take c l
      rw [Nat.add_comm 1]
      unfold Lib.splitK
      rw [index_one c l, hc]
      simp only [if_true, h1, Bool.false_eq_true, if_false, Int.toNat_natCast, List.length_cons, List.length_nil, Nat.zero_add, Nat.add_zero] at *
      rw [hd, ht, lib_splitK c n _ (by omega) f (by omega)]
theorem lib_split (c : UInt8) (l : List UInt8) : Lib.splitK [c] 0 (Lib.count l [c]) l = segs c l := lib_splitK c (l.length + 1) l (by omega) _ (by omega)

theorem segs_none (c : UInt8) : ∀ x : List UInt8, (∀ b ∈ x, b ≠ c) → segs c x = [x]
  | [], _ => rfl
  | b :: x, h => by
    have := segs_none c x fun b hb => h b (List.mem_cons_of_mem _ hb)
    rw [segs, if_neg (h b (List.mem_cons_self ..)), this]
theorem segs_app (c : UInt8) : ∀ (x m : List UInt8), (∀ b ∈ x, b ≠ c) → segs c (x ++ c :: m) = x :: segs c m
  | [], m, _ => by simp [segs]
  | b :: x, m, h => by
    have := segs_app c x m fun b hb => h b (List.mem_cons_of_mem _ hb)
    rw [List.cons_append, segs, if_neg (h b (List.mem_cons_self ..)), this]

/-- After the rounds below k: D is done, the piece at hand begins at f. -/
def SegAt (l : List UInt8) (c : UInt8) (k f : Nat) (D : List (List UInt8)) : Prop :=
  (k ≤ l.length ∧ f ≤ k ∧ segs c l = D ++ segs c (l.drop f) ∧ ∀ b ∈ (l.take k).drop f, b ≠ c) ∨ (k = l.length + 1 ∧ segs c l = D)

theorem SegAt.start (l : List UInt8) (c : UInt8) : SegAt l c 0 0 [] := .inl ⟨Nat.zero_le _, Nat.le_refl _, by simp, by simp⟩
theorem SegAt.split {l : List UInt8} {k f : Nat} (hk : k ≤ l.length) (hf : f ≤ k) : l.drop f = (l.take k).drop f ++ l.drop k := by
  conv => lhs; rw [← List.take_append_drop k l]
  rw [List.drop_append_of_le_length (by simp; omega)]
theorem SegAt.hit {l : List UInt8} {c : UInt8} {k f : Nat} {D : List (List UInt8)} (h : SegAt l c k f D) (hk : k < l.length) (hc : l[k]?.getD 0 = c) : SegAt l c (k + 1) (k + 1) (D ++ [(l.take k).drop f]) := by
  rcases h with ⟨h1, h2, h3, h4⟩ | ⟨h1, _⟩
  · refine .inl ⟨by omega, Nat.le_refl _, ?_, by simp⟩
    rw [h3, SegAt.split h1 h2, List.drop_eq_getElem_cons hk]
    have : l[k] = c := by rw [← hc, List.getElem?_eq_getElem hk]; rfl
    rw [this, segs_app c _ _ h4, List.append_assoc]; rfl
  · omega
theorem SegAt.last {l : List UInt8} {c : UInt8} {f : Nat} {D : List (List UInt8)} (h : SegAt l c l.length f D) : SegAt l c (l.length + 1) (l.length + 1) (D ++ [(l.take l.length).drop f]) := by
  rcases h with ⟨h1, h2, h3, h4⟩ | ⟨h1, _⟩
  · refine .inr ⟨rfl, ?_⟩
    rw [h3]
    rw [List.take_length] at h4 ⊢
    rw [segs_none c _ h4]
  · omega
theorem SegAt.skip {l : List UInt8} {c : UInt8} {k f : Nat} {D : List (List UInt8)} (h : SegAt l c k f D) (hk : k < l.length) (hc : l[k]?.getD 0 ≠ c) : SegAt l c (k + 1) f D := by
  rcases h with ⟨h1, h2, h3, h4⟩ | ⟨h1, _⟩
  · refine .inl ⟨by omega, by omega, h3, ?_⟩
    rw [List.take_succ_eq_append_getElem hk, List.drop_append_of_le_length (by simp; omega)]
    intro b hb
    rcases List.mem_append.1 hb with hb | hb
    · exact h4 b hb
    · simp at hb; subst hb; rw [List.getElem?_eq_getElem hk] at hc; exact hc
  · omega
theorem SegAt.le {l : List UInt8} {c : UInt8} {k f : Nat} {D : List (List UInt8)} (h : SegAt l c k f D) (hk : k ≤ l.length) : f ≤ k := by
  rcases h with ⟨h1, h2, h3, h4⟩ | ⟨h1, _⟩ <;> omega
theorem SegAt.fin {l : List UInt8} {c : UInt8} {k f : Nat} {D : List (List UInt8)} (h : SegAt l c k f D) (hk : l.length < k) : D = segs c l := by
  rcases h with ⟨h1, h2, h3, h4⟩ | ⟨h1, h2⟩
  · omega
  · exact h2.symm
theorem segs_le (c : UInt8) : ∀ l : List UInt8, (segs c l).length ≤ l.length + 1
  | [] => by simp [segs]
  | b :: l => by
    have := segs_le c l
    unfold segs; split <;> try split
    all_goals simp_all
    omega
theorem SegAt.dle {l : List UInt8} {c : UInt8} {k f : Nat} {D : List (List UInt8)} (h : SegAt l c k f D) : D.length ≤ l.length + 1 := by
  have := segs_le c l
  rcases h with ⟨h1, h2, h3, h4⟩ | ⟨h1, h2⟩
  · rw [h3] at this; simp at this; omega
  · rw [h2] at this; exact this

theorem segs_mem (c : UInt8) : ∀ (l x : List UInt8), x ∈ segs c l → x.length ≤ l.length
  | [], x, h => by simp [segs] at h; subst h; exact Nat.le_refl _
  | b :: l, x, h => by
    unfold segs at h
    split at h
    · rcases List.mem_cons.1 h with rfl | h
      · exact Nat.zero_le _
      · have := segs_mem c l x h; simp; omega
    · split at h
      · simp at h; subst h; simp
      · rename_i hd t e
        rcases List.mem_cons.1 h with rfl | h
        · have := segs_mem c l hd (by rw [e]; exact List.mem_cons_self ..); simp; omega
        · have := segs_mem c l x (by rw [e]; exact List.mem_cons_of_mem _ h); simp; omega

/-! Digits -/
def decVal (l : List UInt8) : Nat := l.foldl (fun n b => 10 * n + (b.toNat - 48)) 0
def digsOK (l : List UInt8) : Bool := decide (1 ≤ l.length) && decide (l.length ≤ 5) && l.all digitB
theorem decVal_snoc (l : List UInt8) (b : UInt8) : decVal (l ++ [b]) = 10 * decVal l + (b.toNat - 48) := by simp [decVal]
theorem decVal_lt : ∀ (n : Nat) (l : List UInt8), l.length = n → l.all digitB = true → decVal l < 10 ^ n
  | 0, l, h, _ => by have := List.length_eq_zero_iff.1 h; subst this; decide
  | n + 1, l, h, ha => by
    rcases List.eq_nil_or_concat l with rfl | ⟨l', b, rfl⟩
    · simp at h
    · simp only [List.concat_eq_append] at *
      rw [decVal_snoc]
      rw [List.all_append] at ha
      simp only [Bool.and_eq_true, List.all_cons, List.all_nil, Bool.and_true] at ha
      have := decVal_lt n l' (by simpa using h) ha.1
      have hb := ha.2
      simp only [digitB, Bool.and_eq_true, decide_eq_true_eq] at hb
      rw [Nat.pow_succ]; omega
theorem decVal_lt5 (l : List UInt8) (h : digsOK l = true) : decVal l < 100000 := by
  simp only [digsOK, Bool.and_eq_true, decide_eq_true_eq] at h
  have := decVal_lt l.length l rfl h.2
  have h5 : 10 ^ l.length ≤ 10 ^ 5 := Nat.pow_le_pow_right (by decide) h.1.2
  omega
theorem decFrom_val : ∀ (l : List UInt8) (acc : Nat), l.all digitB = true → Lib.decFrom acc l = some (l.foldl (fun n b => 10 * n + (b.toNat - 48)) acc)
  | [], acc, _ => rfl
  | b :: l, acc, h => by
    simp only [List.all_cons, Bool.and_eq_true] at h
    have hb := h.1
    simp only [digitB, Bool.and_eq_true, decide_eq_true_eq] at hb
    have : Lib.digitVal b = some (b.toNat - 48) := by simp [Lib.digitVal, hb]
    simp only [Lib.decFrom, this, List.foldl_cons]
    rw [decFrom_val l _ h.2, Nat.mul_comm]
theorem atoi_val (l : List UInt8) (h : digsOK l = true) : Lib.atoi l = some (decVal l : Int) := by
  simp only [digsOK, Bool.and_eq_true, decide_eq_true_eq] at h
  cases l with
  | nil => simp at h
  | cons b r =>
    have hb := h.2
    rw [List.all_cons] at hb
    simp only [Bool.and_eq_true] at hb
    have hb1 := hb.1
    simp only [digitB, Bool.and_eq_true, decide_eq_true_eq] at hb1
    have h1 : (b == 45) = false := by
      rw [beq_eq_false_iff_ne]; intro e; subst e; simp at hb1
    have h2 : (b == 43) = false := by
      rw [beq_eq_false_iff_ne]; intro e; subst e; simp at hb1
    show (if (b == 45) = true then _ else if (b == 43) = true then _ else _) = _
    rw [h1, h2]
    simp only [Bool.false_eq_true, if_false, Lib.decNat, List.isEmpty_cons]
    rw [decFrom_val (b :: r) 0 h.2]
    rfl

/-! Trim -/
theorem trimS_nil (l cs : List UInt8) : (Lib.trimS l cs).isEmpty = l.all (cs.contains ·) := by
  have h1 : ∀ m : List UInt8, (m.dropWhile (cs.contains ·)).isEmpty = m.all (cs.contains ·) := by
    intro m
    induction m with
    | nil => rfl
    | cons a m ih =>
      rw [List.dropWhile_cons, List.all_cons]
      by_cases h : cs.contains a = true
      · rw [if_pos h, ih, h]; simp
      · rw [if_neg h, Bool.eq_false_iff.2 h]; rfl
  unfold Lib.trimS Lib.trimLeftS Lib.trimRightS
  rw [h1, Bool.eq_iff_iff, List.all_reverse]
  rw [List.all_eq_true, List.all_eq_true]
  constructor
  · intro h x hx
    have hx' : x ∈ l.reverse := List.mem_reverse.2 hx
    rw [← List.takeWhile_append_dropWhile (p := (cs.contains ·)) (l := l.reverse), List.mem_append] at hx'
    rcases hx' with hx' | hx'
    · exact (List.all_eq_true.1 (List.all_takeWhile (p := (cs.contains ·)) (l := l.reverse))) x hx'
    · exact h x hx'
  · intro h x hx
    exact h x (List.mem_reverse.1 (List.dropWhile_sublist _ |>.mem hx))

/-! Split -/
/-- A host's name and port, or the error. -/
def hostSplit (l : List UInt8) : Except Int (List UInt8 × Int) :=
  if 128 < l.length then .error 4 else
  if (cut1 58 l).2.2 && !digsOK (cut1 58 l).2.1 then .error 3 else
  if !(segs 46 (cut1 58 l).1).all labB then .error 3 else
  if 64 < (cut1 58 l).1.length then .error 4 else
  if (cut1 58 l).2.2 && (decide (decVal (cut1 58 l).2.1 < 1) || decide (65535 < decVal (cut1 58 l).2.1)) then .error 2 else
  .ok (lower (cut1 58 l).1, if (cut1 58 l).2.2 then (decVal (cut1 58 l).2.1 : Int) else 80)

theorem hostSplit_err {l : List UInt8} {e : Int} (h : hostSplit l = .error e) : e = 2 ∨ e = 3 ∨ e = 4 := by
  unfold hostSplit at h
  repeat (split at h; · cases h; simp)
  cases h

/-! The stages of Split -/
/-- What the part before the labels leaves: the name and the port. -/
def Stage1 (l t : List UInt8) (p : Int) : Prop :=
  t = (cut1 58 l).1 ∧ (((cut1 58 l).2.2 = false ∧ p = 80) ∨ ((cut1 58 l).2.2 = true ∧ digsOK (cut1 58 l).2.1 = true ∧ p = (decVal (cut1 58 l).2.1 : Int)))
theorem Stage1.split {l t : List UInt8} {p : Int} (h : Stage1 l t p) (hl : l.length ≤ 128) :
    hostSplit l = if (segs 46 t).all labB = false then .error 3 else if 64 < t.length then .error 4 else if p < 1 ∨ 65535 < p then .error 2 else .ok (lower t, p) := by
  obtain ⟨rfl, ⟨h1, rfl⟩ | ⟨h1, h2, rfl⟩⟩ := h
  · unfold hostSplit
    rw [if_neg (by omega), h1]
    simp
  · unfold hostSplit
    rw [if_neg (by omega), h1, h2]
    simp
    congr 3
    simp; omega
theorem hostSplit_long {l : List UInt8} (h : 128 < l.length) : hostSplit l = .error 4 := by unfold hostSplit; rw [if_pos h]
theorem hostSplit_digs {l : List UInt8} (h0 : l.length ≤ 128) (h1 : (cut1 58 l).2.2 = true) (h2 : digsOK (cut1 58 l).2.1 = false) : hostSplit l = .error 3 := by
  unfold hostSplit; rw [if_neg (by omega), h1, h2]; simp
theorem cut1_at {c : UInt8} {l : List UInt8} {k : Nat} (hk : k < l.length) (h : ∀ b ∈ l.take k, b ≠ c) (hc : l[k]?.getD 0 = c) : cut1 c l = (l.take k, l.drop (k + 1), true) := by
  induction l generalizing k with
  | nil => simp at hk
  | cons b l ih =>
    cases k with
    | zero => simp at hc; subst hc; simp [cut1]
    | succ k =>
      have hb : b ≠ c := h b (by simp)
      have := ih (k := k) (by simpa using hk) (fun x hx => h x (by simp [hx])) (by simpa using hc)
      rw [cut1, if_neg hb, this]; simp
theorem cut1_free {c : UInt8} {l : List UInt8} (h : ∀ b ∈ l, b ≠ c) : cut1 c l = (l, [], false) := by
  induction l with
  | nil => rfl
  | cons b l ih =>
    rw [cut1, if_neg (h b (by simp)), ih fun x hx => h x (by simp [hx])]
theorem free_snoc {c : UInt8} {l : List UInt8} {k : Nat} (hk : k < l.length) (h : ∀ b ∈ l.take k, b ≠ c) (hc : l[k]?.getD 0 ≠ c) : ∀ b ∈ l.take (k + 1), b ≠ c := by
  rw [List.take_succ_eq_append_getElem hk]
  intro b hb
  rcases List.mem_append.1 hb with hb | hb
  · exact h b hb
  · simp at hb; subst hb; rw [List.getElem?_eq_getElem hk] at hc; exact hc
/-- m digits of dg are read: they spell p. -/
def DigAt (dg : List UInt8) (m : Nat) (p : Nat) : Prop := m ≤ dg.length ∧ (dg.take m).all digitB = true ∧ p = decVal (dg.take m)
theorem DigAt.start (dg : List UInt8) : DigAt dg 0 0 := ⟨Nat.zero_le _, by simp, by simp [decVal]⟩
theorem DigAt.next {dg : List UInt8} {m p : Nat} (h : DigAt dg m p) (hm : m < dg.length) (hd : digitB (dg[m]?.getD 0) = true) : DigAt dg (m + 1) (10 * p + ((dg[m]?.getD 0).toNat - 48)) := by
  obtain ⟨h1, h2, rfl⟩ := h
  rw [List.getElem?_eq_getElem hm] at hd ⊢
  refine ⟨hm, ?_, ?_⟩
  · rw [List.take_succ_eq_append_getElem hm, List.all_append, h2]; simpa using hd
  · rw [List.take_succ_eq_append_getElem hm, decVal_snoc]; rfl
theorem DigAt.bound {dg : List UInt8} {m p : Nat} (h : DigAt dg m p) (hm : m ≤ 4) : p ≤ 9999 := by
  obtain ⟨h1, h2, rfl⟩ := h
  have := decVal_lt (dg.take m).length _ rfl h2
  have h5 : 10 ^ (dg.take m).length ≤ 10 ^ 4 := Nat.pow_le_pow_right (by decide) (by simp; omega)
  omega
theorem DigAt.bad {dg : List UInt8} {m : Nat} (hm : m < dg.length) (hd : digitB (dg[m]?.getD 0) = false) : digsOK dg = false := by
  rw [List.getElem?_eq_getElem hm] at hd
  unfold digsOK
  rw [show dg.all digitB = false from List.all_eq_false.2 ⟨dg[m], List.getElem_mem _, by simpa using hd⟩, Bool.and_false]
theorem DigAt.done {dg : List UInt8} {p : Nat} (h : DigAt dg dg.length p) (h1 : 1 ≤ dg.length) (h5 : dg.length ≤ 5) : digsOK dg = true ∧ p = decVal dg := by
  obtain ⟨_, h2, rfl⟩ := h
  rw [List.take_length] at h2 ⊢
  exact ⟨by simp [digsOK, h1, h5]; exact fun x hx => List.all_eq_true.1 h2 x hx, rfl⟩

/-! The other functions -/
theorem hostSplit_ok {l n : List UInt8} {p : Int} (h : hostSplit l = .ok (n, p)) : 1 ≤ p ∧ p ≤ 65535 ∧ n.length ≤ 64 ∧ n.length ≤ l.length ∧ n = lower (cut1 58 l).1 := by
  unfold hostSplit at h
  have hl := (cut1_len 58 l).1
  split at h
  · cases h
  split at h
  · cases h
  split at h
  · cases h
  split at h
  · cases h
  split at h
  · cases h
  rename_i h1 h2 h3 h4 h5
  injection h with h
  injection h with ha hb
  subst ha; subst hb
  rw [lower_length]
  refine ⟨?_, ?_, by omega, hl, rfl⟩
  · split
    · rename_i hc; simp [hc] at h5; omega
    · decide
  · split
    · rename_i hc; simp [hc] at h5; omega
    · decide
def hostWrite (n : List UInt8) (p : Int) : List UInt8 := if p = 80 then n else n ++ 58 :: Lib.itoa p
def hostWritten (n : List UInt8) (p : Int) : Except Int (List UInt8) := if 64 < (hostWrite n p).length then .error 4 else .ok (hostWrite n p)
def hostNormal (l : List UInt8) : Except Int (List UInt8) := match hostSplit l with
  | .error e => .error e
  | .ok x => hostWritten x.1 x.2
def hostIs (l : List UInt8) : Bool := match hostNormal l with
  | .error _ => false
  | .ok n => n == l
def hostSame (a b : List UInt8) : Bool × Int := match hostSplit a with
  | .error e => (false, e)
  | .ok x => match hostSplit b with
    | .error e => (false, e)
    | .ok y => (x.1 == y.1 && x.2 == y.2, 0)
def hostLabels (l : List UInt8) : Except Int (List (List UInt8)) := match hostSplit l with
  | .error e => .error e
  | .ok x => .ok (segs 46 x.1)
def hostUnder (a b : List UInt8) : Bool × Int := match hostSplit a with
  | .error e => (false, e)
  | .ok x => match hostSplit b with
    | .error e => (false, e)
    | .ok y => ((segs 46 y.1).isSuffixOf (segs 46 x.1), 0)
def hostJoin (l : List UInt8) (p : Int) : Except Int (List UInt8) := match hostSplit l with
  | .error e => .error e
  | .ok x => if x.1.length ≠ l.length then .error 3 else if p < 1 ∨ 65535 < p then .error 2 else hostWritten x.1 p
/-- How two strings of bytes are ordered. -/
def cmpB (a b : List UInt8) : Int := if Op.bytesLess a b then -1 else if a == b then 0 else 1
/-- How two lists of strings are ordered. -/
def cmpL : List (List UInt8) → List (List UInt8) → Int
  | [], [] => 0
  | [], _ :: _ => -1
  | _ :: _, [] => 1
  | a :: l, b :: m => if cmpB a b = 0 then cmpL l m else cmpB a b
def cmpI (p q : Int) : Int := if p < q then -1 else if q < p then 1 else 0
def hostCmp (x y : List UInt8 × Int) : Int :=
  if cmpL (segs 46 x.1).reverse (segs 46 y.1).reverse = 0 then cmpI x.2 y.2 else cmpL (segs 46 x.1).reverse (segs 46 y.1).reverse
def hostCompare (a b : List UInt8) : Int × Int := match hostSplit a with
  | .error e => (0, e)
  | .ok x => match hostSplit b with
    | .error e => (0, e)
    | .ok y => (hostCmp x y, 0)

end Go.Proofs.YteigjobliflkdaaGreatDoor
