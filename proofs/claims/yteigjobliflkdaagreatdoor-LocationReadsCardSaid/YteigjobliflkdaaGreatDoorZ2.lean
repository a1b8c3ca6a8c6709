/- Texts of this claim, joined in build order: S17, R01, R01b, B2, B01, B01b, B01c, B01d. -/
import Derived.Test.YteigjobliflkdaaGreatDoorZ1
import Derived.Deep.RegionWith
import Derived.StillTailTactics
import Derived.Deep.RegionHeld3
import Derived.ChangeKeysEq
import Derived.Deep.LoopGhost
/- Plain: what the packages byteset, percent, dots, location, target and their references compute, on lists of bytes. No program stands here. -/
namespace Go.Proofs.YteigjobliflkdaaGreatDoor
open Go

/-! Words of 64 bits out of a test on numbers -/
def wordUp (P : Nat → Bool) (k : Nat) : Nat → Nat
  | 0 => 0
  | m + 1 => wordUp P k m ||| (if P (k + m) then 2 ^ m else 0)
theorem wordUp_bit (P : Nat → Bool) (k : Nat) : ∀ m b, (wordUp P k m).testBit b = (decide (b < m) && P (k + b))
  | 0, b => by simp [wordUp]
  | m + 1, b => by
    rw [wordUp, Nat.testBit_or, wordUp_bit P k m b]
    by_cases h : P (k + m) = true
    · rw [if_pos h, Nat.testBit_two_pow]
      by_cases e : m = b
      · subst e; simp [h]
      · have e1 : decide (m = b) = false := by simpa using e
        rw [e1, Bool.or_false]
        congr 1
        rw [decide_eq_decide]; omega
    · rw [if_neg h, Nat.zero_testBit, Bool.or_false]
      by_cases e : m = b
      · subst e; simp [h]
      · congr 1
        rw [decide_eq_decide]; omega
theorem wordUp_lt (P : Nat → Bool) (k : Nat) : ∀ m, wordUp P k m < 2 ^ m
  | 0 => by simp [wordUp]
  | m + 1 => by
    have := wordUp_lt P k m
    rw [wordUp]
    refine Nat.or_lt_two_pow ?_ ?_
    · rw [Nat.pow_succ]; omega
    · split
      · exact Nat.pow_lt_pow_right (by decide) (by omega)
      · exact Nat.two_pow_pos _
/-- The word number i of a set. -/
def word (P : Nat → Bool) (i : Nat) : Nat := wordUp P (64 * i) 64
theorem word_bit (P : Nat → Bool) (i b : Nat) : (word P i).testBit b = (decide (b < 64) && P (64 * i + b)) := wordUp_bit P _ 64 b
theorem word_lt (P : Nat → Bool) (i : Nat) : word P i < 18446744073709551616 := wordUp_lt P _ 64
theorem word_eq {x : Nat} {P : Nat → Bool} {i : Nat} (hx : x < 18446744073709551616) (h : ∀ b, b < 64 → x.testBit b = P (64 * i + b)) : x = word P i := by
  apply Nat.eq_of_testBit_eq
  intro b
  rw [word_bit]
  by_cases hb : b < 64
  · rw [h b hb]; simp [hb]
  · rw [Nat.testBit_lt_two_pow (Nat.lt_of_lt_of_le hx (Nat.pow_le_pow_right (n := 2) (by decide) (show 64 ≤ b by omega)))]
    simp [hb]
theorem word_congr {P Q : Nat → Bool} (h : ∀ n, n < 256 → P n = Q n) {i : Nat} (hi : i < 4) : word P i = word Q i :=
  word_eq (word_lt P i) fun b hb => by rw [word_bit, h _ (by omega)]; simp [hb]
theorem word_or (P Q : Nat → Bool) (i : Nat) : word P i ||| word Q i = word (fun n => P n || Q n) i :=
  word_eq (Nat.or_lt_two_pow (n := 64) (word_lt P i) (word_lt Q i)) fun b hb => by rw [Nat.testBit_or, word_bit, word_bit]; simp [hb]
theorem word_and (P Q : Nat → Bool) (i : Nat) : word P i &&& word Q i = word (fun n => P n && Q n) i :=
  word_eq (Nat.and_lt_two_pow (n := 64) _ (word_lt Q i)) fun b hb => by rw [Nat.testBit_and, word_bit, word_bit]; simp [hb]
theorem word_none (i : Nat) : word (fun _ => false) i = 0 := (word_eq (x := 0) (by decide) fun b hb => by simp).symm
theorem word_not (P : Nat → Bool) (i : Nat) : 18446744073709551615 ^^^ word P i = word (fun n => !P n) i :=
  word_eq (Nat.xor_lt_two_pow (n := 64) (by decide) (word_lt P i)) fun b hb => by
    rw [Nat.testBit_xor, word_bit, show (18446744073709551615 : Nat) = 2 ^ 64 - 1 from rfl, Nat.testBit_two_pow_sub_one]; simp [hb]
/-- One byte more. -/
def addB (P : Nat → Bool) (c : Nat) : Nat → Bool := fun n => P n || decide (n = c)
theorem word_add (P : Nat → Bool) (c : Nat) : word P (c / 64) ||| 2 ^ (c % 64) = word (addB P c) (c / 64) :=
  word_eq (Nat.or_lt_two_pow (n := 64) (word_lt P _) (Nat.pow_lt_pow_right (by decide) (Nat.mod_lt _ (by decide)))) fun b hb => by
    rw [Nat.testBit_or, word_bit, Nat.testBit_two_pow]
    simp only [hb, decide_true, Bool.true_and, addB]
    congr 1
    rw [decide_eq_decide]; omega
theorem word_keep (P : Nat → Bool) (c i : Nat) (h : i ≠ c / 64) : word (addB P c) i = word P i := by
  symm
  refine word_eq (word_lt P i) fun b hb => ?_
  rw [word_bit]
  have : decide (64 * i + b = c) = false := by rw [decide_eq_false_iff_not]; omega
  simp [hb, addB, this]
theorem word_has (P : Nat → Bool) (c : Nat) : word P (c / 64) / 2 ^ (c % 64) % 2 = if P c then 1 else 0 := by
  have h := word_bit P (c / 64) (c % 64)
  rw [Nat.testBit_eq_decide_div_mod_eq, show 64 * (c / 64) + c % 64 = c by omega, show decide (c % 64 < 64) = true by simp; omega, Bool.true_and] at h
  have h2 := Nat.mod_two_eq_zero_or_one (word P (c / 64) / 2 ^ (c % 64))
  cases hp : P c
  · rw [hp] at h; have := of_decide_eq_false h; simp; omega
  · rw [hp] at h; have := of_decide_eq_true h; simp; omega
/-- A set as a value. -/
def setV (P : Nat → Bool) : Value := .agg #[.int .u64 (word P 0), .int .u64 (word P 1), .int .u64 (word P 2), .int .u64 (word P 3)]
theorem setV_congr {P Q : Nat → Bool} (h : ∀ n, n < 256 → P n = Q n) : setV P = setV Q := by
  unfold setV
  rw [word_congr h (by decide), word_congr h (by decide), word_congr h (by decide), word_congr h (by decide)]
theorem setV_inj {P Q : Nat → Bool} (h : ∀ i, i < 4 → word P i = word Q i) (n : Nat) (hn : n < 256) : P n = Q n := by
  have := congrArg (fun x => x.testBit (n % 64)) (h (n / 64) (by omega))
  simp only [word_bit] at this
  rw [show 64 * (n / 64) + n % 64 = n by omega, show decide (n % 64 < 64) = true by simp; omega] at this
  simpa using this
/-- The bytes of a list. -/
def ofB (l : List UInt8) : Nat → Bool := fun n => l.any fun b => b.toNat == n
theorem ofB_snoc (l : List UInt8) (b : UInt8) (n : Nat) : ofB (l ++ [b]) n = addB (ofB l) b.toNat n := by
  have e : ∀ a c : Nat, (a == c) = (c == a) := fun a c => by rw [Bool.eq_iff_iff]; simp; omega
  simp [ofB, addB, e]
  rw [Bool.eq_iff_iff]; simp; 
/-- All bytes of a list are in the set: what 'Common(s, used) == used' tells. -/
theorem all_common (P : Nat → Bool) (l : List UInt8) : (∀ n, n < 256 → (P n && ofB l n) = ofB l n) ↔ l.all (fun b => P b.toNat) = true := by
  rw [List.all_eq_true]
  constructor
  · intro h b hb
    have := h b.toNat b.toNat_lt
    have ho : ofB l b.toNat = true := by
      unfold ofB; rw [List.any_eq_true]; exact ⟨b, hb, by simp⟩
    rw [ho] at this; simpa using this
  · intro h n hn
    cases ho : ofB l n
    · simp
    · unfold ofB at ho; rw [List.any_eq_true] at ho
      obtain ⟨b, hb, hbn⟩ := ho
      have hbn : b.toNat = n := by simpa using hbn
      subst hbn
      simp [h b hb]

/-! Escapes -/
def hexV (b : UInt8) : Int := if 48 ≤ b.toNat ∧ b.toNat ≤ 57 then b.toNat - 48 else if 65 ≤ b.toNat ∧ b.toNat ≤ 70 then b.toNat - 55 else if 97 ≤ b.toNat ∧ b.toNat ≤ 102 then b.toNat - 87 else -1
def hexD (n : Nat) : UInt8 := ([48, 49, 50, 51, 52, 53, 54, 55, 56, 57, 65, 66, 67, 68, 69, 70] : List UInt8)[n]?.getD 0
/-- An escape stands at the head. -/
def escB : List UInt8 → Bool
  | a :: x :: y :: _ => a == 37 && decide (0 ≤ hexV x) && decide (0 ≤ hexV y)
  | _ => false
def escV : List UInt8 → UInt8
  | _ :: x :: y :: _ => UInt8.ofNat (16 * (hexV x).toNat + (hexV y).toNat)
  | _ => 0
def pctDecF : Nat → List UInt8 → Option (List UInt8)
  | 0, _ => some []
  | f + 1, l => match l with
    | [] => some []
    | b :: r => if escB (b :: r) then (pctDecF f (r.drop 2)).map (escV (b :: r) :: ·) else if b = 37 then none else (pctDecF f r).map (b :: ·)
/-- What a string says. -/
def pctDec (l : List UInt8) : Option (List UInt8) := pctDecF l.length l
def pctB (P : Nat → Bool) (b : UInt8) : List UInt8 := if b ≠ 37 ∧ P b.toNat = true then [b] else [37, hexD (b.toNat / 16), hexD (b.toNat % 16)]
def pctEnc (P : Nat → Bool) (l : List UInt8) : List UInt8 := l.flatMap (pctB P)

/-! Paths -/
def dottedB (s : List UInt8) : Bool := s == [46] || s == [46, 46]
def piecesOK : List (List UInt8) → Bool
  | [] => true
  | [s] => !dottedB s
  | s :: r => !dottedB s && !(s == []) && piecesOK r
def dNormal (p : List UInt8) : Bool := decide (1 ≤ p.length) && decide (p.length ≤ 128) && p.head? == some 47 && piecesOK (segs 47 p.tail)
def cleanGo : List (List UInt8) → List (List UInt8) → Bool → Option (List (List UInt8) × Bool)
  | [], kept, op => some (kept, op)
  | s :: r, kept, _ => if s == [46, 46] then (if kept == [] then none else cleanGo r kept.dropLast true) else if s == [] || s == [46] then cleanGo r kept true else cleanGo r (kept ++ [s]) false
def dPut (kept : List (List UInt8)) (op : Bool) : List UInt8 := kept.flatMap (47 :: ·) ++ if op || kept == [] then [47] else []
def dClean (p : List UInt8) : Except Int (List UInt8) := if p.head? == some 47 then (match cleanGo (segs 47 p.tail) [] false with
  | none => .error 18
  | some x => .ok (dPut x.1 x.2)) else .error 3

/-! Locations -/
def httpL : List UInt8 := [104, 116, 116, 112, 58, 47, 47]
def stayN (n : Nat) : Bool := (decide (97 ≤ n) && decide (n ≤ 122)) || (decide (65 ≤ n) && decide (n ≤ 90)) || (decide (48 ≤ n) && decide (n ≤ 57)) || ([45, 46, 95, 126, 33, 36, 38, 39, 40, 41, 42, 43, 44, 59, 61, 58, 64, 47] : List Nat).contains n
def charN (n : Nat) : Bool := decide (33 ≤ n) && decide (n ≤ 126) && !(decide (n = 35))
def qryB (l : List UInt8) : Bool := l.all fun b => charN b.toNat
def locQuery (l : List UInt8) : Bool × Int := if 128 < l.length then (false, 4) else (qryB l, 0)
def qTail (q : List UInt8) : List UInt8 := if q == [] then [] else 63 :: q
def locText (p q : List UInt8) : List UInt8 := pctEnc stayN p ++ qTail q
def placeErr (p q : List UInt8) : Int := if 128 < p.length then 4 else if dNormal p = false then 18 else if 128 < q.length then 4 else if qryB q = false then 3 else 0
def locBuild (h p q : List UInt8) : Except Int (List UInt8) := if hostIs h = false then .error 11 else if placeErr p q ≠ 0 then .error (placeErr p q) else .ok (httpL ++ h ++ locText p q)
/-- The parts of a Location. -/
def locSplit (l : List UInt8) : Option (List UInt8 × List UInt8 × List UInt8) :=
  if httpL.isPrefixOf l = false then none else
  let rest := l.drop 7
  if (cut1 47 rest).2.2 = false then none else
  let h := (cut1 47 rest).1
  let r := 47 :: (cut1 47 rest).2.1
  if hostIs h = false then none else
  match pctDec (cut1 63 r).1 with
  | none => none
  | some p => match locBuild h p (cut1 63 r).2.1 with
    | .error _ => none
    | .ok s => if s == l then some (h, p, (cut1 63 r).2.1) else none
def locOwn (l n : List UInt8) : Bool × Int := match locSplit l with
  | none => (false, 3)
  | some x => if hostIs n = false then (false, 11) else (x.1 == n, 0)
def safeB (l : List UInt8) : Bool := l.all fun b => !(b == 0 || b == 10 || b == 13)

/-! Targets -/
def tgtSplit (l : List UInt8) : Except Int (List UInt8 × List UInt8) :=
  if 1024 < l.length then .error 4 else if (l.head? == some 47 && qryB l) = false then .error 3 else .ok ((cut1 63 l).1, (cut1 63 l).2.1)
/-- A path and a query; or the error and the status. -/
def tgtRead (l : List UInt8) (limit : Int) : Except (Int × Int) (List UInt8 × List UInt8) :=
  if limit < 1 ∨ 128 < limit then .error (2, 0) else
  match tgtSplit l with
  | .error e => .error (e, if e = 4 then 414 else 400)
  | .ok x => match pctDec x.1 with
    | none => .error (3, 400)
    | some d => if safeB d = false then .error (3, 400) else
      match dClean d with
      | .error _ => .error (18, 400)
      | .ok p => if limit < p.length ∨ 128 < x.2.length then .error (4, 414) else .ok (p, x.2)
def tgtText (p q : List UInt8) : Except Int (List UInt8) := if dNormal p = false then .error 18 else if placeErr p q ≠ 0 then .error (placeErr p q) else .ok (locText p q)
def tgtCanon (l : List UInt8) : Except Int (List UInt8) := match tgtRead l 128 with
  | .error e => .error e.1
  | .ok x => tgtText x.1 x.2
def tgtSame (a b : List UInt8) : Bool × Int := match tgtRead a 128 with
  | .error e => (false, e.1)
  | .ok x => match tgtRead b 128 with
    | .error e => (false, e.1)
    | .ok y => (x.1 == y.1 && x.2 == y.2, 0)
end Go.Proofs.YteigjobliflkdaaGreatDoor
/- Walks: waypostref01 (sets of bytes). -/
namespace Go.Proofs.YteigjobliflkdaaGreatDoor
open Go.RowKit

theorem or_bit (P : Nat → Bool) (c i : Nat) (h : c / 64 = i) : bits .or .u64 (word P i : Int) (IntKind.u64.wrap (2 ^ (c % 64))) = (word (addB P c) i : Int) := by
  subst h
  have hl : 2 ^ (c % 64) < 18446744073709551616 := Nat.pow_lt_pow_right (n := 64) (by decide) (Nat.mod_lt _ (by decide))
  have e : IntKind.u64.wrap ((2 : Int) ^ (c % 64)) = ((2 ^ (c % 64) : Nat) : Int) := by
    rw [IntKind.wrap_u64, show ((2 : Int) ^ (c % 64)) = ((2 ^ (c % 64) : Nat) : Int) by simp]
    generalize 2 ^ (c % 64) = x at hl
    omega
  rw [e, bits_or_u64_nat _ _ (word_lt _ _) hl, word_add]
theorem with_val (P : Nat → Bool) (c : Nat) : setV (addB P c) = .agg #[
    .int .u64 (if c / 64 = 0 then bits .or .u64 (word P 0 : Int) (IntKind.u64.wrap (2 ^ (c % 64))) else word P 0),
    .int .u64 (if c / 64 = 1 then bits .or .u64 (word P 1 : Int) (IntKind.u64.wrap (2 ^ (c % 64))) else word P 1),
    .int .u64 (if c / 64 = 2 then bits .or .u64 (word P 2 : Int) (IntKind.u64.wrap (2 ^ (c % 64))) else word P 2),
    .int .u64 (if c / 64 = 3 then bits .or .u64 (word P 3 : Int) (IntKind.u64.wrap (2 ^ (c % 64))) else word P 3)] := by
  unfold setV
  have e : ∀ i, (if c / 64 = i then bits .or .u64 (word P i : Int) (IntKind.u64.wrap (2 ^ (c % 64))) else (word P i : Int)) = word (addB P c) i := by
    intro i
    by_cases h : c / 64 = i
    · rw [if_pos h, or_bit P c i h]
    · rw [if_neg h, word_keep P c i (fun e => h e.symm)]
  rw [e, e, e, e]

set_option maxRecDepth 100000 in
theorem with_ref (P : Nat → Bool) (b : UInt8) (w : World) :
    Calls Tryz.prog 159 #[setV P, .int .u8 b.toNat] w (RetV (setV (addB P b.toNat)) w) := by
  have hb := b.toNat_lt
  have HV := Lib.hid (with_val P b.toNat)
  unfold setV at HV ⊢
  rcases (show b.toNat / 64 = 0 ∨ b.toNat / 64 = 1 ∨ b.toNat / 64 = 2 ∨ b.toNat / 64 = 3 by omega) with h | h | h | h
  all_goals
    have q : (b.toNat : Int) / 64 = (b.toNat / 64 : Nat) := by omega
    rw [h] at q
    have HE := Lib.hid h
    clear h
    go_enter Tryz.func159, Tryz.ntmps159
    go_wp2_with fail
    exact bodyPost_ret (by simp [results, Tryz.results159, go_sem]; rfl) rfl (RetV.mk (by rw [HV.out]; simp only [HE.out]; rfl) (((Below.refl _ _).alloc (Nat.le_refl _) _).alloc (by simp) _))
theorem has_val (P : Nat → Bool) (c i : Nat) (h : c / 64 = i) : (bits .and .u64 ((word P i : Int) / 2 ^ (c % 64)) 1 == 1) = P c := by
  subst h
  have e : ((word P (c / 64) : Int) / 2 ^ (c % 64)) = ((word P (c / 64) / 2 ^ (c % 64) : Nat) : Int) := by simp
  have hx : word P (c / 64) / 2 ^ (c % 64) < 18446744073709551616 := Nat.lt_of_le_of_lt (Nat.div_le_self _ _) (word_lt _ _)
  rw [e, show (1 : Int) = ((1 : Nat) : Int) from rfl, bits_and_u64_nat _ _ hx (by decide), nat_mask1, word_has]
  cases P c <;> rfl

set_option maxRecDepth 100000 in
theorem has_ref (P : Nat → Bool) (b : UInt8) (w : World) :
    Calls Tryz.prog 163 #[setV P, .int .u8 b.toNat] w (RetV (.bool (P b.toNat)) w) := by
  have hb := b.toNat_lt
  unfold setV
  rcases (show b.toNat / 64 = 0 ∨ b.toNat / 64 = 1 ∨ b.toNat / 64 = 2 ∨ b.toNat / 64 = 3 by omega) with h | h | h | h
  all_goals
    have q : (b.toNat : Int) / 64 = (b.toNat / 64 : Nat) := by omega
    rw [h] at q
    have HE := Lib.hid (has_val P b.toNat _ h)
    clear h
    go_enter Tryz.func163, Tryz.ntmps163
    go_wp2_with fail
    go_ret
    exact RetV.mk (congrArg Value.bool HE.out) ((Below.refl _ _).alloc (Nat.le_refl _) _)

/-- A set lies in block g. -/
def SetAt (w : World) (g : Nat) (P : Nat → Bool) : Prop :=
  w.heap[g]? = some (.cells #[.int .u64 (word P 0), .int .u64 (word P 1), .int .u64 (word P 2), .int .u64 (word P 3)] 60 (0, 0))
theorem SetAt.cell {w : World} {g : Nat} {P : Nat → Bool} (h : SetAt w g P) (i : Nat) (hi : i < 4) : w.cell? ⟨g, i, none⟩ = some (.int .u64 (word P i)) := by
  rw [cell_of_row w g i _ 60 _ h]
  match i, hi with
  | 0, _ => rfl
  | 1, _ => rfl
  | 2, _ => rfl
  | 3, _ => rfl
theorem SetAt.frozen {w : World} {g : Nat} {P : Nat → Bool} (h : SetAt w g P) (i : Nat) : w.frozen? ⟨g, i, none⟩ = false := by
  have h : w.heap[g]? = _ := h
  unfold World.frozen?; simp only [h]; simp
theorem SetAt.zero {w : World} {g : Nat} (h : w.heap[g]? = some (.cells #[.int .u64 0, .int .u64 0, .int .u64 0, .int .u64 0] 60 (0, 0))) : SetAt w g (fun _ => false) := by
  unfold SetAt; simp only [word_none]; exact h
theorem SetAt.put {w : World} {g : Nat} {P Q : Nat → Bool} (h : SetAt w g P) :
    SetAt ((((w.setCell ⟨g, 0, none⟩ (.int .u64 (word Q 0))).setCell ⟨g, 1, none⟩ (.int .u64 (word Q 1))).setCell ⟨g, 2, none⟩ (.int .u64 (word Q 2))).setCell ⟨g, 3, none⟩ (.int .u64 (word Q 3))) g Q := by
  have h0 := Lib.heap_setCell_same (i := 0) h (.int .u64 (word Q 0))
  have h1 := Lib.heap_setCell_same (i := 1) h0 (.int .u64 (word Q 1))
  have h2 := Lib.heap_setCell_same (i := 2) h1 (.int .u64 (word Q 2))
  have h3 := Lib.heap_setCell_same (i := 3) h2 (.int .u64 (word Q 3))
  exact h3
theorem set_results {fn : Func} {p : Tmp} (h : fn.results = #[.cell p 60]) {tmps : Array Value} {w : World} {g : Nat} {P : Nat → Bool} (hp : tmps.getD p undef = .pointer (some ⟨g, 0, none⟩)) (hs : SetAt w g P) :
    (results fn tmps).run Tryz.prog w = .ok (setV P) w :=
  results_cell_row h tmps w g 60 _ (0, 0) _ hp hs Tryz.underlying60 rfl (by kernel_rfl)
theorem SetAt.congr {w : World} {g : Nat} {P Q : Nat → Bool} (h : SetAt w g P) (e : ∀ n, n < 256 → P n = Q n) : SetAt w g Q := by
  unfold SetAt at h ⊢
  rw [← word_congr e (by decide), ← word_congr e (by decide), ← word_congr e (by decide), ← word_congr e (by decide)]; exact h
theorem SetAt.other {w : World} {g g' i : Nat} {P : Nat → Bool} {v : Value} (h : SetAt w g P) (e : g ≠ g') : SetAt (w.setCell ⟨g', i, none⟩ v) g P := by
  unfold SetAt; rw [heap_setCell_other _ _ _ _ e]; exact h
theorem SetAt.below {w w' : World} {g : Nat} {P : Nat → Bool} (h : SetAt w g P) (hB : Below w.heap.size w w') : SetAt w' g P := by
  have hl : g < w.heap.size := (Array.getElem?_eq_some_iff.1 h).1
  unfold SetAt
  rw [hB.block g hl]; exact h

set_option maxRecDepth 100000 in
theorem of_ref (l : List UInt8) (g cap : Nat) (w : World) (hl : l.length ≤ 60000) (hc : ∀ j, j < l.length → w.cell? ⟨g, j, none⟩ = some (.int .u8 (l[j]?.getD 0).toNat)) :
    Calls Tryz.prog 117 #[.slice (some ⟨g, 0, none⟩) l.length cap] w (RetV (setV (ofB l)) w) := by
  have HC := Lib.hid hc
  clear hc
  go_enter Tryz.func117, Tryz.ntmps117
  go_wp2_with fail
  go_loopw [4] (fun i wr => ∃ k : Nat, k ≤ l.length ∧ i = .int .i64 k ∧ SetAt wr (w.heap.size + 1) (ofB (l.take k)) ∧ SetAt wr w.heap.size (fun _ => false) ∧ Below w.heap.size w wr) (fun i _ => l.length - (intOf i).toNat)
  case atStart => exact ⟨0, Nat.zero_le _, rfl, SetAt.zero (heap_alloc2_new _ _ _), SetAt.zero (heap_alloc2_old _ _ _), ((Below.refl _ _).alloc (Nat.le_refl _) _).alloc (by simp) _⟩
  case round =>
    obtain ⟨k, hk, rfl, HA, HZ, HB⟩ := hrel
    have c0 := HA.cell 0 (by decide)
    have c1 := HA.cell 1 (by decide)
    have c2 := HA.cell 2 (by decide)
    have c3 := HA.cell 3 (by decide)
    have f0 := HA.frozen 0
    have f1 := HA.frozen 1
    have f2 := HA.frozen 2
    have f3 := HA.frozen 3
    by_cases hlt : k < l.length
    · have d1 : decide ((k : Int) < (l.length : Int)) = true := by simp; omega
      have hcell := (HB.cell (p := ⟨g, k, none⟩) (World.block_lt_of_cell? w _ (HC.out k hlt))).trans (HC.out k hlt)
      have HS := Lib.hid HA
      have HK := Lib.hid (World.block_lt_of_cell? wr _ c0)
      clear f0 f1 f2 f3
      go_wp2_with fail
      have HZS := Lib.hid HZ
      have HT := Lib.hid (fun n => show ofB (l.take (k + 1)) n = addB (ofB (l.take k)) (l[k]).toNat n by rw [List.take_succ_eq_append_getElem hlt]; exact ofB_snoc _ _ n)
      go_still_tail 5, (by kernel_rfl)
      change wpList _ _ _ _ _ wr.drew
      go_wp2_with fail
      refine (with_ref _ _ _).mono ?_
      rintro e wx ⟨rfl, HBx⟩
      unfold setV
      have HAx := SetAt.below (w := wr.drew) HS.out HBx
      have HZx := Lib.hid (SetAt.below (w := wr.drew) HZS.out HBx)
      have HN := Lib.hid (HAx.put (Q := addB (ofB (l.take k)) (l[k]).toNat))
      have e0 := HAx.cell 0 (by decide)
      have e1 := HAx.cell 1 (by decide)
      have e2 := HAx.cell 2 (by decide)
      have e3 := HAx.cell 3 (by decide)
      have f0 := HAx.frozen 0
      have f1 := HAx.frozen 1
      have f2 := HAx.frozen 2
      have f3 := HAx.frozen 3
      go_wp2_with fail
      go_roundw
      case rel => exact ⟨k + 1, by omega, by go_num, HN.out.congr fun n hn => (HT.out n).symm, ((((HZx.out.other (by omega)).other (by omega)).other (by omega)).other (by omega)), ((((HB.drew.trans (HBx.mono HB.size)).setCell (by simp) _).setCell (by simp) _).setCell (by simp) _).setCell (by simp) _⟩
      case measure => (simp [intOf]; try omega)
    · have d1 : decide ((k : Int) < (l.length : Int)) = false := by simp; omega
      have z0 := HZ.cell 0 (by decide)
      have z1 := HZ.cell 1 (by decide)
      have z2 := HZ.cell 2 (by decide)
      have z3 := HZ.cell 3 (by decide)
      have y0 := HZ.frozen 0
      have y1 := HZ.frozen 1
      have y2 := HZ.frozen 2
      have y3 := HZ.frozen 3
      have HR := Lib.hid (HZ.put (Q := ofB (l.take k)))
      have HE := Lib.hid (show l.take k = l from List.take_of_length_le (by omega))
      go_wp2_with fail
      exact bodyPost_ret (set_results Tryz.results117 rfl HR.out) rfl (RetV.mk (by rw [HE.out]) ((((HB.setCell (Nat.le_refl _) _).setCell (Nat.le_refl _) _).setCell (Nat.le_refl _) _).setCell (Nat.le_refl _) _))
end Go.Proofs.YteigjobliflkdaaGreatDoor
/- Walk: waypostref01.Union. -/
namespace Go.Proofs.YteigjobliflkdaaGreatDoor
open Go.RowKit

/-- The first j sets together. -/
def uniN (Q : Nat → Nat → Bool) (j : Nat) : Nat → Bool := fun n => (List.range j).any fun i => Q i n
theorem uniN_succ (Q : Nat → Nat → Bool) (j n : Nat) : uniN Q (j + 1) n = (uniN Q j n || Q j n) := by
  simp [uniN, List.range_succ]
def mixU (P Q : Nat → Bool) (k : Nat) : Nat → Bool := fun n => P n || (decide (n / 64 < k) && Q n)
theorem mixU_word (P Q : Nat → Bool) (k i : Nat) (h : i ≠ k) : word (mixU P Q (k + 1)) i = word (mixU P Q k) i :=
  (word_eq (word_lt _ _) fun b hb => by
    rw [word_bit]
    have : decide ((64 * i + b) / 64 < k + 1) = decide ((64 * i + b) / 64 < k) := by rw [decide_eq_decide]; omega
    simp only [mixU, this, hb, decide_true, Bool.true_and]).symm
theorem mixU_at (P Q : Nat → Bool) (k : Nat) : bits .or .u64 (word (mixU P Q k) k : Int) (word Q k : Int) = (word (mixU P Q (k + 1)) k : Int) := by
  rw [bits_or_u64_nat _ _ (word_lt _ _) (word_lt _ _), word_or]
  congr 1
  refine word_eq (word_lt _ _) fun b hb => ?_
  rw [word_bit]
  have : decide ((64 * k + b) / 64 < k + 1) = true := by rw [decide_eq_true_eq]; omega
  have t : decide ((64 * k + b) / 64 < k) = false := by rw [decide_eq_false_iff_not]; omega
  simp [mixU, this, t, hb]
theorem SetAt.one {w : World} {g k : Nat} {P R : Nat → Bool} (h : SetAt w g P) (hk : k < 4) (e : ∀ i, i ≠ k → word R i = word P i) : SetAt (w.setCell ⟨g, k, none⟩ (.int .u64 (word R k))) g R := by
  have h0 := Lib.heap_setCell_same (i := k) h (.int .u64 (word R k))
  unfold SetAt
  rw [h0]
  match k, hk, e with
  | 0, _, e => rw [e 1 (by decide), e 2 (by decide), e 3 (by decide)]; rfl
  | 1, _, e => rw [e 0 (by decide), e 2 (by decide), e 3 (by decide)]; rfl
  | 2, _, e => rw [e 0 (by decide), e 1 (by decide), e 3 (by decide)]; rfl
  | 3, _, e => rw [e 0 (by decide), e 1 (by decide), e 2 (by decide)]; rfl

set_option maxRecDepth 100000 in
set_option maxHeartbeats 400000 in
theorem union_ref (n : Nat) (Q : Nat → Nat → Bool) (g cap : Nat) (w : World) (hn : n ≤ 60000) (hc : ∀ j, j < n → ∀ i, i < 4 → w.cell? ⟨g, j * 4 + i, none⟩ = some (.int .u64 (word (Q j) i))) :
    Calls Tryz.prog 118 #[.slice (some ⟨g, 0, none⟩) n cap] w (RetV (setV (uniN Q n)) w) := by
  have HC := Lib.hid hc
  clear hc
  go_enter Tryz.func118, Tryz.ntmps118
  go_wp2_with fail
  go_loopw [4] (fun i wr => ∃ k : Nat, k ≤ n ∧ i = .int .i64 k ∧ SetAt wr (w.heap.size + 1) (uniN Q k) ∧ SetAt wr w.heap.size (fun _ => false) ∧ Below w.heap.size w wr) (fun i _ => n - (intOf i).toNat)
  case atStart => exact ⟨0, Nat.zero_le _, rfl, SetAt.zero (heap_alloc2_new _ _ _), SetAt.zero (heap_alloc2_old _ _ _), ((Below.refl _ _).alloc (Nat.le_refl _) _).alloc (by simp) _⟩
  case round =>
    obtain ⟨j, hj, rfl, HA, HZ, HB⟩ := hrel
    by_cases hlt : j < n
    · have d1 : decide ((j : Int) < (n : Int)) = true := by simp; omega
      obtain ⟨wo, rfl⟩ : ∃ wo : World, wo = wr := ⟨_, rfl⟩
      go_wp2_with fail
      go_loopw [5] (fun i wr => ∃ k : Nat, k ≤ 4 ∧ i = .int .i64 k ∧ SetAt wr (w.heap.size + 1) (mixU (uniN Q j) (Q j) k) ∧ SetAt wr w.heap.size (fun _ => false) ∧ Below w.heap.size w wr) (fun i _ => 4 - (intOf i).toNat)
      case atStart => exact ⟨0, by omega, rfl, HA.congr fun m _ => by simp [mixU], HZ, HB⟩
      case round =>
        obtain ⟨k, hk, rfl, HA, HZ, HB⟩ := hrel
        by_cases hk4 : k < 4
        · have d2 : decide ((k : Int) < 4) = true := by simp; omega
          have c0 := HA.cell k hk4
          have f0 := HA.frozen k
          have s0 := (HB.cell (p := ⟨g, j * 4 + k, none⟩) (World.block_lt_of_cell? w _ (HC.out j hlt k hk4))).trans (HC.out j hlt k hk4)
          have HM := Lib.hid (HA.one hk4 (mixU_word (uniN Q j) (Q j) k))
          have HE := Lib.hid (mixU_at (uniN Q j) (Q j) k)
          go_wp2_with fail
          have b1 : (k : Int) < 4 := by omega
          have b2 : (0 : Int) ≤ k := by omega
          have b3 : (j : Int) < n := by omega
          have b4 : (0 : Int) ≤ j := by omega
          go_still_tail 12, (by kernel_rfl)
          change wpList _ _ _ _ _ wr.drew
          go_wp2_with fail
          go_roundw
          case rel => exact ⟨k + 1, by omega, by go_num, by rw [HE.out]; exact HM.out, HZ.other (by omega), (HB.setCell (by simp) _).drew⟩
          case measure => (simp [intOf]; try omega)
        · have hk4' : k = 4 := by omega
          subst hk4'
          have HN := Lib.hid (HA.congr (Q := uniN Q (j + 1)) fun m hm => by rw [uniN_succ, mixU, show decide (m / 64 < 4) = true by rw [decide_eq_true_eq]; omega, Bool.true_and])
          go_wp2_with fail
          go_roundw
          case rel => exact ⟨j + 1, by omega, by go_num, HN.out, HZ, HB⟩
          case measure => (simp [intOf]; try omega)
    · have d1 : decide ((j : Int) < (n : Int)) = false := by simp; omega
      have HE := Lib.hid (show j = n by omega)
      have c0 := HA.cell 0 (by decide)
      have c1 := HA.cell 1 (by decide)
      have c2 := HA.cell 2 (by decide)
      have c3 := HA.cell 3 (by decide)
      have z0 := HZ.cell 0 (by decide)
      have z1 := HZ.cell 1 (by decide)
      have z2 := HZ.cell 2 (by decide)
      have z3 := HZ.cell 3 (by decide)
      have y0 := HZ.frozen 0
      have y1 := HZ.frozen 1
      have y2 := HZ.frozen 2
      have y3 := HZ.frozen 3
      have HR := Lib.hid (HZ.put (Q := uniN Q j))
      go_wp2_with fail
      exact bodyPost_ret (set_results Tryz.results118 rfl HR.out) rfl (RetV.mk (by rw [HE.out]) ((((HB.setCell (Nat.le_refl _) _).setCell (Nat.le_refl _) _).setCell (Nat.le_refl _) _).setCell (Nat.le_refl _) _))
end Go.Proofs.YteigjobliflkdaaGreatDoor
/- Small: worlds in a row. -/
namespace Go.Proofs.YteigjobliflkdaaGreatDoor
open Go.RowKit
theorem below2 {a b c : World} (h : Below a.heap.size a b) (k : Below b.heap.size b c) : Below a.heap.size a c := h.trans (k.mono h.size)
theorem below7 {a b c d e f g h : World} (h1 : Below a.heap.size a b) (h2 : Below b.heap.size b c) (h3 : Below c.heap.size c d) (h4 : Below d.heap.size d e) (h5 : Below e.heap.size e f) (h6 : Below f.heap.size f g) (h7 : Below g.heap.size g h) : Below a.heap.size a h :=
  below2 (below2 (below2 (below2 (below2 (below2 h1 h2) h3) h4) h5) h6) h7
end Go.Proofs.YteigjobliflkdaaGreatDoor
/- Walks: byteset (Has, Of, Not, Union, Common). -/
namespace Go.Proofs.YteigjobliflkdaaGreatDoor
open Go.RowKit

theorem SetAt.alloc' {w : World} {g : Nat} {P : Nat → Bool} (h : SetAt w g P) (o : Obj) : SetAt (w.alloc o) g P := h.below ((Below.refl _ _).alloc (Nat.le_refl _) o)
set_option maxRecDepth 100000 in
theorem has_any (P : Nat → Bool) (b : UInt8) (w : World) :
    Calls Tryz.prog 150 #[setV P, .int .u8 b.toNat] w (RetV (.bool (P b.toNat)) w) := by
  have hb := b.toNat_lt
  unfold setV
  rcases (show b.toNat / 64 = 0 ∨ b.toNat / 64 = 1 ∨ b.toNat / 64 = 2 ∨ b.toNat / 64 = 3 by omega) with h | h | h | h
  all_goals
    have q : (b.toNat : Int) / 64 = (b.toNat / 64 : Nat) := by omega
    rw [h] at q
    have HE := Lib.hid (has_val P b.toNat _ h)
    clear h
    go_enter Tryz.func150, Tryz.ntmps150
    go_wp2_with fail
    go_ret
    exact RetV.mk (congrArg Value.bool HE.out) ((Below.refl _ _).alloc (Nat.le_refl _) _)

set_option maxRecDepth 100000 in
set_option maxHeartbeats 800000 in
theorem of_any (l : List UInt8) (g cap : Nat) (w : World) (hl : l.length ≤ 60000) (hc : ∀ j, j < l.length → w.cell? ⟨g, j, none⟩ = some (.int .u8 (l[j]?.getD 0).toNat)) :
    Calls Tryz.prog 116 #[.slice (some ⟨g, 0, none⟩) l.length cap] w (RetV (setV (ofB l)) w) := by
  have HC := Lib.hid hc
  clear hc
  go_enter Tryz.func116, Tryz.ntmps116
  go_wp2_with fail
  go_loopw [5, 8] (fun c i wr => ∃ k : Nat, k ≤ l.length ∧ i = .int .i64 k ∧ SetAt wr (w.heap.size + 1) (ofB (l.take k)) ∧ SetAt wr w.heap.size (fun _ => false) ∧ Below w.heap.size w wr) (fun _ i _ => l.length - (intOf i).toNat)
  case atStart => exact ⟨0, Nat.zero_le _, rfl, SetAt.zero (heap_alloc2_new _ _ _), SetAt.zero (heap_alloc2_old _ _ _), ((Below.refl _ _).alloc (Nat.le_refl _) _).alloc (by simp) _⟩
  case round =>
    obtain ⟨k, hk, rfl, HA, HZ, HB⟩ := hrel
    by_cases hlt : k < l.length
    · have d1 : decide ((k : Int) < (l.length : Int)) = true := by simp; omega
      have hcell := (HB.cell (p := ⟨g, k, none⟩) (World.block_lt_of_cell? w _ (HC.out k hlt))).trans (HC.out k hlt)
      have HT := Lib.hid (fun n => show ofB (l.take (k + 1)) n = addB (ofB (l.take k)) ((l[k]?.getD 0)).toNat n by rw [List.take_succ_eq_append_getElem hlt, List.getElem?_eq_getElem hlt]; exact ofB_snoc _ _ n)
      generalize l[k]?.getD 0 = b at hcell HT
      have hb := b.toNat_lt
      have hq0 : b.toNat / 64 < 4 := by omega
      obtain ⟨q, hq⟩ : ∃ q, b.toNat / 64 = q := ⟨_, rfl⟩
      have c0 := HA.cell q (by omega)
      have f0 := HA.frozen q
      have q1 : (b.toNat : Int) / 64 = (q : Int) := by omega
      have hq4 : q < 4 := by omega
      have HO := Lib.hid (or_bit (ofB (l.take k)) b.toNat q hq)
      have HM := Lib.hid (HA.one (R := addB (ofB (l.take k)) b.toNat) hq4 (fun i hi => word_keep _ _ _ (by omega)))
      clear hq hq0
      go_wp2_with fail
      go_roundw
      case rel => exact ⟨k + 1, by omega, by go_num, by rw [HO.out]; exact HM.out.congr fun n _ => (HT.out n).symm, HZ.other (by omega), HB.setCell (by simp) _⟩
      case measure => (simp [intOf]; try omega)
    · have d1 : decide ((k : Int) < (l.length : Int)) = false := by simp; omega
      have c0 := HA.cell 0 (by decide)
      have c1 := HA.cell 1 (by decide)
      have c2 := HA.cell 2 (by decide)
      have c3 := HA.cell 3 (by decide)
      have z0 := HZ.cell 0 (by decide)
      have z1 := HZ.cell 1 (by decide)
      have z2 := HZ.cell 2 (by decide)
      have z3 := HZ.cell 3 (by decide)
      have y0 := HZ.frozen 0
      have y1 := HZ.frozen 1
      have y2 := HZ.frozen 2
      have y3 := HZ.frozen 3
      have HR := Lib.hid (HZ.put (Q := ofB (l.take k)))
      have HE := Lib.hid (show l.take k = l from List.take_of_length_le (by omega))
      go_wp2_with fail
      exact bodyPost_ret (set_results Tryz.results116 rfl HR.out) rfl (RetV.mk (by rw [HE.out]) ((((HB.setCell (Nat.le_refl _) _).setCell (Nat.le_refl _) _).setCell (Nat.le_refl _) _).setCell (Nat.le_refl _) _))

def notMix (P : Nat → Bool) (k : Nat) : Nat → Bool := fun n => if n / 64 < k then !P n else P n
theorem notMix_word (P : Nat → Bool) (k i : Nat) (h : i ≠ k) : word (notMix P (k + 1)) i = word (notMix P k) i :=
  (word_eq (word_lt _ _) fun b hb => by
    rw [word_bit]
    have : ((64 * i + b) / 64 < k + 1) = ((64 * i + b) / 64 < k) := by rw [eq_iff_iff]; omega
    simp only [notMix, this, hb, decide_true, Bool.true_and]).symm
theorem notMix_at (P : Nat → Bool) (k : Nat) : bits .xor .u64 (if IntKind.u64.signed = true then -1 else IntKind.u64.max) (word (notMix P k) k : Int) = (word (notMix P (k + 1)) k : Int) := by
  rw [if_neg (by decide), show IntKind.u64.max = ((18446744073709551615 : Nat) : Int) from rfl, bits_xor_u64_nat _ _ (by decide) (word_lt _ _), word_not]
  congr 1
  refine word_eq (word_lt _ _) fun b hb => ?_
  rw [word_bit]
  have : (64 * k + b) / 64 = k := by omega
  simp [notMix, this, hb]

set_option maxRecDepth 100000 in
set_option maxHeartbeats 800000 in
theorem not_any (P : Nat → Bool) (w : World) : Calls Tryz.prog 189 #[setV P] w (RetV (setV fun n => !P n) w) := by
  unfold setV
  go_enter Tryz.func189, Tryz.ntmps189
  go_wp2_with fail
  go_loopw [3, 4] (fun c i wr => ∃ k : Nat, k ≤ 4 ∧ i = .int .i64 k ∧ SetAt wr w.heap.size (notMix P k) ∧ SetAt wr (w.heap.size + 1) (fun _ => false) ∧ Below w.heap.size w wr) (fun _ i _ => 4 - (intOf i).toNat)
  case atStart => exact ⟨0, Nat.zero_le _, rfl, SetAt.congr (P := P) (heap_alloc2_old _ _ _) (fun n _ => by simp [notMix]), SetAt.zero (heap_alloc2_new _ _ _), ((Below.refl _ _).alloc (Nat.le_refl _) _).alloc (by simp) _⟩
  case round =>
    obtain ⟨k, hk, rfl, HA, HZ, HB⟩ := hrel
    by_cases hlt : k < 4
    · have d1 : decide ((k : Int) < 4) = true := by simp; omega
      have c0 := HA.cell k hlt
      have f0 := HA.frozen k
      have HM := Lib.hid (HA.one hlt (notMix_word P k))
      have HO := Lib.hid (notMix_at P k)
      go_wp2_with fail
      go_roundw
      case rel => exact ⟨k + 1, by omega, by go_num, by rw [HO.out]; exact HM.out, HZ.other (by omega), HB.setCell (Nat.le_refl _) _⟩
      case measure => (simp [intOf]; try omega)
    · have d1 : decide ((k : Int) < 4) = false := by simp; omega
      have c0 := HA.cell 0 (by decide)
      have c1 := HA.cell 1 (by decide)
      have c2 := HA.cell 2 (by decide)
      have c3 := HA.cell 3 (by decide)
      have z0 := HZ.cell 0 (by decide)
      have z1 := HZ.cell 1 (by decide)
      have z2 := HZ.cell 2 (by decide)
      have z3 := HZ.cell 3 (by decide)
      have y0 := HZ.frozen 0
      have y1 := HZ.frozen 1
      have y2 := HZ.frozen 2
      have y3 := HZ.frozen 3
      have HR := Lib.hid (HZ.put (Q := notMix P k))
      have HE := Lib.hid (show setV (notMix P k) = setV (fun n => !P n) from setV_congr fun n hn => by rw [notMix, if_pos (by omega)])
      go_wp2_with fail
      exact bodyPost_ret (set_results Tryz.results189 rfl HR.out) rfl (RetV.mk HE.out ((((HB.setCell (by simp) _).setCell (by simp) _).setCell (by simp) _).setCell (by simp) _))


def mixC (P Q : Nat → Bool) (k : Nat) : Nat → Bool := fun n => P n && (decide (k ≤ n / 64) || Q n)
theorem mixC_word (P Q : Nat → Bool) (k i : Nat) (h : i ≠ k) : word (mixC P Q (k + 1)) i = word (mixC P Q k) i :=
  (word_eq (word_lt _ _) fun b hb => by
    rw [word_bit]
    have : decide (k + 1 ≤ (64 * i + b) / 64) = decide (k ≤ (64 * i + b) / 64) := by rw [decide_eq_decide]; omega
    simp only [mixC, this, hb, decide_true, Bool.true_and]).symm
theorem mixC_at (P Q : Nat → Bool) (k : Nat) : bits .and .u64 (word (mixC P Q k) k : Int) (word Q k : Int) = (word (mixC P Q (k + 1)) k : Int) := by
  rw [bits_and_u64_nat _ _ (word_lt _ _) (word_lt _ _), word_and]
  congr 1
  refine word_eq (word_lt _ _) fun b hb => ?_
  rw [word_bit]
  have : decide (k ≤ (64 * k + b) / 64) = true := by rw [decide_eq_true_eq]; omega
  have t : decide (k + 1 ≤ (64 * k + b) / 64) = false := by rw [decide_eq_false_iff_not]; omega
  simp [mixC, this, t, hb]

set_option maxRecDepth 100000 in
set_option maxHeartbeats 800000 in
theorem union_any (n : Nat) (Q : Nat → Nat → Bool) (g cap : Nat) (w : World) (hn : n ≤ 60000) (hc : ∀ j, j < n → ∀ i, i < 4 → w.cell? ⟨g, j * 4 + i, none⟩ = some (.int .u64 (word (Q j) i))) :
    Calls Tryz.prog 115 #[.slice (some ⟨g, 0, none⟩) n cap] w (RetV (setV (uniN Q n)) w) := by
  have HC := Lib.hid hc
  clear hc
  go_enter Tryz.func115, Tryz.ntmps115
  go_wp2_with fail
  go_loopw [5, 6, 9] (fun _ _ i wr => ∃ k : Nat, k ≤ n ∧ i = .int .i64 k ∧ SetAt wr (w.heap.size + 1) (uniN Q k) ∧ SetAt wr w.heap.size (fun _ => false) ∧ Below w.heap.size w wr ∧ w.heap.size + 1 < wr.heap.size) (fun _ _ i _ => n - (intOf i).toNat)
  case atStart => exact ⟨0, Nat.zero_le _, rfl, SetAt.zero (heap_alloc2_new _ _ _), SetAt.zero (heap_alloc2_old _ _ _), ((Below.refl _ _).alloc (Nat.le_refl _) _).alloc (by simp) _, by simp⟩
  case round =>
    obtain ⟨j, hj, rfl, HA, HZ, HB, hlt1⟩ := hrel
    by_cases hlt : j < n
    · have d1 : decide ((j : Int) < (n : Int)) = true := by simp; omega
      obtain ⟨wo, rfl⟩ : ∃ wo : World, wo = wr := ⟨_, rfl⟩
      have s0 := (HB.cell (p := ⟨g, j * 4 + 0, none⟩) (World.block_lt_of_cell? w _ (HC.out j hlt 0 (by decide)))).trans (HC.out j hlt 0 (by decide))
      have s1 := (HB.cell (p := ⟨g, j * 4 + 1, none⟩) (World.block_lt_of_cell? w _ (HC.out j hlt 1 (by decide)))).trans (HC.out j hlt 1 (by decide))
      have s2 := (HB.cell (p := ⟨g, j * 4 + 2, none⟩) (World.block_lt_of_cell? w _ (HC.out j hlt 2 (by decide)))).trans (HC.out j hlt 2 (by decide))
      have s3 := (HB.cell (p := ⟨g, j * 4 + 3, none⟩) (World.block_lt_of_cell? w _ (HC.out j hlt 3 (by decide)))).trans (HC.out j hlt 3 (by decide))
      rw [Nat.add_zero] at s0
      go_wp2_with fail
      go_loopw [6, 13] (fun _ i wr => ∃ k : Nat, k ≤ 4 ∧ i = .int .i64 k ∧ SetAt wr (w.heap.size + 1) (mixU (uniN Q j) (Q j) k) ∧ SetAt wr wo.heap.size (Q j) ∧ SetAt wr w.heap.size (fun _ => false) ∧ Below w.heap.size w wr ∧ wo.heap.size < wr.heap.size) (fun _ i _ => 4 - (intOf i).toNat)
      case atStart => exact ⟨0, by omega, rfl, (SetAt.alloc' HA _).congr fun m _ => by simp [mixU], heap_alloc_new _ _, SetAt.alloc' HZ _, HB.alloc HB.size _, by simp⟩
      case round =>
        obtain ⟨k, hk, rfl, HA, HX, HZ, HB, hlt2⟩ := hrel
        by_cases hk4 : k < 4
        · have d2 : decide ((k : Int) < 4) = true := by simp; omega
          have c0 := HA.cell k hk4
          have f0 := HA.frozen k
          have x0 := HX.cell k hk4
          have HM := Lib.hid (HA.one hk4 (mixU_word (uniN Q j) (Q j) k))
          have HE := Lib.hid (mixU_at (uniN Q j) (Q j) k)
          clear s0 s1 s2 s3
          go_wp2_with fail
          have b1 : (k : Int) < 4 := by omega
          have b2 : (0 : Int) ≤ k := by omega
          go_still_tail 8, (by kernel_rfl)
          change wpList _ _ _ _ _ wr.drew
          go_wp2_with fail
          go_roundw
          case rel => exact ⟨k + 1, by omega, by go_num, by rw [HE.out]; exact HM.out, HX.other (by omega), HZ.other (by omega), (HB.setCell (by simp) _).drew, by simpa using hlt2⟩
          case measure => (simp [intOf]; try omega)
        · have hk4' : k = 4 := by omega
          subst hk4'
          have HN := Lib.hid (HA.congr (Q := uniN Q (j + 1)) fun m hm => by rw [uniN_succ, mixU, show decide (m / 64 < 4) = true by rw [decide_eq_true_eq]; omega, Bool.true_and])
          clear s0 s1 s2 s3
          go_wp2_with fail
          go_roundw
          case rel => exact ⟨j + 1, by omega, by go_num, HN.out, HZ, HB, by omega⟩
          case measure => (simp [intOf]; try omega)
    · have d1 : decide ((j : Int) < (n : Int)) = false := by simp; omega
      have HE := Lib.hid (show j = n by omega)
      have c0 := HA.cell 0 (by decide)
      have c1 := HA.cell 1 (by decide)
      have c2 := HA.cell 2 (by decide)
      have c3 := HA.cell 3 (by decide)
      have z0 := HZ.cell 0 (by decide)
      have z1 := HZ.cell 1 (by decide)
      have z2 := HZ.cell 2 (by decide)
      have z3 := HZ.cell 3 (by decide)
      have y0 := HZ.frozen 0
      have y1 := HZ.frozen 1
      have y2 := HZ.frozen 2
      have y3 := HZ.frozen 3
      have HR := Lib.hid (HZ.put (Q := uniN Q j))
      go_wp2_with fail
      exact bodyPost_ret (set_results Tryz.results115 rfl HR.out) rfl (RetV.mk (by rw [HE.out]) ((((HB.setCell (Nat.le_refl _) _).setCell (Nat.le_refl _) _).setCell (Nat.le_refl _) _).setCell (Nat.le_refl _) _))

/-- What the first j sets have in common. -/
def comN (Q : Nat → Nat → Bool) (j : Nat) : Nat → Bool := fun n => (List.range j).all fun i => Q i n
theorem comN_succ (Q : Nat → Nat → Bool) (j n : Nat) : comN Q (j + 1) n = (comN Q j n && Q j n) := by
  simp [comN, List.range_succ]

set_option maxRecDepth 100000 in
set_option maxHeartbeats 800000 in
theorem common_any (n : Nat) (Q : Nat → Nat → Bool) (g cap : Nat) (w : World) (hn : n ≤ 60000) (hc : ∀ j, j < n → ∀ i, i < 4 → w.cell? ⟨g, j * 4 + i, none⟩ = some (.int .u64 (word (Q j) i))) :
    Calls Tryz.prog 149 #[.slice (some ⟨g, 0, none⟩) n cap] w (RetV (setV (comN Q n)) w) := by
  have HC := Lib.hid hc
  clear hc
  go_enter Tryz.func149, Tryz.ntmps149
  go_wp2_with fail
  refine (not_any (fun _ => false) _).mono ?_
  rintro e w1 ⟨rfl, HB1⟩
  have HZ0 := Lib.hid (SetAt.below (SetAt.zero (heap_alloc_new w _)) HB1)
  have hsz := HB1.size
  unfold setV
  go_wp2_with fail
  have hw1 : w.heap.size < w1.heap.size := by simp at hsz; omega
  go_loopw [5, 6, 11] (fun _ _ i wr => ∃ k : Nat, k ≤ n ∧ i = .int .i64 k ∧ SetAt wr w1.heap.size (comN Q k) ∧ SetAt wr w.heap.size (fun _ => false) ∧ Below w.heap.size w wr ∧ w1.heap.size < wr.heap.size) (fun _ _ i _ => n - (intOf i).toNat)
  case atStart => exact ⟨0, Nat.zero_le _, rfl, SetAt.congr (heap_alloc_new _ _) fun n _ => by simp [comN], SetAt.alloc' HZ0.out _, below2 ((Below.refl _ _).alloc (Nat.le_refl _) _) (below2 HB1 ((Below.refl _ _).alloc (Nat.le_refl _) _)), by simp⟩
  case round =>
    obtain ⟨j, hj, rfl, HA, HZ, HB, hlt1⟩ := hrel
    by_cases hlt : j < n
    · have d1 : decide ((j : Int) < (n : Int)) = true := by simp; omega
      obtain ⟨wo, rfl⟩ : ∃ wo : World, wo = wr := ⟨_, rfl⟩
      have s0 := (HB.cell (p := ⟨g, j * 4 + 0, none⟩) (World.block_lt_of_cell? w _ (HC.out j hlt 0 (by decide)))).trans (HC.out j hlt 0 (by decide))
      have s1 := (HB.cell (p := ⟨g, j * 4 + 1, none⟩) (World.block_lt_of_cell? w _ (HC.out j hlt 1 (by decide)))).trans (HC.out j hlt 1 (by decide))
      have s2 := (HB.cell (p := ⟨g, j * 4 + 2, none⟩) (World.block_lt_of_cell? w _ (HC.out j hlt 2 (by decide)))).trans (HC.out j hlt 2 (by decide))
      have s3 := (HB.cell (p := ⟨g, j * 4 + 3, none⟩) (World.block_lt_of_cell? w _ (HC.out j hlt 3 (by decide)))).trans (HC.out j hlt 3 (by decide))
      rw [Nat.add_zero] at s0
      go_wp2_with fail
      go_loopw [6, 15] (fun _ i wr => ∃ k : Nat, k ≤ 4 ∧ i = .int .i64 k ∧ SetAt wr w1.heap.size (mixC (comN Q j) (Q j) k) ∧ SetAt wr wo.heap.size (Q j) ∧ SetAt wr w.heap.size (fun _ => false) ∧ Below w.heap.size w wr ∧ wo.heap.size < wr.heap.size) (fun _ i _ => 4 - (intOf i).toNat)
      case atStart => exact ⟨0, by omega, rfl, (SetAt.alloc' HA _).congr fun m _ => by simp [mixC], heap_alloc_new _ _, SetAt.alloc' HZ _, HB.alloc HB.size _, by simp⟩
      case round =>
        obtain ⟨k, hk, rfl, HA, HX, HZ, HB, hlt2⟩ := hrel
        by_cases hk4 : k < 4
        · have d2 : decide ((k : Int) < 4) = true := by simp; omega
          have c0 := HA.cell k hk4
          have f0 := HA.frozen k
          have x0 := HX.cell k hk4
          have HM := Lib.hid (HA.one hk4 (mixC_word (comN Q j) (Q j) k))
          have HE := Lib.hid (mixC_at (comN Q j) (Q j) k)
          clear s0 s1 s2 s3
          go_wp2_with fail
          have b1 : (k : Int) < 4 := by omega
          have b2 : (0 : Int) ≤ k := by omega
          go_still_tail 8, (by kernel_rfl)
          change wpList _ _ _ _ _ wr.drew
          go_wp2_with fail
          go_roundw
          case rel => exact ⟨k + 1, by omega, by go_num, by rw [HE.out]; exact HM.out, HX.other (by omega), HZ.other (by omega), (HB.setCell (show _ ≤ w1.heap.size by omega) _).drew, by simpa using hlt2⟩
          case measure => (simp [intOf]; try omega)
        · have hk4' : k = 4 := by omega
          subst hk4'
          have HN := Lib.hid (HA.congr (Q := comN Q (j + 1)) fun m hm => by rw [comN_succ, mixC, show decide (4 ≤ m / 64) = false by rw [decide_eq_false_iff_not]; omega, Bool.false_or])
          clear s0 s1 s2 s3
          go_wp2_with fail
          go_roundw
          case rel => exact ⟨j + 1, by omega, by go_num, HN.out, HZ, HB, by omega⟩
          case measure => (simp [intOf]; try omega)
    · have d1 : decide ((j : Int) < (n : Int)) = false := by simp; omega
      have HE := Lib.hid (show j = n by omega)
      have c0 := HA.cell 0 (by decide)
      have c1 := HA.cell 1 (by decide)
      have c2 := HA.cell 2 (by decide)
      have c3 := HA.cell 3 (by decide)
      have z0 := HZ.cell 0 (by decide)
      have z1 := HZ.cell 1 (by decide)
      have z2 := HZ.cell 2 (by decide)
      have z3 := HZ.cell 3 (by decide)
      have y0 := HZ.frozen 0
      have y1 := HZ.frozen 1
      have y2 := HZ.frozen 2
      have y3 := HZ.frozen 3
      have HR := Lib.hid (HZ.put (Q := comN Q j))
      go_wp2_with fail
      exact bodyPost_ret (set_results Tryz.results149 rfl HR.out) rfl (RetV.mk (by rw [HE.out]) ((((HB.setCell (Nat.le_refl _) _).setCell (Nat.le_refl _) _).setCell (Nat.le_refl _) _).setCell (Nat.le_refl _) _))
end Go.Proofs.YteigjobliflkdaaGreatDoor
/- Small: two sets in a row, one byte in a row: the contracts of Union, Common and Of at them. -/
namespace Go.Proofs.YteigjobliflkdaaGreatDoor
open Go.RowKit

/-- Two sets in a row. -/
def twoF (P Q : Nat → Bool) (j : Nat) : Nat → Bool := if j = 0 then P else Q
def twoRow (P Q : Nat → Bool) : Array Value := #[.int .u64 (word P 0), .int .u64 (word P 1), .int .u64 (word P 2), .int .u64 (word P 3), .int .u64 (word Q 0), .int .u64 (word Q 1), .int .u64 (word Q 2), .int .u64 (word Q 3)]
theorem two_sets {w : World} {g : Nat} {P Q : Nat → Bool} (h : w.heap[g]? = some (.cells (twoRow P Q) 60 (0, 0))) : ∀ j, j < 2 → ∀ i, i < 4 → w.cell? ⟨g, j * 4 + i, none⟩ = some (.int .u64 (word (twoF P Q j) i)) := by
  intro j hj i hi
  rw [cell_of_row _ _ _ _ 60 (0, 0) h]
  match j, hj, i, hi with
  | 0, _, 0, _ => rfl
  | 0, _, 1, _ => rfl
  | 0, _, 2, _ => rfl
  | 0, _, 3, _ => rfl
  | 1, _, 0, _ => rfl
  | 1, _, 1, _ => rfl
  | 1, _, 2, _ => rfl
  | 1, _, 3, _ => rfl
theorem uniN_two (P Q : Nat → Bool) (n : Nat) : uniN (twoF P Q) 2 n = (P n || Q n) := by
  rw [uniN_succ, uniN_succ]; simp [uniN, twoF]
/-- Union's contract at two sets, at a function's number. -/
def Union2C (f : Nat) : Prop := ∀ (P Q : Nat → Bool) (w : World) (g : Nat), w.heap[g]? = some (.cells (twoRow P Q) 60 (0, 0)) → Calls Tryz.prog f #[.slice (some ⟨g, 0, none⟩) 2 2] w (RetV (setV fun n => P n || Q n) w)
theorem union2_ref : Union2C 118 := fun P Q w g h => by
  have := union_ref 2 (twoF P Q) g 2 w (by decide) (two_sets h)
  rwa [setV_congr fun n _ => uniN_two P Q n] at this
theorem byte_cells {l : List UInt8} {w : World} {g : Nat} {fr : Nat × Nat} (h : w.heap[g]? = some (.cells (l.map fun b => Value.int .u8 b.toNat).toArray 5 fr)) :
    ∀ j, j < l.length → w.cell? ⟨g, j, none⟩ = some (.int .u8 (l[j]?.getD 0).toNat) := by
  intro j hj
  rw [cell_of_row _ _ _ _ 5 fr h]
  simp [List.getElem?_eq_getElem hj]
/-- Of's contract at one byte, at a function's number. -/
def Of1C (f : Nat) : Prop := ∀ (c : Nat), c < 256 → ∀ (w : World) (g : Nat), w.heap[g]? = some (.cells #[.int .u8 c] 5 (0, 0)) → Calls Tryz.prog f #[.slice (some ⟨g, 0, none⟩) 1 1] w (RetV (setV fun n => decide (n = c)) w)
theorem ofB_one (b : UInt8) (n : Nat) : ofB [b] n = decide (n = b.toNat) := by
  simp [ofB]; rw [Bool.eq_iff_iff]; simp; omega
theorem of1_ref : Of1C 117 := fun c hc w g h => by
  have e : (UInt8.ofNat c).toNat = c := by simp; omega
  have := of_ref [UInt8.ofNat c] g 1 w (by simp) (byte_cells (l := [UInt8.ofNat c]) (fr := (0, 0)) (by rw [h]; simp only [List.map_cons, List.map_nil, e]))
  rw [setV_congr fun n _ => ofB_one (UInt8.ofNat c) n] at this
  rw [e] at this
  exact this

theorem union2_any : Union2C 115 := fun P Q w g h => by
  have := union_any 2 (twoF P Q) g 2 w (by decide) (two_sets h)
  rwa [setV_congr fun n _ => uniN_two P Q n] at this
theorem of1_any : Of1C 116 := fun c hc w g h => by
  have e : (UInt8.ofNat c).toNat = c := by simp; omega
  have := of_any [UInt8.ofNat c] g 1 w (by simp) (byte_cells (l := [UInt8.ofNat c]) (fr := (0, 0)) (by rw [h]; simp only [List.map_cons, List.map_nil, e]))
  rw [setV_congr fun n _ => ofB_one (UInt8.ofNat c) n] at this
  rw [e] at this
  exact this
theorem common2_any (P Q : Nat → Bool) (w : World) (g : Nat) (h : w.heap[g]? = some (.cells (twoRow P Q) 60 (0, 0))) : Calls Tryz.prog 149 #[.slice (some ⟨g, 0, none⟩) 2 2] w (RetV (setV fun n => P n && Q n) w) := by
  have := common_any 2 (twoF P Q) g 2 w (by decide) (two_sets h)
  rwa [setV_congr fun n _ => (show comN (twoF P Q) 2 n = (P n && Q n) by rw [comN_succ, comN_succ]; simp [comN, twoF])] at this
theorem SetAt.alloc {w : World} {g : Nat} {P : Nat → Bool} (h : SetAt w g P) (o : Obj) : SetAt (w.alloc o) g P := h.below ((Below.refl _ _).alloc (Nat.le_refl _) o)
theorem SetAt.drew {w : World} {g : Nat} {P : Nat → Bool} (h : SetAt w g P) : SetAt w.drew g P := h
theorem of_bytes (s : ByteArray) (g cap c : Nat) (w : World) (hs : s.size ≤ 60000) (h : BRow w g cap s.data.toList) :
    Calls Tryz.prog 116 #[.slice (some ⟨g, 0, none⟩) s.size c] w (RetV (setV (ofB s.data.toList)) w) := by
  have := of_any s.data.toList g c w (by simpa using hs) (fun j hj => h.cell j hj)
  rwa [size_len] at this
end Go.Proofs.YteigjobliflkdaaGreatDoor
/- Walk: byteset.All. -/
namespace Go.Proofs.YteigjobliflkdaaGreatDoor
open Go.RowKit

/-- Two sets lie where they lay; nothing older has turned. -/
def SA (w : World) (a b : Nat) (P Q : Nat → Bool) (w' : World) : Prop := SetAt w' a P ∧ SetAt w' b Q ∧ Below w.heap.size w w'
theorem SA.drew {w : World} {a b : Nat} {P Q : Nat → Bool} {w' : World} (h : SA w a b P Q w') : SA w a b P Q w'.drew := ⟨h.1, h.2.1, h.2.2.drew⟩
theorem SA.alloc {w : World} {a b : Nat} {P Q : Nat → Bool} {w' : World} (h : SA w a b P Q w') (o : Obj) : SA w a b P Q (w'.alloc o) := ⟨SetAt.alloc' h.1 o, SetAt.alloc' h.2.1 o, h.2.2.alloc h.2.2.size o⟩
theorem SA.below {w : World} {a b : Nat} {P Q : Nat → Bool} {w' w'' : World} (h : SA w a b P Q w') (hB : Below w'.heap.size w' w'') : SA w a b P Q w'' := ⟨h.1.below hB, h.2.1.below hB, h.2.2.trans (hB.mono h.2.2.size)⟩
def Cells4 (w' : World) (a : Nat) (P : Nat → Bool) : Prop := w'.cell? ⟨a, 0, none⟩ = some (.int .u64 (word P 0)) ∧ w'.cell? ⟨a, 1, none⟩ = some (.int .u64 (word P 1)) ∧ w'.cell? ⟨a, 2, none⟩ = some (.int .u64 (word P 2)) ∧ w'.cell? ⟨a, 3, none⟩ = some (.int .u64 (word P 3))
theorem SA.bel {w : World} {a b : Nat} {P Q : Nat → Bool} {w' : World} (h : SA w a b P Q w') : Below w.heap.size w w' := h.2.2
theorem SA.mk' {w : World} {a b : Nat} {P Q : Nat → Bool} {w' : World} (h : SA w a b P Q w') :
    SA w a b P Q w' ∧ (w'.cell? ⟨a, 0, none⟩ = some (.int .u64 (word P 0)) ∧ w'.cell? ⟨a, 1, none⟩ = some (.int .u64 (word P 1)) ∧ w'.cell? ⟨a, 2, none⟩ = some (.int .u64 (word P 2)) ∧ w'.cell? ⟨a, 3, none⟩ = some (.int .u64 (word P 3))) ∧
    (w'.cell? ⟨b, 0, none⟩ = some (.int .u64 (word Q 0)) ∧ w'.cell? ⟨b, 1, none⟩ = some (.int .u64 (word Q 1)) ∧ w'.cell? ⟨b, 2, none⟩ = some (.int .u64 (word Q 2)) ∧ w'.cell? ⟨b, 3, none⟩ = some (.int .u64 (word Q 3))) :=
  ⟨h, ⟨h.1.cell 0 (by decide), h.1.cell 1 (by decide), h.1.cell 2 (by decide), h.1.cell 3 (by decide)⟩, ⟨h.2.1.cell 0 (by decide), h.2.1.cell 1 (by decide), h.2.1.cell 2 (by decide), h.2.1.cell 3 (by decide)⟩⟩

theorem all_eq (P : Nat → Bool) (l : List UInt8) (b : Bool) (h : b = true ↔ ∀ i, i < 4 → word (fun n => P n && ofB l n) i = word (ofB l) i) : b = l.all fun b => P b.toNat := by
  rw [Bool.eq_iff_iff, h, ← all_common]
  constructor
  · intro e n hn; exact setV_inj e n hn
  · intro e i hi; exact word_congr e hi

theorem info58 : Tryz.prog.info? 58 = some (Tryz.prog.info? 58).get! := by kernel_rfl
theorem set_eq_run (a0 a1 a2 a3 b0 b1 b2 b3 : Int) (w : World) :
    (Op.equalIn 10000 60 (.agg #[.int .u64 a0, .int .u64 a1, .int .u64 a2, .int .u64 a3]) (.agg #[.int .u64 b0, .int .u64 b1, .int .u64 b2, .int .u64 b3])).run Tryz.prog w = .ok (a0 == b0 && a1 == b1 && a2 == b2 && a3 == b3) w := by
  rw [run_equalIn_array w 9999 _ _ Tryz.underlying60 info58]
  rw [show Tryz.prog.cellsOf 58 = 1 by kernel_rfl]
  simp [Op.eqItems, List.range, List.range.loop, go_sem]
  by_cases h0 : a0 = b0 <;> by_cases h1 : a1 = b1 <;> by_cases h2 : a2 = b2 <;> by_cases h3 : a3 = b3 <;> simp [h0, h1, h2, h3]
/-- Both sets are the same. -/
def setB (P Q : Nat → Bool) : Bool := word P 0 == word Q 0 && word P 1 == word Q 1 && word P 2 == word Q 2 && word P 3 == word Q 3
theorem setB_run (P Q : Nat → Bool) (w : World) :
    (Op.equalIn 10000 60 (.agg #[.int .u64 (word P 0), .int .u64 (word P 1), .int .u64 (word P 2), .int .u64 (word P 3)]) (.agg #[.int .u64 (word Q 0), .int .u64 (word Q 1), .int .u64 (word Q 2), .int .u64 (word Q 3)])).run Tryz.prog w = .ok (setB P Q) w := by
  rw [set_eq_run]
  congr 1
  unfold setB
  rw [Bool.eq_iff_iff]
  simp only [Bool.and_eq_true, beq_iff_eq]
  omega
theorem setB_self (P : Nat → Bool) : setB P P = true := by simp [setB]
theorem setB_all (P : Nat → Bool) (l : List UInt8) : setB (fun n => P n && ofB l n) (ofB l) = l.all fun b => P b.toNat :=
  all_eq P l _ (by
    unfold setB
    simp only [Bool.and_eq_true, beq_iff_eq]
    constructor
    · rintro ⟨⟨⟨e0, e1⟩, e2⟩, e3⟩ i hi
      match i, hi with
      | 0, _ => exact e0
      | 1, _ => exact e1
      | 2, _ => exact e2
      | 3, _ => exact e3
    · intro h
      exact ⟨⟨⟨h 0 (by decide), h 1 (by decide)⟩, h 2 (by decide)⟩, h 3 (by decide)⟩)

set_option maxRecDepth 100000 in
set_option maxHeartbeats 800000 in
theorem all_any (P : Nat → Bool) (s : ByteArray) (w : World) (hs : s.size ≤ 60000) :
    Calls Tryz.prog 105 #[setV P, .string s] w (RetV (.bool (s.data.toList.all fun b => P b.toNat)) w) := by
  have hcv := conv_bytes (w.alloc (.cells #[.int .u64 (word P 0), .int .u64 (word P 1), .int .u64 (word P 2), .int .u64 (word P 3)] 60)) s
  have hR := BRow.of_bytes (w.alloc (.cells #[.int .u64 (word P 0), .int .u64 (word P 1), .int .u64 (word P 2), .int .u64 (word P 3)] 60)) s
  generalize (Lib.bytesCells (w.alloc (.cells #[.int .u64 (word P 0), .int .u64 (word P 1), .int .u64 (word P 2), .int .u64 (word P 3)] 60)) 5 s).size = cc at hR
  rw [show (w.alloc (.cells #[.int .u64 (word P 0), .int .u64 (word P 1), .int .u64 (word P 2), .int .u64 (word P 3)] 60)).heap.size = w.heap.size + 1 by simp] at hR
  have HR := Lib.hid hR
  clear hR
  have HB := Lib.hid (bytes_below (w.alloc (.cells #[.int .u64 (word P 0), .int .u64 (word P 1), .int .u64 (word P 2), .int .u64 (word P 3)] 60)) s)
  have HZ : Hid (SetAt (w.alloc (.cells #[.int .u64 (word P 0), .int .u64 (word P 1), .int .u64 (word P 2), .int .u64 (word P 3)] 60)) w.heap.size P) := heap_alloc_new _ _
  have HA := Lib.hid ((Below.refl w.heap.size w).alloc (Nat.le_refl _) (.cells #[.int .u64 (word P 0), .int .u64 (word P 1), .int .u64 (word P 2), .int .u64 (word P 3)] 60))
  generalize Lib.bytesWorld (w.alloc (.cells #[.int .u64 (word P 0), .int .u64 (word P 1), .int .u64 (word P 2), .int .u64 (word P 3)] 60)) 5 s = W1 at hcv HR HB
  generalize grownCap (w.alloc (.cells #[.int .u64 (word P 0), .int .u64 (word P 1), .int .u64 (word P 2), .int .u64 (word P 3)] 60)) s.size 0 5 = cap at hcv
  have HP := Lib.hid (SetAt.below HZ.out HB.out)
  have HW := Lib.hid (below2 HA.out HB.out)
  clear HZ HA HB
  unfold setV
  go_enter Tryz.func105, Tryz.ntmps105
  go_wp2_with fail
  refine (of_bytes s _ _ _ _ hs HR.out).mono ?_
  rintro e w1 ⟨rfl, HB1⟩
  have HP := Lib.hid (SetAt.below HP.out HB1)
  have HW := Lib.hid (below2 HW.out HB1)
  unfold setV
  clear hcv
  have hsz := HB1.size
  go_wp2_with fail
  have HS : SA w w.heap.size w1.heap.size P (ofB s.data.toList) (w1.alloc (.cells #[.int .u64 (word (ofB s.data.toList) 0), .int .u64 (word (ofB s.data.toList) 1), .int .u64 (word (ofB s.data.toList) 2), .int .u64 (word (ofB s.data.toList) 3)] 60)) :=
    ⟨SetAt.alloc' HP.out _, heap_alloc_new _ _, HW.out.alloc HW.out.size _⟩
  have HQ := fun w' => setB_run (fun n => P n && ofB s.data.toList n) (ofB s.data.toList) w'
  go_region_held3 (fun w' => SA w w.heap.size w1.heap.size P (ofB s.data.toList) w' ∧ (w'.cell? ⟨w.heap.size, 0, none⟩ = some (.int .u64 (word P 0)) ∧ w'.cell? ⟨w.heap.size, 1, none⟩ = some (.int .u64 (word P 1)) ∧ w'.cell? ⟨w.heap.size, 2, none⟩ = some (.int .u64 (word P 2)) ∧ w'.cell? ⟨w.heap.size, 3, none⟩ = some (.int .u64 (word P 3))) ∧
    (w'.cell? ⟨w1.heap.size, 0, none⟩ = some (.int .u64 (word (ofB s.data.toList) 0)) ∧ w'.cell? ⟨w1.heap.size, 1, none⟩ = some (.int .u64 (word (ofB s.data.toList) 1)) ∧ w'.cell? ⟨w1.heap.size, 2, none⟩ = some (.int .u64 (word (ofB s.data.toList) 2)) ∧ w'.cell? ⟨w1.heap.size, 3, none⟩ = some (.int .u64 (word (ofB s.data.toList) 3))))
    (first | exact SA.mk' HS.drew | (go_split_ands; first | assumption | exact SA.mk' (by assumption) | exact SA.mk' (SA.alloc (by assumption) _) | exact SA.mk' (SA.below (by assumption) (by assumption))))
    (first | (go_at_call 149; refine (common2_any P (ofB s.data.toList) _ _ (by exact heap_alloc2_new _ _ _)).mono ?_; rintro e wx ⟨rfl, HBx⟩; unfold setV))
  go_wp2_with fail
  have hBel : Below w.heap.size w wx := by
    go_split_ands
    exact SA.bel (by assumption)
  go_ret
  exact RetV.mk (congrArg Value.bool (setB_all P _)) hBel
end Go.Proofs.YteigjobliflkdaaGreatDoor
/- Walk: byteset.Ranges. -/
namespace Go.Proofs.YteigjobliflkdaaGreatDoor
open Go.RowKit

theorem set_results2 {fn : Func} {p q : Tmp} (h : fn.results = #[.cell p 60, .tmp q]) {tmps : Array Value} {w : World} {g : Nat} {P : Nat → Bool} (hp : tmps.getD p undef = .pointer (some ⟨g, 0, none⟩)) (hs : SetAt w g P) :
    (results fn tmps).run Tryz.prog w = .ok (.tuple #[setV P, tmps.getD q undef]) w := by
  have hp' : tmps[p]?.getD undef = .pointer (some ⟨g, 0, none⟩) := by simpa using hp
  simp [results, h, hp', asAddr, run_loadVar_row w g 60 60 _ (0, 0) _ hs Tryz.underlying60 rfl (by kernel_rfl)]
  rfl
/-- The bytes of the first j ranges. -/
def rngN (lo hi : Nat → Nat) (j : Nat) : Nat → Bool := fun m => (List.range j).any fun i => decide (lo i ≤ m) && decide (m ≤ hi i)
theorem rngN_succ (lo hi : Nat → Nat) (j m : Nat) : rngN lo hi (j + 1) m = (rngN lo hi j m || (decide (lo j ≤ m) && decide (m ≤ hi j))) := by
  simp [rngN, List.range_succ]
def rngUp (P : Nat → Bool) (lo k : Nat) : Nat → Bool := fun m => P m || (decide (lo ≤ m) && decide (m < k))
theorem rngUp_succ (P : Nat → Bool) (lo k m : Nat) (h : lo ≤ k) : (rngUp P lo k m || decide (m = k)) = rngUp P lo (k + 1) m := by
  unfold rngUp
  rw [Bool.or_assoc]
  congr 1
  rw [Bool.eq_iff_iff]; simp; omega

/-- A range lies in block g. -/
def RngAt (w : World) (g a b : Nat) : Prop := w.heap[g]? = some (.cells #[.int .u8 a, .int .u8 b] 118 (0, 0))
theorem RngAt.cell {w : World} {g a b : Nat} (h : RngAt w g a b) : w.cell? ⟨g, 0, none⟩ = some (.int .u8 a) ∧ w.cell? ⟨g, 1, none⟩ = some (.int .u8 b) := by
  constructor <;> (rw [cell_of_row w g _ _ 118 _ h]; rfl)
theorem RngAt.other {w : World} {g g' i a b : Nat} {v : Value} (h : RngAt w g a b) (e : g ≠ g') : RngAt (w.setCell ⟨g', i, none⟩ v) g a b := by
  unfold RngAt; rw [heap_setCell_other _ _ _ _ e]; exact h
theorem RngAt.below {w w' : World} {g a b : Nat} (h : RngAt w g a b) (hB : Below w.heap.size w w') : RngAt w' g a b := by
  have hl : g < w.heap.size := (Array.getElem?_eq_some_iff.1 h).1
  unfold RngAt
  rw [hB.block g hl]; exact h
theorem RngAt.alloc {w : World} {g a b : Nat} (h : RngAt w g a b) (o : Obj) : RngAt (w.alloc o) g a b := h.below ((Below.refl _ _).alloc (Nat.le_refl _) o)
theorem RngAt.drew {w : World} {g a b : Nat} (h : RngAt w g a b) : RngAt w.drew g a b := h

set_option maxRecDepth 100000 in
set_option maxHeartbeats 8000000 in
theorem ranges_any (n : Nat) (lo hi : Nat → Nat) (g cap : Nat) (w : World) (hn : n ≤ 60000) (hlh : ∀ j, j < n → lo j ≤ hi j ∧ hi j < 256)
    (hc : ∀ j, j < n → w.cell? ⟨g, j * 2, none⟩ = some (.int .u8 (lo j)) ∧ w.cell? ⟨g, j * 2 + 1, none⟩ = some (.int .u8 (hi j))) :
    Calls Tryz.prog 114 #[.slice (some ⟨g, 0, none⟩) n cap] w (RetV (.tuple #[setV (rngN lo hi n), .int .i64 0]) w) := by
  have HC := Lib.hid hc
  have HL := Lib.hid hlh
  have HW := Lib.hid union2_any
  have HO := Lib.hid of1_any
  clear hc hlh
  go_enter Tryz.func114, Tryz.ntmps114
  go_wp2_with fail
  go_loopg [3, 6, 7, 10] n (fun gh e _ _ i wr => ∃ k : Nat, k ≤ n ∧ gh = n - k ∧ e = .int .i64 0 ∧ i = .int .i64 k ∧ SetAt wr (w.heap.size + 1) (rngN lo hi k) ∧ SetAt wr w.heap.size (fun _ => false) ∧ Below w.heap.size w wr ∧ w.heap.size + 1 < wr.heap.size)
  case atStart => exact ⟨0, Nat.zero_le _, rfl, rfl, rfl, SetAt.zero (heap_alloc2_new _ _ _), SetAt.zero (heap_alloc2_old _ _ _), ((Below.refl _ _).alloc (Nat.le_refl _) _).alloc (by simp) _, by simp⟩
  case round =>
    obtain ⟨j, hj, hgk, rfl, rfl, HA, HZ, HB, hlt1⟩ := hrel
    have HAh := Lib.hid HA
    have HZh := Lib.hid HZ
    by_cases hlt : j < n
    · have d1 : decide ((j : Int) < (n : Int)) = true := by simp; omega
      obtain ⟨wo, rfl⟩ : ∃ wo : World, wo = wr := ⟨_, rfl⟩
      obtain ⟨hl1, hl2⟩ := HL.out j hlt
      obtain ⟨q0, q1⟩ := HC.out j hlt
      have s0 := (HB.cell (p := ⟨g, j * 2, none⟩) (World.block_lt_of_cell? w _ q0)).trans q0
      have s1 := (HB.cell (p := ⟨g, j * 2 + 1, none⟩) (World.block_lt_of_cell? w _ q1)).trans q1
      have HR1 := Lib.hid (rngN_succ lo hi j)
      clear q0 q1
      generalize lo j = a at hl1 s0 HR1
      generalize hi j = b at hl1 hl2 s1 HR1
      have d0 : decide (b < a) = false := by simp; omega
      have hlto : w.heap.size + 1 < wo.heap.size := hlt1
      go_wp2_with fail
      go_loopg [7] (b + 1 - a) (fun gh t wr => ∃ k : Nat, a ≤ k ∧ k ≤ b + 1 ∧ gh = b + 1 - k ∧ t = .int .i64 k ∧ SetAt wr (w.heap.size + 1) (rngUp (rngN lo hi j) a k) ∧ RngAt wr wo.heap.size a b ∧ SetAt wr w.heap.size (fun _ => false) ∧ Below w.heap.size w wr ∧ wo.heap.size < wr.heap.size)
      case atStart => exact ⟨a, by omega, by omega, rfl, rfl, SetAt.congr (SetAt.alloc HAh.out _) (fun m _ => by unfold rngUp; rw [show (decide (a ≤ m) && decide (m < a)) = false by rw [Bool.eq_false_iff]; simp <;> omega, Bool.or_false]), heap_alloc_new _ _, SetAt.alloc HZh.out _, HB.alloc HB.size _, by simp⟩
      case round =>
        obtain ⟨k, hka, hkb, hgk2, rfl, HA, HR, HZ, HB, hlt2⟩ := hrel
        obtain ⟨r0, r1⟩ := HR.cell
        have HAh := Lib.hid HA
        have HZh := Lib.hid HZ
        have HRh := Lib.hid HR
        by_cases hk : k ≤ b
        · have d2 : decide ((k : Int) ≤ (b : Int)) = true := by simp; omega
          have hk256 : k < 256 := by omega
          have hlt3 : w.heap.size + 1 < wr.heap.size := by omega
          have hwr : IntKind.u8.wrap (k : Int) = (k : Int) := by rw [IntKind.wrap_u8']; omega
          have HN := Lib.hid (fun m => rngUp_succ (rngN lo hi j) a k m hka)
          have c0 := HAh.out.cell 0 (by decide)
          have c1 := HAh.out.cell 1 (by decide)
          have c2 := HAh.out.cell 2 (by decide)
          have c3 := HAh.out.cell 3 (by decide)
          clear s0 s1
          go_wp2_with fail
          go_region_with (first
            | (go_at_call 116; refine (HO.out k hk256 _ _ (by exact heap_alloc_new _ _)).mono ?_; rintro e wx ⟨rfl, HBx⟩; unfold setV; (have HAx := Lib.hid (SetAt.below (SetAt.drew (SetAt.alloc HAh.out _)) HBx)); (have HZx := Lib.hid (SetAt.below (SetAt.drew (SetAt.alloc HZh.out _)) HBx)); (have HRx := Lib.hid (RngAt.below (RngAt.drew (RngAt.alloc HRh.out _)) HBx)); (have e0 := HAx.out.cell 0 (by decide)); (have e1 := HAx.out.cell 1 (by decide)); (have e2 := HAx.out.cell 2 (by decide)); (have e3 := HAx.out.cell 3 (by decide)))
            | (go_at_call 115; refine (HW.out (rngUp (rngN lo hi j) a k) (fun n => decide (n = k)) _ _ (by exact heap_alloc_new _ _)).mono ?_; rintro e wy ⟨rfl, HBy⟩; unfold setV; (have HAy := Lib.hid (SetAt.below (SetAt.alloc HAx.out _) HBy)); (have HZy := Lib.hid (SetAt.below (SetAt.alloc HZx.out _) HBy)); (have HRy := Lib.hid (RngAt.below (RngAt.alloc HRx.out _) HBy)); (have hs3 : wo.heap.size < wy.heap.size := by have q1 := HBx.size; have q2 := HBy.size; simp at q1 q2; omega); (have HPy := Lib.hid (HAy.out.put (Q := fun n => rngUp (rngN lo hi j) a k n || decide (n = k)))); (have g0 := HAy.out.cell 0 (by decide)); (have g1 := HAy.out.cell 1 (by decide)); (have g2 := HAy.out.cell 2 (by decide)); (have g3 := HAy.out.cell 3 (by decide)); (have y0 := HAy.out.frozen 0); (have y1 := HAy.out.frozen 1); (have y2 := HAy.out.frozen 2); (have y3 := HAy.out.frozen 3)))
          all_goals
            go_wp2_with fail
            go_roundg (b - k)
            case measure => omega
            case rel => exact ⟨k + 1, by omega, by omega, by omega, by go_num, HPy.out.congr fun n _ => HN.out n, (((HRy.out.other (by omega)).other (by omega)).other (by omega)).other (by omega), (((HZy.out.other (by omega)).other (by omega)).other (by omega)).other (by omega), ((((below2 (below2 (HB.alloc HB.size _).drew HBx) (below2 ((Below.refl _ _).alloc (Nat.le_refl _) _) HBy)).setCell (by simp) _).setCell (by simp) _).setCell (by simp) _).setCell (by simp) _, by simpa using hs3⟩
        · have d2 : decide ((k : Int) ≤ (b : Int)) = false := by simp; omega
          have HN := Lib.hid (HAh.out.congr (Q := rngN lo hi (j + 1)) fun m _ => by rw [HR1.out, rngUp]; congr 1; rw [Bool.eq_iff_iff]; simp; omega)
          go_wp2_with fail
          go_roundg (n - (j + 1))
          case measure => omega
          case rel => exact ⟨j + 1, by omega, rfl, rfl, by go_num, HN.out, HZh.out, HB, by omega⟩
    · have d1 : decide ((j : Int) < (n : Int)) = false := by simp; omega
      have HE := Lib.hid (show j = n by omega)
      have c0 := HA.cell 0 (by decide)
      have c1 := HA.cell 1 (by decide)
      have c2 := HA.cell 2 (by decide)
      have c3 := HA.cell 3 (by decide)
      have z0 := HZ.cell 0 (by decide)
      have z1 := HZ.cell 1 (by decide)
      have z2 := HZ.cell 2 (by decide)
      have z3 := HZ.cell 3 (by decide)
      have y0 := HZ.frozen 0
      have y1 := HZ.frozen 1
      have y2 := HZ.frozen 2
      have y3 := HZ.frozen 3
      have HR := Lib.hid (HZ.put (Q := rngN lo hi j))
      go_wp2_with fail
      exact bodyPost_ret (set_results2 Tryz.results114 rfl HR.out) rfl (RetV.mk (by rw [HE.out]; rfl) ((((HB.setCell (Nat.le_refl _) _).setCell (Nat.le_refl _) _).setCell (Nat.le_refl _) _).setCell (Nat.le_refl _) _))
end Go.Proofs.YteigjobliflkdaaGreatDoor
