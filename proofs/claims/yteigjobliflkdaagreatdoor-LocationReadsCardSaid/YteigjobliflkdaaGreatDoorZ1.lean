/- Texts of this claim, joined in build order: A0, S15, R15, P15. -/
import Derived.Test.YteigjobliflkdaaGreatDoorProg
import Derived.WalkKit
import Derived.WalkLawsBesides
import Derived.WalkSpells
import Derived.BigQuiet
import Derived.Deep.QuietTactic
import Derived.Lib.Hide
import Derived.Lib.Strings
import Derived.Lib.ConvBytes
import Derived.Lib.BufferMore
import Derived.Maps.AppendAt
import Derived.Lib.Split
import Derived.Lib.SlTrimSet
import Derived.Lib.Atoi
import Derived.Lib.ItoaMem
/- Small lemmas for all walks of this seat: bytes, strings, rows of bytes behind '[]byte(s)'. No walk stands here. -/
namespace Go.Proofs.YteigjobliflkdaaGreatDoor
open Go.RowKit

theorem ret_bool {a b : Bool} (h : a = b) : Ending.returned (.bool a) = .returned (.bool b) := by rw [h]
theorem ret_int {k : IntKind} {a b : Int} (h : a = b) : Ending.returned (.int k a) = .returned (.int k b) := by rw [h]
theorem ret_str {a b : ByteArray} (h : a = b) : Ending.returned (.string a) = .returned (.string b) := by rw [h]

theorem take_snoc (s : ByteArray) (k : Nat) (h : k < s.size) : s.data.toList.take (k + 1) = s.data.toList.take k ++ [s[k]] := by
  rw [List.take_succ_eq_append_getElem (by simpa using h)]; rfl
theorem drop_cons (s : ByteArray) (k : Nat) (h : k < s.size) : s.data.toList.drop k = s[k] :: s.data.toList.drop (k + 1) := by
  rw [List.drop_eq_getElem_cons (by simpa using h)]; rfl
theorem sgetD (s : ByteArray) (k : Nat) (h : k < s.size) : s.data.toList[k]?.getD 0 = s[k] := by
  rw [List.getElem?_eq_getElem (by simpa using h)]; rfl
theorem size_len (s : ByteArray) : s.data.toList.length = s.size := by simp
theorem bs_nil {s : ByteArray} (h : s.size = 0) : s.toList = [] := by
  have : s = ByteArray.empty := by
    cases s with | mk d => simp [ByteArray.size] at h; subst h; rfl
  subst this; rw [Lib.toList_data]; rfl
theorem bs_ne {s : ByteArray} (h : 0 < s.size) : s.toList.isEmpty = false := by
  rw [Lib.toList_data]
  cases hl : s.data.toList with
  | nil => have := size_len s; rw [hl] at this; simp at this; omega
  | cons a b => rfl
theorem bs_mk (s : ByteArray) : (⟨s.data.toList.toArray⟩ : ByteArray) = s := by simp

/-- A row of bytes in block b: what '[]byte(s)' lays: capacity cap, its first bytes are l; the mark lies behind the last cell. -/
def BRow (w : World) (b cap : Nat) (l : List UInt8) : Prop :=
  ∃ cs, w.heap[b]? = some (.cells cs 5 (cap, cap + 1)) ∧ cs.size = cap ∧ l.length ≤ cap ∧ cs.toList.take l.length = l.map fun c => Value.int .u8 c.toNat

theorem BRow.cell {w : World} {b cap : Nat} {l : List UInt8} (h : BRow w b cap l) (j : Nat) (hj : j < l.length) : w.cell? ⟨b, j, none⟩ = some (.int .u8 (l[j]?.getD 0).toNat) := by
  obtain ⟨cs, hb, hc, hl, ht⟩ := h
  rw [cell_of_row w b j cs 5 _ hb]
  have h1 : (cs.toList.take l.length)[j]? = (l.map fun c => Value.int .u8 c.toNat)[j]? := by rw [ht]
  rw [List.getElem?_take, if_pos hj] at h1
  simp only [Array.getElem?_toList, List.getElem?_map, List.getElem?_eq_getElem hj, Option.map_some] at h1
  rw [h1]; simp [List.getElem?_eq_getElem hj]

theorem BRow.frozen {w : World} {b cap : Nat} {l : List UInt8} (h : BRow w b cap l) (j : Nat) (hj : j < l.length) : w.frozen? ⟨b, j, none⟩ = false := by
  obtain ⟨cs, hb, hc, hl, ht⟩ := h
  unfold World.frozen?
  simp only [hb]
  simp; omega

theorem BRow.set {w : World} {b cap : Nat} {l : List UInt8} (h : BRow w b cap l) (j : Nat) (x : UInt8) (y : Int) (hy : y = x.toNat) :
    BRow (w.setCell ⟨b, j, none⟩ (.int .u8 y)) b cap (l.set j x) := by
  subst hy
  obtain ⟨cs, hb, hc, hl, ht⟩ := h
  refine ⟨cs.setIfInBounds j (.int .u8 x.toNat), Lib.heap_setCell_same hb _, by simpa using hc, by simpa using hl, ?_⟩
  rw [List.length_set, Array.toList_setIfInBounds, List.take_set, ht, List.map_set]

theorem BRow.of_bytes (w : World) (s : ByteArray) : BRow (Lib.bytesWorld w 5 s) w.heap.size (Lib.bytesCells w 5 s).size s.data.toList := by
  refine ⟨_, Lib.bytesWorld_at_new w 5 s, rfl, by simp [Lib.bytesCells], ?_⟩
  simp [Lib.bytesCells]

theorem bytes_below (w : World) (s : ByteArray) : Below w.heap.size w (Lib.bytesWorld w 5 s) := by
  refine ⟨?_, ?_, ?_, by rw [Lib.bytesWorld_size]; omega, fun k hk => Lib.bytesWorld_at_old w 5 s k hk⟩
  all_goals simp [Lib.bytesWorld, World.freeze, World.alloc, World.drew, -World.alloc_eq, -World.drew_eq]

theorem bytes_cap (w : World) (s : ByteArray) : (Lib.bytesCells w 5 s).size = grownCap w s.size 0 5 := by
  have := grownCap_ge w s.size 0 5
  simp [Lib.bytesCells]; omega

/-- '[]byte(s)' at this program's types. -/
theorem conv_bytes (w : World) (s : ByteArray) :
    (convert 9 75 (.string s)).run Tryz.prog w = .ok (.slice (some ⟨w.heap.size, 0, none⟩) s.size (grownCap w s.size 0 5)) (Lib.bytesWorld w 5 s) :=
  Lib.run_convert_string_bytes w 9 75 5 s Tryz.underlying9 Tryz.underlying75 Tryz.underlying5

/-- 'string(b)' of a row of bytes. -/
theorem conv_back {w : World} {b cap c : Nat} {l : List UInt8} (h : BRow w b cap l) (n : Nat) (hn : n = l.length) :
    (convert 75 9 (.slice (some ⟨b, 0, none⟩) n c)).run Tryz.prog w = .ok (.string ⟨l.toArray⟩) w := by
  subst hn
  refine run_convert_bytes_back w 75 9 5 ⟨b, 0, none⟩ c l Tryz.underlying75 Tryz.underlying5 Tryz.underlying9 fun j hj => ?_
  have : (⟨b, 0, none⟩ : Addr).add j = ⟨b, j, none⟩ := by unfold Addr.add; split <;> simp_all
  rw [this, h.cell j hj, List.getElem?_eq_getElem hj]
  rfl

theorem bcell {W w1 : World} (hb : Below W.heap.size W w1) : (∀ b o, b < W.heap.size → w1.cell? ⟨b, o, none⟩ = W.cell? ⟨b, o, none⟩) ∧ (∀ b o, b < W.heap.size → w1.frozen? ⟨b, o, none⟩ = W.frozen? ⟨b, o, none⟩) :=
  ⟨fun b o h => hb.cell (p := ⟨b, o, none⟩) h, fun b o h => hb.frozen (p := ⟨b, o, none⟩) h⟩

theorem info9 : (Tryz.prog.info? 9).map (fun i => (i.zero, i.size, i.bytes)) = some (some (.string ByteArray.empty), 1, 16) := by kernel_rfl

/-- A string as a value, out of its bytes. -/
def S (l : List UInt8) : Value := .string ⟨l.toArray⟩
theorem S_of (s : ByteArray) : Value.string s = S s.data.toList := by simp [S]
theorem S_extract (s : ByteArray) (a b : Nat) : Value.string (s.extract a b) = S ((s.data.toList.take b).drop a) := by
  rw [S_of, Lib.extract_data, List.drop_take]

/-- 'append(v, t)' on a slice of strings of the call's own. -/
theorem wpApp9 {ops : Array Oper} {rest : List Oper} {o : Oper} {a : Act} {Q : Exit → Act → World → Prop} (hgd : o.guard = none) (s x : Operand)
    (ho : o.op = .call { callee := .builtin .append, args := #[s, x], argTypes := #[34, 34] })
    {B0 B : Nat} {w0 wr : World} {v : Value} {n : Nat} {xs : List Value} {t : ByteArray} (hown : wr.ownsRow B 9 1 v n xs) (hB : Below B0 w0 wr) (hs : a.eval s = v)
    (hx : a.eval x = .slice (some ⟨wr.heap.size, 0, none⟩) 1 1) (hn : n ≤ 100000) (h0 : B0 ≤ B) (hle : B ≤ wr.heap.size)
    (h : ∀ v' w', w'.ownsRow B 9 1 v' (n + 1) (xs ++ [.string t]) → Below B0 w0 w' → wpList Tryz.prog ops Q rest (a.put o.dst v') w') :
    wpList Tryz.prog ops Q (o :: rest) a (wr.alloc (.cells #[.string t] 9)) := by
  obtain ⟨i0, hi, hz0, hz1, hz2⟩ := info_parts info9
  refine wpList_append_own _ hgd s x 34 ho B 9 i0 (.string ByteArray.empty) 1 16 Tryz.underlying34 hi hz0 hz1 hz2 rfl (by decide) v n xs hs (hown.alloc _) ⟨wr.heap.size, 0, none⟩ 1 1 [.string t] hx rfl (cell_one_new _ _ _) (by simp [Value.oneCell']) (by unfold maxLen; omega) (by omega) (by simp; omega) ?_
  intro v' w' hown' hg _
  refine h v' w' hown' ((hB.alloc (by omega) _).grown hg (by simp; omega) fun k hk => ?_)
  have := (hown.lt k hk).1
  omega

/-- 'string([]byte{x})'. -/
theorem conv_one (W : World) (x : Int) (h0 : 0 ≤ x) (h1 : x ≤ 255) :
    (convert 75 9 (.slice (some ⟨W.heap.size, 0, none⟩) 1 1)).run Tryz.prog (W.alloc (.cells #[.int .u8 x] 5)) = .ok (.string ⟨#[UInt8.ofNat x.toNat]⟩) (W.alloc (.cells #[.int .u8 x] 5)) := by
  refine run_convert_bytes_back (l := [UInt8.ofNat x.toNat]) _ 75 9 5 ⟨W.heap.size, 0, none⟩ 1 Tryz.underlying75 Tryz.underlying5 Tryz.underlying9 fun j hj => ?_
  have hj0 : j = 0 := by simp at hj; omega
  subst hj0
  have := cell_one_new W (.int .u8 x) 5 0 _ rfl
  rw [this]
  simp
  omega

/-- A call that hands back the value v; nothing that was there has turned. -/
def RetV (v : Value) (w : World) (e : Ending) (w' : World) : Prop := e = .returned v ∧ Below w.heap.size w w'
theorem RetV.of {α : Type} {f : α → Value} {x : α} {w w' : World} {v : Value} (r : α) (h : x = r) (hv : v = f r) (hB : Below w.heap.size w w') : RetV (f x) w (.returned v) w' := by
  subst hv; subst h; exact ⟨rfl, hB⟩
theorem RetV.mk {w w' : World} {v v' : Value} (hv : v' = v) (hB : Below w.heap.size w w') : RetV v w (.returned v') w' := by
  subst hv; exact ⟨rfl, hB⟩
theorem RetV.at {α : Type} {f : α → Value} {x r : α} (h : x = r) {w : World} {e : Ending} {w' : World} (hr : RetV (f x) w e w') : RetV (f r) w e w' := by subst h; exact hr

/-- An owned row stays where nothing below has turned. -/
theorem own_below {w w' : World} {B e size : Nat} {v : Value} {n : Nat} {xs : List Value} (h : w.ownsRow B e size v n xs) (hB : Below w.heap.size w w') : w'.ownsRow B e size v n xs := by
  obtain ⟨h1, h2 | ⟨g, cap, cur, a, b, hg, c⟩⟩ := h
  · exact ⟨h1, Or.inl h2⟩
  · exact ⟨h1, Or.inr ⟨g, cap, cur, a, b, by rw [hB.block g (Array.getElem?_eq_some_iff.1 hg).1]; exact hg, c⟩⟩

end Go.Proofs.YteigjobliflkdaaGreatDoor
/- Plain: what the packages host and waypostref15 compute, on lists of bytes. No program stands here. -/
namespace Go.Proofs.YteigjobliflkdaaGreatDoor
open Go

/-! Bytes -/
def digitB (b : UInt8) : Bool := decide (48 ≤ b.toNat) && decide (b.toNat ≤ 57)
def alnumB (b : UInt8) : Bool := digitB b || (decide (97 ≤ b.toNat) && decide (b.toNat ≤ 122)) || (decide (65 ≤ b.toNat) && decide (b.toNat ≤ 90))
def lchB (b : UInt8) : Bool := alnumB b || decide (b.toNat = 45)
def labB (l : List UInt8) : Bool := decide (1 ≤ l.length) && decide (l.length ≤ 63) && !(decide ((l[0]?.getD 0).toNat = 45)) && !(decide ((l[l.length-1]?.getD 0).toNat = 45)) && l.all lchB
def lowB (b : UInt8) : UInt8 := if 65 ≤ b.toNat ∧ b.toNat ≤ 90 then b + 32 else b
def lower (l : List UInt8) : List UInt8 := l.map lowB
theorem lower_length (l : List UInt8) : (lower l).length = l.length := by simp [lower]

/-! Cutting at a byte -/
def cut1 (c : UInt8) : List UInt8 → List UInt8 × List UInt8 × Bool
  | [] => ([], [], false)
  | b :: l => if b = c then ([], l, true) else (b :: (cut1 c l).1, (cut1 c l).2.1, (cut1 c l).2.2)
def segs (c : UInt8) : List UInt8 → List (List UInt8)
  | [] => [[]]
  | b :: l => if b = c then [] :: segs c l else match segs c l with
    | [] => [[b]]
    | h :: t => (b :: h) :: t

theorem segs_ne (c : UInt8) (l : List UInt8) : segs c l ≠ [] := by
  cases l with
  | nil => simp [segs]
  | cons b l => unfold segs; split <;> try split
                all_goals simp

theorem index_one (c : UInt8) : ∀ l : List UInt8, Lib.index l [c] = if (cut1 c l).2.2 then ((cut1 c l).1.length : Int) else -1
  | [] => by simp [Lib.index, cut1]
  | b :: l => by
    unfold Lib.index
    rw [index_one c l]
    by_cases h : b = c
    · subst h; simp [cut1]
    · have h' : (c == b) = false := by simp; exact fun e => h e.symm
      simp only [cut1, if_neg h, List.isPrefixOf, h', Bool.false_and]
      cases (cut1 c l).2.2
      · simp
      · have h1 : ((((cut1 c l).1.length : Int)) == -1) = false := by rw [beq_eq_false_iff_ne]; omega
        simp [h1]

theorem cut1_app (c : UInt8) : ∀ l : List UInt8, (cut1 c l).2.2 = true → l = (cut1 c l).1 ++ c :: (cut1 c l).2.1
  | [], h => by simp [cut1] at h
  | b :: l, h => by
    by_cases e : b = c
    · subst e; simp [cut1]
    · simp only [cut1, if_neg e] at h ⊢
      simpa using cut1_app c l h
theorem cut1_take (c : UInt8) : ∀ l : List UInt8, l.take (cut1 c l).1.length = (cut1 c l).1
  | [] => by simp [cut1]
  | b :: l => by
    by_cases e : b = c
    · subst e; simp [cut1]
    · simp only [cut1, if_neg e, List.length_cons, List.take_succ_cons, cut1_take c l]
theorem cut1_drop (c : UInt8) : ∀ l : List UInt8, (cut1 c l).2.2 = true → l.drop ((cut1 c l).1.length + 1) = (cut1 c l).2.1
  | [], h => by simp [cut1] at h
  | b :: l, h => by
    by_cases e : b = c
    · subst e; simp [cut1]
    · simp only [cut1, if_neg e] at h ⊢
      simpa using cut1_drop c l h
theorem cut1_none (c : UInt8) : ∀ l : List UInt8, (cut1 c l).2.2 = false → (cut1 c l).1 = l ∧ (cut1 c l).2.1 = []
  | [], _ => by simp [cut1]
  | b :: l, h => by
    by_cases e : b = c
    · subst e; simp [cut1] at h
    · simp only [cut1, if_neg e] at h ⊢
      simpa using cut1_none c l h

theorem lib_cut (c : UInt8) (l : List UInt8) : Lib.cut l [c] = cut1 c l := by
  unfold Lib.cut
  rw [index_one c l]
  cases h : (cut1 c l).2.2 with
  | false =>
    have := cut1_none c l h
    rw [if_neg (by simp)]
    apply Prod.ext
    · exact this.1.symm
    · exact Prod.ext this.2.symm h.symm
  | true =>
    rw [if_pos (by simp)]
    simp only [if_true, Int.toNat_natCast]
    exact Prod.ext (cut1_take c l) (Prod.ext (cut1_drop c l h) h.symm)

theorem segs_cut (c : UInt8) : ∀ l : List UInt8, segs c l = if (cut1 c l).2.2 then (cut1 c l).1 :: segs c (cut1 c l).2.1 else [l]
  | [] => by simp [segs, cut1]
  | b :: l => by
    by_cases e : b = c
    · subst e; simp [segs, cut1]
    · simp only [segs, cut1, if_neg e, segs_cut c l]
      cases (cut1 c l).2.2 <;> simp

theorem cut1_len (c : UInt8) : ∀ l : List UInt8, (cut1 c l).1.length ≤ l.length ∧ (cut1 c l).2.1.length ≤ l.length ∧ ((cut1 c l).2.2 = true → (cut1 c l).1.length + (cut1 c l).2.1.length + 1 = l.length)
  | [] => by simp [cut1]
  | b :: l => by
    have := cut1_len c l
    by_cases e : b = c
    · subst e; simp [cut1]
    · simp only [cut1, if_neg e]; refine ⟨by simp; omega, by simp; omega, fun h => ?_⟩
      have := this.2.2 h; simp; omega

/-- What strings.Split gives at one byte. -/
theorem lib_splitK (c : UInt8) : ∀ (n : Nat) (l : List UInt8), l.length < n → ∀ f, l.length < f → Lib.splitK [c] 0 (Lib.countFrom [c] f l) l = segs c l
  | 0, l, h, _, _ => by omega
  | n + 1, l, h, f, hf => by
    obtain ⟨f, rfl⟩ : ∃ g, f = g + 1 := ⟨f - 1, by omega⟩
    rw [segs_cut]
    unfold Lib.countFrom
    rw [index_one c l]
    cases hc : (cut1 c l).2.2 with
    | false => simp [Lib.splitK]
    | true =>
      have hl := (cut1_len c l).2.2 hc
      have h1 : ((((cut1 c l).1.length : Int)) == -1) = false := by rw [beq_eq_false_iff_ne]; omega
      simp only [if_true, h1, Bool.false_eq_true, if_false]
      have hd := cut1_drop c l hc
      have ht := cut1_take c l
      rw [Nat.add_comm 1]
      unfold Lib.splitK
      rw [index_one c l, hc]
      simp only [if_true, h1, Bool.false_eq_true, if_false, Int.toNat_natCast, List.length_cons, List.length_nil, Nat.zero_add, Nat.add_zero] at *
      rw [hd, ht, lib_splitK c n _ (by omega) f (by omega)]
theorem lib_split (c : UInt8) (l : List UInt8) : Lib.splitK [c] 0 (Lib.count l [c]) l = segs c l := lib_splitK c (l.length + 1) l (by omega) _ (by omega)

theorem segs_none (c : UInt8) : ∀ x : List UInt8, (∀ b ∈ x, b ≠ c) → segs c x = [x]
  | [], _ => rfl
  | b :: x, h => by
    have := segs_none c x fun b hb => h b (List.mem_cons_of_mem _ hb)
    rw [segs, if_neg (h b (List.mem_cons_self ..)), this]
theorem segs_app (c : UInt8) : ∀ (x m : List UInt8), (∀ b ∈ x, b ≠ c) → segs c (x ++ c :: m) = x :: segs c m
  | [], m, _ => by simp [segs]
  | b :: x, m, h => by
    have := segs_app c x m fun b hb => h b (List.mem_cons_of_mem _ hb)
    rw [List.cons_append, segs, if_neg (h b (List.mem_cons_self ..)), this]

/-- After the rounds below k: D is done, the piece at hand begins at f. -/
def SegAt (l : List UInt8) (c : UInt8) (k f : Nat) (D : List (List UInt8)) : Prop :=
  (k ≤ l.length ∧ f ≤ k ∧ segs c l = D ++ segs c (l.drop f) ∧ ∀ b ∈ (l.take k).drop f, b ≠ c) ∨ (k = l.length + 1 ∧ segs c l = D)

theorem SegAt.start (l : List UInt8) (c : UInt8) : SegAt l c 0 0 [] := .inl ⟨Nat.zero_le _, Nat.le_refl _, by simp, by simp⟩
theorem SegAt.split {l : List UInt8} {k f : Nat} (hk : k ≤ l.length) (hf : f ≤ k) : l.drop f = (l.take k).drop f ++ l.drop k := by
  conv => lhs; rw [← List.take_append_drop k l]
  rw [List.drop_append_of_le_length (by simp; omega)]
theorem SegAt.hit {l : List UInt8} {c : UInt8} {k f : Nat} {D : List (List UInt8)} (h : SegAt l c k f D) (hk : k < l.length) (hc : l[k]?.getD 0 = c) : SegAt l c (k + 1) (k + 1) (D ++ [(l.take k).drop f]) := by
  rcases h with ⟨h1, h2, h3, h4⟩ | ⟨h1, _⟩
  · refine .inl ⟨by omega, Nat.le_refl _, ?_, by simp⟩
    rw [h3, SegAt.split h1 h2, List.drop_eq_getElem_cons hk]
    have : l[k] = c := by rw [← hc, List.getElem?_eq_getElem hk]; rfl
    rw [this, segs_app c _ _ h4, List.append_assoc]; rfl
  · omega
theorem SegAt.last {l : List UInt8} {c : UInt8} {f : Nat} {D : List (List UInt8)} (h : SegAt l c l.length f D) : SegAt l c (l.length + 1) (l.length + 1) (D ++ [(l.take l.length).drop f]) := by
  rcases h with ⟨h1, h2, h3, h4⟩ | ⟨h1, _⟩
  · refine .inr ⟨rfl, ?_⟩
    rw [h3]
    rw [List.take_length] at h4 ⊢
    rw [segs_none c _ h4]
  · omega
theorem SegAt.skip {l : List UInt8} {c : UInt8} {k f : Nat} {D : List (List UInt8)} (h : SegAt l c k f D) (hk : k < l.length) (hc : l[k]?.getD 0 ≠ c) : SegAt l c (k + 1) f D := by
  rcases h with ⟨h1, h2, h3, h4⟩ | ⟨h1, _⟩
  · refine .inl ⟨by omega, by omega, h3, ?_⟩
    rw [List.take_succ_eq_append_getElem hk, List.drop_append_of_le_length (by simp; omega)]
    intro b hb
    rcases List.mem_append.1 hb with hb | hb
    · exact h4 b hb
    · simp at hb; subst hb; rw [List.getElem?_eq_getElem hk] at hc; exact hc
  · omega
theorem SegAt.le {l : List UInt8} {c : UInt8} {k f : Nat} {D : List (List UInt8)} (h : SegAt l c k f D) (hk : k ≤ l.length) : f ≤ k := by
  rcases h with ⟨h1, h2, h3, h4⟩ | ⟨h1, _⟩ <;> omega
theorem SegAt.fin {l : List UInt8} {c : UInt8} {k f : Nat} {D : List (List UInt8)} (h : SegAt l c k f D) (hk : l.length < k) : D = segs c l := by
  rcases h with ⟨h1, h2, h3, h4⟩ | ⟨h1, h2⟩
  · omega
  · exact h2.symm
theorem segs_le (c : UInt8) : ∀ l : List UInt8, (segs c l).length ≤ l.length + 1
  | [] => by simp [segs]
  | b :: l => by
    have := segs_le c l
    unfold segs; split <;> try split
    all_goals simp_all
    omega
theorem SegAt.dle {l : List UInt8} {c : UInt8} {k f : Nat} {D : List (List UInt8)} (h : SegAt l c k f D) : D.length ≤ l.length + 1 := by
  have := segs_le c l
  rcases h with ⟨h1, h2, h3, h4⟩ | ⟨h1, h2⟩
  · rw [h3] at this; simp at this; omega
  · rw [h2] at this; exact this

theorem segs_mem (c : UInt8) : ∀ (l x : List UInt8), x ∈ segs c l → x.length ≤ l.length
  | [], x, h => by simp [segs] at h; subst h; exact Nat.le_refl _
  | b :: l, x, h => by
    unfold segs at h
    split at h
    · rcases List.mem_cons.1 h with rfl | h
      · exact Nat.zero_le _
      · have := segs_mem c l x h; simp; omega
    · split at h
      · simp at h; subst h; simp
      · rename_i hd t e
        rcases List.mem_cons.1 h with rfl | h
        · have := segs_mem c l hd (by rw [e]; exact List.mem_cons_self ..); simp; omega
        · have := segs_mem c l x (by rw [e]; exact List.mem_cons_of_mem _ h); simp; omega

/-! Digits -/
def decVal (l : List UInt8) : Nat := l.foldl (fun n b => 10 * n + (b.toNat - 48)) 0
def digsOK (l : List UInt8) : Bool := decide (1 ≤ l.length) && decide (l.length ≤ 5) && l.all digitB
theorem decVal_snoc (l : List UInt8) (b : UInt8) : decVal (l ++ [b]) = 10 * decVal l + (b.toNat - 48) := by simp [decVal]
theorem decVal_lt : ∀ (n : Nat) (l : List UInt8), l.length = n → l.all digitB = true → decVal l < 10 ^ n
  | 0, l, h, _ => by have := List.length_eq_zero_iff.1 h; subst this; decide
  | n + 1, l, h, ha => by
    rcases List.eq_nil_or_concat l with rfl | ⟨l', b, rfl⟩
    · simp at h
    · simp only [List.concat_eq_append] at *
      rw [decVal_snoc]
      rw [List.all_append] at ha
      simp only [Bool.and_eq_true, List.all_cons, List.all_nil, Bool.and_true] at ha
      have := decVal_lt n l' (by simpa using h) ha.1
      have hb := ha.2
      simp only [digitB, Bool.and_eq_true, decide_eq_true_eq] at hb
      rw [Nat.pow_succ]; omega
theorem decVal_lt5 (l : List UInt8) (h : digsOK l = true) : decVal l < 100000 := by
  simp only [digsOK, Bool.and_eq_true, decide_eq_true_eq] at h
  have := decVal_lt l.length l rfl h.2
  have h5 : 10 ^ l.length ≤ 10 ^ 5 := Nat.pow_le_pow_right (by decide) h.1.2
  omega
theorem decFrom_val : ∀ (l : List UInt8) (acc : Nat), l.all digitB = true → Lib.decFrom acc l = some (l.foldl (fun n b => 10 * n + (b.toNat - 48)) acc)
  | [], acc, _ => rfl
  | b :: l, acc, h => by
    simp only [List.all_cons, Bool.and_eq_true] at h
    have hb := h.1
    simp only [digitB, Bool.and_eq_true, decide_eq_true_eq] at hb
    have : Lib.digitVal b = some (b.toNat - 48) := by simp [Lib.digitVal, hb]
    simp only [Lib.decFrom, this, List.foldl_cons]
    rw [decFrom_val l _ h.2, Nat.mul_comm]
theorem atoi_val (l : List UInt8) (h : digsOK l = true) : Lib.atoi l = some (decVal l : Int) := by
  simp only [digsOK, Bool.and_eq_true, decide_eq_true_eq] at h
  cases l with
  | nil => simp at h
  | cons b r =>
    have hb := h.2
    rw [List.all_cons] at hb
    simp only [Bool.and_eq_true] at hb
    have hb1 := hb.1
    simp only [digitB, Bool.and_eq_true, decide_eq_true_eq] at hb1
    have h1 : (b == 45) = false := by
      rw [beq_eq_false_iff_ne]; intro e; subst e; simp at hb1
    have h2 : (b == 43) = false := by
      rw [beq_eq_false_iff_ne]; intro e; subst e; simp at hb1
    show (if (b == 45) = true then _ else if (b == 43) = true then _ else _) = _
    rw [h1, h2]
    simp only [Bool.false_eq_true, if_false, Lib.decNat, List.isEmpty_cons]
    rw [decFrom_val (b :: r) 0 h.2]
    rfl

/-! Trim -/
theorem trimS_nil (l cs : List UInt8) : (Lib.trimS l cs).isEmpty = l.all (cs.contains ·) := by
  have h1 : ∀ m : List UInt8, (m.dropWhile (cs.contains ·)).isEmpty = m.all (cs.contains ·) := by
    intro m
    induction m with
    | nil => rfl
    | cons a m ih =>
      rw [List.dropWhile_cons, List.all_cons]
      by_cases h : cs.contains a = true
      · rw [if_pos h, ih, h]; simp
      · rw [if_neg h, Bool.eq_false_iff.2 h]; rfl
  unfold Lib.trimS Lib.trimLeftS Lib.trimRightS
  rw [h1, Bool.eq_iff_iff, List.all_reverse]
  rw [List.all_eq_true, List.all_eq_true]
  constructor
  · intro h x hx
    have hx' : x ∈ l.reverse := List.mem_reverse.2 hx
    rw [← List.takeWhile_append_dropWhile (p := (cs.contains ·)) (l := l.reverse), List.mem_append] at hx'
    rcases hx' with hx' | hx'
    · exact (List.all_eq_true.1 (List.all_takeWhile (p := (cs.contains ·)) (l := l.reverse))) x hx'
    · exact h x hx'
  · intro h x hx
    exact h x (List.mem_reverse.1 (List.dropWhile_sublist _ |>.mem hx))

/-! Split -/
/-- A host's name and port, or the error. -/
def hostSplit (l : List UInt8) : Except Int (List UInt8 × Int) :=
  if 128 < l.length then .error 4 else
  if (cut1 58 l).2.2 && !digsOK (cut1 58 l).2.1 then .error 3 else
  if !(segs 46 (cut1 58 l).1).all labB then .error 3 else
  if 64 < (cut1 58 l).1.length then .error 4 else
  if (cut1 58 l).2.2 && (decide (decVal (cut1 58 l).2.1 < 1) || decide (65535 < decVal (cut1 58 l).2.1)) then .error 2 else
  .ok (lower (cut1 58 l).1, if (cut1 58 l).2.2 then (decVal (cut1 58 l).2.1 : Int) else 80)

theorem hostSplit_err {l : List UInt8} {e : Int} (h : hostSplit l = .error e) : e = 2 ∨ e = 3 ∨ e = 4 := by
  unfold hostSplit at h
  repeat (split at h; · cases h; simp)
  cases h

/-! The stages of Split -/
/-- What the part before the labels leaves: the name and the port. -/
def Stage1 (l t : List UInt8) (p : Int) : Prop :=
  t = (cut1 58 l).1 ∧ (((cut1 58 l).2.2 = false ∧ p = 80) ∨ ((cut1 58 l).2.2 = true ∧ digsOK (cut1 58 l).2.1 = true ∧ p = (decVal (cut1 58 l).2.1 : Int)))
theorem Stage1.split {l t : List UInt8} {p : Int} (h : Stage1 l t p) (hl : l.length ≤ 128) :
    hostSplit l = if (segs 46 t).all labB = false then .error 3 else if 64 < t.length then .error 4 else if p < 1 ∨ 65535 < p then .error 2 else .ok (lower t, p) := by
  obtain ⟨rfl, ⟨h1, rfl⟩ | ⟨h1, h2, rfl⟩⟩ := h
  · unfold hostSplit
    rw [if_neg (by omega), h1]
    simp
  · unfold hostSplit
    rw [if_neg (by omega), h1, h2]
    simp
    congr 3
    simp; omega
theorem hostSplit_long {l : List UInt8} (h : 128 < l.length) : hostSplit l = .error 4 := by unfold hostSplit; rw [if_pos h]
theorem hostSplit_digs {l : List UInt8} (h0 : l.length ≤ 128) (h1 : (cut1 58 l).2.2 = true) (h2 : digsOK (cut1 58 l).2.1 = false) : hostSplit l = .error 3 := by
  unfold hostSplit; rw [if_neg (by omega), h1, h2]; simp
theorem cut1_at {c : UInt8} {l : List UInt8} {k : Nat} (hk : k < l.length) (h : ∀ b ∈ l.take k, b ≠ c) (hc : l[k]?.getD 0 = c) : cut1 c l = (l.take k, l.drop (k + 1), true) := by
  induction l generalizing k with
  | nil => simp at hk
  | cons b l ih =>
    cases k with
    | zero => simp at hc; subst hc; simp [cut1]
    | succ k =>
      have hb : b ≠ c := h b (by simp)
      have := ih (k := k) (by simpa using hk) (fun x hx => h x (by simp [hx])) (by simpa using hc)
      rw [cut1, if_neg hb, this]; simp
theorem cut1_free {c : UInt8} {l : List UInt8} (h : ∀ b ∈ l, b ≠ c) : cut1 c l = (l, [], false) := by
  induction l with
  | nil => rfl
  | cons b l ih =>
    rw [cut1, if_neg (h b (by simp)), ih fun x hx => h x (by simp [hx])]
theorem free_snoc {c : UInt8} {l : List UInt8} {k : Nat} (hk : k < l.length) (h : ∀ b ∈ l.take k, b ≠ c) (hc : l[k]?.getD 0 ≠ c) : ∀ b ∈ l.take (k + 1), b ≠ c := by
  rw [List.take_succ_eq_append_getElem hk]
  intro b hb
  rcases List.mem_append.1 hb with hb | hb
  · exact h b hb
  · simp at hb; subst hb; rw [List.getElem?_eq_getElem hk] at hc; exact hc
/-- m digits of dg are read: they spell p. -/
def DigAt (dg : List UInt8) (m : Nat) (p : Nat) : Prop := m ≤ dg.length ∧ (dg.take m).all digitB = true ∧ p = decVal (dg.take m)
theorem DigAt.start (dg : List UInt8) : DigAt dg 0 0 := ⟨Nat.zero_le _, by simp, by simp [decVal]⟩
theorem DigAt.next {dg : List UInt8} {m p : Nat} (h : DigAt dg m p) (hm : m < dg.length) (hd : digitB (dg[m]?.getD 0) = true) : DigAt dg (m + 1) (10 * p + ((dg[m]?.getD 0).toNat - 48)) := by
  obtain ⟨h1, h2, rfl⟩ := h
  rw [List.getElem?_eq_getElem hm] at hd ⊢
  refine ⟨hm, ?_, ?_⟩
  · rw [List.take_succ_eq_append_getElem hm, List.all_append, h2]; simpa using hd
  · rw [List.take_succ_eq_append_getElem hm, decVal_snoc]; rfl
theorem DigAt.bound {dg : List UInt8} {m p : Nat} (h : DigAt dg m p) (hm : m ≤ 4) : p ≤ 9999 := by
  obtain ⟨h1, h2, rfl⟩ := h
  have := decVal_lt (dg.take m).length _ rfl h2
  have h5 : 10 ^ (dg.take m).length ≤ 10 ^ 4 := Nat.pow_le_pow_right (by decide) (by simp; omega)
  omega
theorem DigAt.bad {dg : List UInt8} {m : Nat} (hm : m < dg.length) (hd : digitB (dg[m]?.getD 0) = false) : digsOK dg = false := by
  rw [List.getElem?_eq_getElem hm] at hd
  unfold digsOK
  rw [show dg.all digitB = false from List.all_eq_false.2 ⟨dg[m], List.getElem_mem _, by simpa using hd⟩, Bool.and_false]
theorem DigAt.done {dg : List UInt8} {p : Nat} (h : DigAt dg dg.length p) (h1 : 1 ≤ dg.length) (h5 : dg.length ≤ 5) : digsOK dg = true ∧ p = decVal dg := by
  obtain ⟨_, h2, rfl⟩ := h
  rw [List.take_length] at h2 ⊢
  exact ⟨by simp [digsOK, h1, h5]; exact fun x hx => List.all_eq_true.1 h2 x hx, rfl⟩

/-! The other functions -/
theorem hostSplit_ok {l n : List UInt8} {p : Int} (h : hostSplit l = .ok (n, p)) : 1 ≤ p ∧ p ≤ 65535 ∧ n.length ≤ 64 ∧ n.length ≤ l.length ∧ n = lower (cut1 58 l).1 := by
  unfold hostSplit at h
  have hl := (cut1_len 58 l).1
  split at h
  · cases h
  split at h
  · cases h
  split at h
  · cases h
  split at h
  · cases h
  split at h
  · cases h
  rename_i h1 h2 h3 h4 h5
  injection h with h
  injection h with ha hb
  subst ha; subst hb
  rw [lower_length]
  refine ⟨?_, ?_, by omega, hl, rfl⟩
  · split
    · rename_i hc; simp [hc] at h5; omega
    · decide
  · split
    · rename_i hc; simp [hc] at h5; omega
    · decide
def hostWrite (n : List UInt8) (p : Int) : List UInt8 := if p = 80 then n else n ++ 58 :: Lib.itoa p
def hostWritten (n : List UInt8) (p : Int) : Except Int (List UInt8) := if 64 < (hostWrite n p).length then .error 4 else .ok (hostWrite n p)
def hostNormal (l : List UInt8) : Except Int (List UInt8) := match hostSplit l with
  | .error e => .error e
  | .ok x => hostWritten x.1 x.2
def hostIs (l : List UInt8) : Bool := match hostNormal l with
  | .error _ => false
  | .ok n => n == l
def hostSame (a b : List UInt8) : Bool × Int := match hostSplit a with
  | .error e => (false, e)
  | .ok x => match hostSplit b with
    | .error e => (false, e)
    | .ok y => (x.1 == y.1 && x.2 == y.2, 0)
def hostLabels (l : List UInt8) : Except Int (List (List UInt8)) := match hostSplit l with
  | .error e => .error e
  | .ok x => .ok (segs 46 x.1)
def hostUnder (a b : List UInt8) : Bool × Int := match hostSplit a with
  | .error e => (false, e)
  | .ok x => match hostSplit b with
    | .error e => (false, e)
    | .ok y => ((segs 46 y.1).isSuffixOf (segs 46 x.1), 0)
def hostJoin (l : List UInt8) (p : Int) : Except Int (List UInt8) := match hostSplit l with
  | .error e => .error e
  | .ok x => if x.1.length ≠ l.length then .error 3 else if p < 1 ∨ 65535 < p then .error 2 else hostWritten x.1 p
/-- How two strings of bytes are ordered. -/
def cmpB (a b : List UInt8) : Int := if Op.bytesLess a b then -1 else if a == b then 0 else 1
/-- How two lists of strings are ordered. -/
def cmpL : List (List UInt8) → List (List UInt8) → Int
  | [], [] => 0
  | [], _ :: _ => -1
  | _ :: _, [] => 1
  | a :: l, b :: m => if cmpB a b = 0 then cmpL l m else cmpB a b
def cmpI (p q : Int) : Int := if p < q then -1 else if q < p then 1 else 0
def hostCmp (x y : List UInt8 × Int) : Int :=
  if cmpL (segs 46 x.1).reverse (segs 46 y.1).reverse = 0 then cmpI x.2 y.2 else cmpL (segs 46 x.1).reverse (segs 46 y.1).reverse
def hostCompare (a b : List UInt8) : Int × Int := match hostSplit a with
  | .error e => (0, e)
  | .ok x => match hostSplit b with
    | .error e => (0, e)
    | .ok y => (hostCmp x y, 0)

end Go.Proofs.YteigjobliflkdaaGreatDoor
/- Walks: waypostref15's small functions (bytes, labels) and both 'Lower'. -/
namespace Go.Proofs.YteigjobliflkdaaGreatDoor
open Go.RowKit

theorem digit_any (b : UInt8) (w : World) :
    Calls Tryz.prog 95 #[.int .u8 b.toNat] w fun e w' => e = .returned (.bool (digitB b)) ∧ w = w' := by
  go_enter Tryz.func95, Tryz.ntmps95
  go_wp2
  all_goals
    go_ret
    exact ⟨ret_bool (by rw [Bool.eq_iff_iff]; simp [digitB]; omega), rfl⟩

theorem alnum_any (b : UInt8) (w : World) :
    Calls Tryz.prog 138 #[.int .u8 b.toNat] w fun e w' => e = .returned (.bool (alnumB b)) ∧ w = w' := by
  go_enter Tryz.func138, Tryz.ntmps138
  go_wp2_with (go_at_call 95; refine (digit_any _ _).mono ?_; rintro e w' ⟨rfl, rfl⟩)
  all_goals
    go_ret
    refine ⟨ret_bool (by rw [Bool.eq_iff_iff]; simp [alnumB, *]; try omega), rfl⟩

set_option maxHeartbeats 400000 in
theorem label_ref (s : ByteArray) (w : World) (hs : s.size ≤ 60000) :
    Calls Tryz.prog 96 #[.string s] w fun e w' => e = .returned (.bool (labB s.data.toList)) ∧ w = w' := by
  by_cases h0 : s.size = 0
  · have := bs_nil h0
    have HF := Lib.hid (show labB s.data.toList = false by simp [labB, h0])
    clear h0
    go_enter Tryz.func96, Tryz.ntmps96
    go_wp2_with (fail)
    go_ret
    exact ⟨ret_bool HF.out.symm, rfl⟩
  have hpos : 0 < s.size := by omega
  have hne := bs_ne hpos
  clear h0
  by_cases h1 : 63 < s.size
  · have HF := Lib.hid (show labB s.data.toList = false by simp [labB]; omega)
    go_enter Tryz.func96, Tryz.ntmps96
    go_wp2_with (fail)
    go_ret
    exact ⟨ret_bool HF.out.symm, rfl⟩
  have hle : decide (63 < (s.size : Int)) = false := by simp; omega
  by_cases h2 : s[0].toNat = 45
  · have HF := Lib.hid (show labB s.data.toList = false by simp only [labB, sgetD s 0 hpos, h2]; simp)
    have h2' : (((s[0].toNat : Int)) == 45) = true := by simp; omega
    clear h2
    go_enter Tryz.func96, Tryz.ntmps96
    go_wp2_with (fail)
    go_ret
    exact ⟨ret_bool HF.out.symm, rfl⟩
  have h2' : (((s[0].toNat : Int)) == 45) = false := by simp; omega
  by_cases h3 : s[s.size - 1].toNat = 45
  · have h3' : (((s[s.size - 1].toNat : Int)) == 45) = true := by simp; omega
    have HF := Lib.hid (show labB s.data.toList = false by simp only [labB, size_len, sgetD s (s.size - 1) (by omega), h3]; simp)
    clear h3 h2
    go_enter Tryz.func96, Tryz.ntmps96
    go_wp2_with (fail)
    go_ret
    exact ⟨ret_bool HF.out.symm, rfl⟩
  have h3' : (((s[s.size - 1].toNat : Int)) == 45) = false := by simp; omega
  have HL := Lib.hid (show labB s.data.toList = s.data.toList.all lchB by
    simp only [labB, size_len, sgetD s (s.size - 1) (by omega), sgetD s 0 hpos, h2, h3]; simp; omega)
  clear h2 h3
  go_enter Tryz.func96, Tryz.ntmps96
  go_wp2_with (fail)
  go_loop [3] (fun i => ∃ k : Nat, k ≤ s.size ∧ i = .int .i64 k ∧ Hid ((s.data.toList.take k).all lchB = true)) (fun i => s.size - (intOf i).toNat)
  case atStart => exact ⟨0, Nat.zero_le _, rfl, rfl⟩
  case round =>
    obtain ⟨k, hk, rfl, HA⟩ := hrel
    by_cases hlt : k < s.size
    · have HT := Lib.hid (take_snoc s k hlt)
      by_cases hc : lchB s[k] = true
      · have HN := Lib.hid (show (s.data.toList.take (k+1)).all lchB = true by
          rw [HT.out, List.all_append]; simp only [HA.out, List.all_cons, List.all_nil, hc, Bool.and_self])
        by_cases ha : alnumB s[k] = true
        · clear hc
          go_wp2_with (go_at_call 138; refine (alnum_any _ _).mono ?_; rintro e w' ⟨rfl, rfl⟩)
          go_round
          case rel => exact ⟨k + 1, by omega, by go_num, HN⟩
          case measure => simp [intOf]; omega
        · have ha' : alnumB s[k] = false := by simpa using ha
          have hq : ((s[k].toNat : Int) != 45) = false := by simp [lchB, ha'] at hc; simp [hc]
          clear hc ha
          go_wp2_with (go_at_call 138; refine (alnum_any _ _).mono ?_; rintro e w' ⟨rfl, rfl⟩)
          go_round
          case rel => exact ⟨k + 1, by omega, by go_num, HN⟩
          case measure => simp [intOf]; omega
      · have HN : Hid (labB s.data.toList = false) := by
          show labB s.data.toList = false
          rw [HL.out, List.all_eq_false]
          exact ⟨s[k], by rw [← sgetD s k hlt, List.getElem?_eq_getElem (by simpa using hlt)]; exact List.getElem_mem _, hc⟩
        have ha' : alnumB s[k] = false := by simp [lchB] at hc; exact hc.1
        have hq : ((s[k].toNat : Int) != 45) = true := by simp [lchB] at hc; simp; omega
        clear hc
        go_wp2_with (go_at_call 138; refine (alnum_any _ _).mono ?_; rintro e w' ⟨rfl, rfl⟩)
        go_ret
        exact ⟨ret_bool HN.out.symm, rfl⟩
    · go_wp2
      go_ret
      exact ⟨ret_bool (by rw [HL.out]; have := HA.out; rw [List.take_of_length_le (by simp; omega)] at this; exact this.symm), rfl⟩
/-- The row after k rounds. -/
def lowMix (k : Nat) (l : List UInt8) : List UInt8 := (l.take k).map lowB ++ l.drop k
theorem lowMix_length (k : Nat) (l : List UInt8) : (lowMix k l).length = l.length := by simp [lowMix]; omega
theorem lowMix_at (k : Nat) (l : List UInt8) (h : k < l.length) : (lowMix k l)[k]?.getD 0 = l[k]?.getD 0 := by
  simp [lowMix, List.getElem?_append, Nat.min_eq_left (Nat.le_of_lt h)]
theorem lowMix_succ (k : Nat) (l : List UInt8) (h : k < l.length) : lowMix (k + 1) l = (lowMix k l).set k (lowB (l[k]?.getD 0)) := by
  apply List.ext_getElem?
  intro i
  simp only [lowMix, List.getElem?_append, List.length_map, List.length_take, List.getElem?_set, List.getElem?_map, List.getElem?_take, List.getElem?_drop, List.length_append, List.length_drop]
  rcases Nat.lt_trichotomy i k with hi | hi | hi
  · rw [if_pos (by omega), if_pos (by omega), if_neg (by omega), if_pos (by omega), if_pos (by omega)]
  · subst hi
    rw [if_pos (by omega), if_pos (by omega), if_pos rfl, if_pos (by omega), List.getElem?_eq_getElem h]; rfl
  · rw [if_neg (by omega), if_neg (by omega), if_neg (by omega)]
    congr 1; omega
theorem lowMix_id (k : Nat) (l : List UInt8) (h : k < l.length) (hb : ¬ (65 ≤ (l[k]?.getD 0).toNat ∧ (l[k]?.getD 0).toNat ≤ 90)) : lowMix (k + 1) l = lowMix k l := by
  rw [lowMix_succ k l h, lowB, if_neg hb]
  apply List.ext_getElem?
  intro i
  rw [List.getElem?_set]
  split
  · rename_i hi; subst hi
    rw [if_pos (by rw [lowMix_length]; exact h), ← lowMix_at k l h, List.getElem?_eq_getElem (by rw [lowMix_length]; exact h)]; rfl
  · rfl
theorem add32 (b : UInt8) (h : b.toNat ≤ 90) : (b + 32).toNat = b.toNat + 32 := by
  rw [UInt8.toNat_add]; simp; omega

set_option maxRecDepth 100000 in
set_option maxHeartbeats 400000 in
theorem lower_ref (s : ByteArray) (w : World) (hs : s.size ≤ 60000) :
    Calls Tryz.prog 97 #[.string s] w fun e w' => e = .returned (.string ⟨(lower s.data.toList).toArray⟩) ∧ Below w.heap.size w w' := by
  have hcv := conv_bytes w s
  have HR := Lib.hid (BRow.of_bytes w s)
  have HB := bytes_below w s
  generalize (Lib.bytesCells w 5 s).size = cap at HR
  generalize Lib.bytesWorld w 5 s = W1 at hcv HR HB
  go_enter Tryz.func97, Tryz.ntmps97
  go_wp2_with (fail)
  go_loopw [4] (fun i wr => ∃ k : Nat, k ≤ s.size ∧ i = .int .i64 k ∧ Hid (BRow wr w.heap.size cap (lowMix k s.data.toList)) ∧ Below w.heap.size w wr) (fun i _ => s.size - (intOf i).toNat)
  case atStart => exact ⟨0, Nat.zero_le _, rfl, by simpa [lowMix] using HR, HB⟩
  case round =>
    obtain ⟨k, hk, rfl, HR, HB⟩ := hrel
    by_cases hlt : k < s.size
    · have hcell := HR.out.cell k (by rw [lowMix_length]; simpa using hlt)
      rw [lowMix_at k _ (by simpa using hlt), sgetD s k hlt] at hcell
      have HS := Lib.hid (sgetD s k hlt)
      generalize s[k] = c at hcell HS
      have hcb := c.toNat_lt
      have hfr := HR.out.frozen k (by rw [lowMix_length]; simpa using hlt)
      go_wp2_with (fail)
      · have hc1 : 65 ≤ (c.toNat : Int) := by assumption
        have hc2 : (c.toNat : Int) ≤ 90 := by assumption
        have HN := HR.out.set k (lowB c) (c.toNat + 32) (by simp [lowB, show 65 ≤ c.toNat by omega, show c.toNat ≤ 90 by omega, add32 c (by omega)])
        rw [← show lowMix (k + 1) s.data.toList = (lowMix k s.data.toList).set k (lowB c) by rw [lowMix_succ k _ (by simpa using hlt), HS.out]] at HN
        go_roundw
        case rel => exact ⟨k + 1, by omega, by go_num, HN, HB.setCell (Nat.le_refl _) _⟩
        case measure => simp [intOf]; omega
      all_goals
        have HN := HR.out
        rw [← lowMix_id k _ (by simpa using hlt) (by rw [HS.out]; omega)] at HN
        go_roundw
        case rel => exact ⟨k + 1, by omega, by go_num, HN, HB⟩
        case measure => simp [intOf]; omega
    · have hk' : k = s.size := by omega
      subst hk'
      have hback := conv_back (c := grownCap w s.size 0 5) HR.out s.size (by rw [lowMix_length]; simp)
      have HE := Lib.hid (show lowMix s.size s.data.toList = lower s.data.toList by rw [lowMix, ← size_len s, List.take_length, List.drop_length, List.append_nil, lower])
      generalize lowMix s.size s.data.toList = r at hback HE
      go_wp2
      go_ret
      exact ⟨ret_str (by rw [HE.out]), HB⟩

set_option maxRecDepth 100000 in
set_option maxHeartbeats 400000 in
theorem lower_tok (s : ByteArray) (w : World) (hs : s.size ≤ 60000) :
    Calls Tryz.prog 94 #[.string s] w fun e w' => e = .returned (.string ⟨(lower s.data.toList).toArray⟩) ∧ Below w.heap.size w w' := by
  have hcv := conv_bytes w s
  have HR := Lib.hid (BRow.of_bytes w s)
  have HB := bytes_below w s
  generalize (Lib.bytesCells w 5 s).size = cap at HR
  generalize Lib.bytesWorld w 5 s = W1 at hcv HR HB
  go_enter Tryz.func94, Tryz.ntmps94
  go_wp2_with (fail)
  go_loopw [10] (fun i wr => ∃ k : Nat, k ≤ s.size ∧ i = .int .i64 k ∧ Hid (BRow wr w.heap.size cap (lowMix k s.data.toList)) ∧ Below w.heap.size w wr) (fun i _ => s.size - (intOf i).toNat)
  case atStart => exact ⟨0, Nat.zero_le _, rfl, by simpa [lowMix] using HR, HB⟩
  case round =>
    obtain ⟨k, hk, rfl, HR, HB⟩ := hrel
    by_cases hlt : k < s.size
    · have hcell := HR.out.cell k (by rw [lowMix_length]; simpa using hlt)
      rw [lowMix_at k _ (by simpa using hlt), sgetD s k hlt] at hcell
      have HS := Lib.hid (sgetD s k hlt)
      generalize s[k] = c at hcell HS
      have hcb := c.toNat_lt
      have hfr := HR.out.frozen k (by rw [lowMix_length]; simpa using hlt)
      go_wp2_with (fail)
      · have hc1 : 65 ≤ (c.toNat : Int) := by assumption
        have hc2 : (c.toNat : Int) ≤ 90 := by assumption
        have HN := HR.out.set k (lowB c) (c.toNat + 32) (by simp [lowB, show 65 ≤ c.toNat by omega, show c.toNat ≤ 90 by omega, add32 c (by omega)])
        rw [← show lowMix (k + 1) s.data.toList = (lowMix k s.data.toList).set k (lowB c) by rw [lowMix_succ k _ (by simpa using hlt), HS.out]] at HN
        go_roundw
        case rel => exact ⟨k + 1, by omega, by go_num, HN, HB.setCell (Nat.le_refl _) _⟩
        case measure => simp [intOf]; omega
      all_goals
        have HN := HR.out
        rw [← lowMix_id k _ (by simpa using hlt) (by rw [HS.out]; omega)] at HN
        go_roundw
        case rel => exact ⟨k + 1, by omega, by go_num, HN, HB⟩
        case measure => simp [intOf]; omega
    · have hk' : k = s.size := by omega
      subst hk'
      have hback := conv_back (c := grownCap w s.size 0 5) HR.out s.size (by rw [lowMix_length]; simp)
      have HE := Lib.hid (show lowMix s.size s.data.toList = lower s.data.toList by rw [lowMix, ← size_len s, List.take_length, List.drop_length, List.append_nil, lower])
      generalize lowMix s.size s.data.toList = r at hback HE
      go_wp2
      go_ret
      exact ⟨ret_str (by rw [HE.out]), HB⟩

/-- A call that hands back a new slice of strings. -/
def RetStrs (w : World) (L : List (List UInt8)) (e : Ending) (w' : World) : Prop :=
  ∃ v, e = .returned v ∧ w'.ownsRow w.heap.size 9 1 v L.length (L.map S) ∧ Below w.heap.size w w'

set_option maxRecDepth 100000 in
set_option maxHeartbeats 800000 in
theorem labels_ref (s : ByteArray) (w : World) (hs : s.size ≤ 60000) :
    Calls Tryz.prog 88 #[.string s] w (RetStrs w (segs 46 s.data.toList)) := by
  go_enter Tryz.func88, Tryz.ntmps88
  go_wp2_with (fail)
  go_loopw [3, 4, 5] (fun v f i wr => ∃ (k fn : Nat) (D : List (List UInt8)), k ≤ s.size + 1 ∧ i = .int .i64 k ∧ f = .int .i64 fn ∧ Hid (SegAt s.data.toList 46 k fn D) ∧ wr.ownsRow w.heap.size 9 1 v D.length (D.map S) ∧ Below w.heap.size w wr) (fun _ _ i _ => s.size + 1 - (intOf i).toNat)
  case atStart => exact ⟨0, 0, [], by omega, rfl, rfl, SegAt.start _ _, World.ownsRow_nil _ _ _ _, Below.refl _ _⟩
  case round =>
    obtain ⟨k, fn, D, hk, rfl, rfl, HG, hown, HB⟩ := hrel
    have hD := HG.out.dle
    rw [size_len] at hD
    by_cases hend : k = s.size + 1
    · have HE := Lib.hid (HG.out.fin (by rw [size_len]; omega))
      subst hend
      go_wp2_with (fail)
      go_ret
      exact ⟨_, rfl, by rw [← HE.out]; exact hown, HB⟩
    by_cases hlast : k = s.size
    · have hfn := HG.out.le (by rw [size_len]; omega)
      subst hlast
      have HN := Lib.hid (by have := HG.out; rw [← size_len s] at this; exact this.last)
      have hsz := HB.size
      have hlast : ((s.size : Int) == (s.size : Int)) = true := by simp
      go_wp2_with (at_builtin; refine wpApp9 rfl _ _ rfl hown HB rfl rfl (by omega) (by omega) (by omega) ?_)
      intro v' w' hown' HB'
      rw [S_extract, ← List.map_singleton (f := S), ← List.map_append] at hown'
      clear hown HB
      go_wp2_with (fail)
      go_roundw
      case rel => exact ⟨s.size + 1, s.size + 1, _, by omega, by go_num, by go_num, HN.out, by simpa using hown', HB'⟩
      case measure => (simp [intOf]; try omega)
    · have hlt : k < s.size := by omega
      have hfn := HG.out.le (by rw [size_len]; omega)
      have hsz := HB.size
      have HS := Lib.hid (sgetD s k hlt)
      have hne : ((k : Int) == (s.size : Int)) = false := by rw [beq_eq_false_iff_ne]; omega
      by_cases hc : s[k].toNat = 46
      · have hc' : ((s[k].toNat : Int) == 46) = true := by simp; omega
        have HN := Lib.hid (HG.out.hit (by rw [size_len]; exact hlt) (by rw [HS.out]; exact UInt8.toNat_inj.1 hc))
        clear hc
        go_wp2_with (at_builtin; refine wpApp9 rfl _ _ rfl hown HB rfl rfl (by omega) (by omega) (by omega) ?_)
        intro v' w' hown' HB'
        rw [S_extract, ← List.map_singleton (f := S), ← List.map_append] at hown'
        clear hown HB
        go_wp2_with (fail)
        go_roundw
        case rel => exact ⟨k + 1, k + 1, _, by omega, by go_num, by go_num, HN.out, by simpa using hown', HB'⟩
        case measure => (simp [intOf]; try omega)
      · have hc' : ((s[k].toNat : Int) == 46) = false := by simp; omega
        have HN := Lib.hid (HG.out.skip (by rw [size_len]; exact hlt) (by rw [HS.out]; intro e; rw [e] at hc; exact hc rfl))
        clear hc
        go_wp2_with (fail)
        go_roundw
        case rel => exact ⟨k + 1, fn, D, by omega, by go_num, rfl, HN.out, hown, HB⟩
        case measure => (simp [intOf]; try omega)

end Go.Proofs.YteigjobliflkdaaGreatDoor
/- Plain: the laws of hosts made of numbers, and of normal hosts. No program stands here. -/
namespace Go.Proofs.YteigjobliflkdaaGreatDoor
open Go

/-! Hosts made of numbers -/
def madeNames : List (List UInt8) := [[97], [98], [65], [120, 46, 97], [88, 46, 65], [97, 46, 111, 114, 103], [98, 46, 97, 46, 111, 114, 103], [120, 97], [97, 45, 98, 46, 111, 114, 103], [49, 46, 50]]
def madePorts : List (List UInt8) := [[], [58, 56, 48], [58, 48, 56, 48], [58, 56, 49], [58, 56, 48, 56, 48], [58, 49], [58, 54, 53, 53, 51, 53]]
def madePort : List Int := [80, 80, 80, 81, 8080, 1, 65535]
def madeRank : List Int := [1, 3, 1, 2, 2, 4, 5, 7, 6, 0]
def madeN (i : Nat) : List UInt8 := (madeNames[i]?.getD [])
def madeP (j : Nat) : List UInt8 := (madePorts[j]?.getD [])
def madeI (j : Nat) : Int := (madePort[j]?.getD 0)
def madeR (i : Nat) : Int := (madeRank[i]?.getD 0)
def isOk (r : Except Int (List UInt8 × Int)) (n : List UInt8) (p : Int) : Bool := match r with
  | .ok x => x.1 == n && x.2 == p
  | .error _ => false
theorem isOk_eq {r : Except Int (List UInt8 × Int)} {n : List UInt8} {p : Int} (h : isOk r n p = true) : r = .ok (n, p) := by
  cases r with
  | error e => simp [isOk] at h
  | ok x => obtain ⟨a, b⟩ := x; simp [isOk] at h; obtain ⟨rfl, rfl⟩ := h; rfl
theorem all_range {n : Nat} {f : Nat → Bool} (h : (List.range n).all f = true) (i : Nat) (hi : i < n) : f i = true :=
  List.all_eq_true.1 h i (List.mem_range.2 hi)
theorem all_range2 {n m : Nat} {f : Nat → Nat → Bool} (h : ((List.range n).all fun i => (List.range m).all (f i)) = true) (i j : Nat) (hi : i < n) (hj : j < m) : f i j = true :=
  all_range (all_range h i hi) j hj
theorem made_split (i j : Nat) (hi : i < 10) (hj : j < 7) : hostSplit (madeN i ++ madeP j) = .ok (lower (madeN i), madeI j) :=
  isOk_eq (all_range2 (f := fun i j => isOk (hostSplit (madeN i ++ madeP j)) (lower (madeN i)) (madeI j)) (by kernel_rfl) i j hi hj)
theorem made_cmpL (i i' : Nat) (hi : i < 10) (hi' : i' < 10) : cmpL (segs 46 (lower (madeN i))).reverse (segs 46 (lower (madeN i'))).reverse = cmpI (madeR i) (madeR i') := by
  have := all_range2 (n := 10) (m := 10) (f := fun i i' => decide (cmpL (segs 46 (lower (madeN i))).reverse (segs 46 (lower (madeN i'))).reverse = cmpI (madeR i) (madeR i'))) (by kernel_rfl) i i' hi hi'
  simpa using this
theorem made_same (i i' : Nat) (hi : i < 10) (hi' : i' < 10) : (lower (madeN i) == lower (madeN i')) = decide (madeR i = madeR i') := by
  have := all_range2 (n := 10) (m := 10) (f := fun i i' => (lower (madeN i) == lower (madeN i')) == decide (madeR i = madeR i')) (by kernel_rfl) i i' hi hi'
  simpa using this
theorem made_written (i j : Nat) (hi : i < 10) (hj : j < 7) : hostNormal (madeN i ++ madeP j) = .ok (hostWrite (lower (madeN i)) (madeI j)) := by
  have h := all_range2 (n := 10) (m := 7) (f := fun i j => decide ((hostWrite (lower (madeN i)) (madeI j)).length ≤ 64)) (by kernel_rfl) i j hi hj
  have h : (hostWrite (lower (madeN i)) (madeI j)).length ≤ 64 := of_decide_eq_true h
  unfold hostNormal; rw [made_split i j hi hj]
  show hostWritten (lower (madeN i)) (madeI j) = _
  unfold hostWritten; rw [if_neg (by omega)]
theorem made_len (i j : Nat) (hi : i < 10) (hj : j < 7) : (madeN i ++ madeP j).length ≤ 60 := by
  have h := all_range2 (n := 10) (m := 7) (f := fun i j => decide ((madeN i ++ madeP j).length ≤ 60)) (by kernel_rfl) i j hi hj
  exact of_decide_eq_true h

/-! Writing and reading back -/
theorem lowB_idem (b : UInt8) : lowB (lowB b) = lowB b := by
  unfold lowB
  by_cases h : 65 ≤ b.toNat ∧ b.toNat ≤ 90
  · rw [if_pos h, if_neg]
    intro ⟨_, h2⟩
    rw [UInt8.toNat_add] at h2
    have : (32 : UInt8).toNat = 32 := rfl
    rw [this] at h2
    omega
  · rw [if_neg h, if_neg h]
theorem lower_idem (l : List UInt8) : lower (lower l) = lower l := by simp [lower, lowB_idem]
theorem lowB_ne {c : UInt8} (hc : c.toNat < 65) (b : UInt8) : lowB b = c ↔ b = c := by
  unfold lowB
  by_cases h : 65 ≤ b.toNat ∧ b.toNat ≤ 90
  · rw [if_pos h]
    constructor
    · intro e
      have := congrArg UInt8.toNat e
      rw [UInt8.toNat_add, show (32 : UInt8).toNat = 32 from rfl] at this
      omega
    · intro e; subst e; omega
  · rw [if_neg h]
theorem segs_lower (c : UInt8) (hc : c.toNat < 65) : ∀ l : List UInt8, segs c (lower l) = (segs c l).map lower
  | [] => rfl
  | b :: l => by
    have ih := segs_lower c hc l
    show segs c (lowB b :: lower l) = _
    unfold segs
    by_cases h : b = c
    · rw [if_pos h, if_pos ((lowB_ne hc b).2 h), ih]; rfl
    · rw [if_neg h, if_neg (fun e => h ((lowB_ne hc b).1 e)), ih]
      cases segs c l with
      | nil => rfl
      | cons a t => rfl
theorem lowB_lch (b : UInt8) (h : lchB b = true) : lchB (lowB b) = true := by
  unfold lowB
  by_cases hb : 65 ≤ b.toNat ∧ b.toNat ≤ 90
  · rw [if_pos hb]
    have : (b + 32).toNat = b.toNat + 32 := by rw [UInt8.toNat_add, show (32 : UInt8).toNat = 32 from rfl]; omega
    simp only [lchB, alnumB, digitB, this, Bool.or_eq_true, Bool.and_eq_true, decide_eq_true_eq]; omega
  · rw [if_neg hb]; exact h
theorem lowB_45 (b : UInt8) : (lowB b).toNat = 45 ↔ b.toNat = 45 := by
  have h := lowB_ne (c := 45) (by decide) b
  constructor
  · intro e; exact congrArg UInt8.toNat (h.1 (UInt8.toNat_inj.1 e))
  · intro e; exact congrArg UInt8.toNat (h.2 (UInt8.toNat_inj.1 e))
theorem labB_iff (l : List UInt8) : labB l = true ↔ 1 ≤ l.length ∧ l.length ≤ 63 ∧ (l[0]?.getD 0).toNat ≠ 45 ∧ (l[l.length-1]?.getD 0).toNat ≠ 45 ∧ ∀ b ∈ l, lchB b = true := by
  simp only [labB, Bool.and_eq_true, decide_eq_true_eq, Bool.not_eq_true', decide_eq_false_iff_not, List.all_eq_true]
  constructor
  · rintro ⟨⟨⟨⟨a, b⟩, c⟩, d⟩, e⟩; exact ⟨a, b, c, d, e⟩
  · rintro ⟨a, b, c, d, e⟩; exact ⟨⟨⟨⟨a, b⟩, c⟩, d⟩, e⟩
theorem labB_lower (l : List UInt8) (h : labB l = true) : labB (lower l) = true := by
  rw [labB_iff] at h ⊢
  obtain ⟨h1, h2, h3, h4, h5⟩ := h
  have hg : ∀ i, i < l.length → ((lower l)[i]?.getD 0) = lowB (l[i]?.getD 0) := by
    intro i hi
    rw [lower, List.getElem?_map, List.getElem?_eq_getElem hi]; rfl
  refine ⟨by rw [lower_length]; exact h1, by rw [lower_length]; exact h2, ?_, ?_, ?_⟩
  · rw [hg 0 (by omega)]; intro e; exact h3 ((lowB_45 _).1 e)
  · rw [lower_length, hg _ (by omega)]; intro e; exact h4 ((lowB_45 _).1 e)
  · intro b hb
    obtain ⟨a, ha, rfl⟩ := List.mem_map.1 hb
    exact lowB_lch a (h5 a ha)
theorem segs_all_mem (c : UInt8) : ∀ (l : List UInt8) (b : UInt8), b ∈ l → b = c ∨ ∃ x ∈ segs c l, b ∈ x
  | [], b, h => by simp at h
  | a :: l, b, h => by
    unfold segs
    by_cases e : a = c
    · rw [if_pos e]
      rcases List.mem_cons.1 h with rfl | h
      · exact .inl e
      · rcases segs_all_mem c l b h with h | ⟨x, hx, hb⟩
        · exact .inl h
        · exact .inr ⟨x, List.mem_cons_of_mem _ hx, hb⟩
    · rw [if_neg e]
      cases hs : segs c l with
      | nil => exact absurd hs (segs_ne c l)
      | cons s t =>
        simp only
        rcases List.mem_cons.1 h with rfl | h
        · exact .inr ⟨_, List.mem_cons_self .., List.mem_cons_self ..⟩
        · rcases segs_all_mem c l b h with h | ⟨x, hx, hb⟩
          · exact .inl h
          · rw [hs] at hx
            rcases List.mem_cons.1 hx with rfl | hx
            · exact .inr ⟨_, List.mem_cons_self .., List.mem_cons_of_mem _ hb⟩
            · exact .inr ⟨x, List.mem_cons_of_mem _ hx, hb⟩
/-- A name of good labels has no colon. -/
theorem labs_free {l : List UInt8} (h : (segs 46 l).all labB = true) : ∀ b ∈ l, b ≠ 58 := by
  intro b hb e
  subst e
  rcases segs_all_mem 46 l 58 hb with h' | ⟨x, hx, hbx⟩
  · exact absurd h' (by decide)
  · have := (labB_iff x).1 (List.all_eq_true.1 h x hx)
    exact absurd (this.2.2.2.2 58 hbx) (by decide)
theorem cut1_fst_free (c : UInt8) : ∀ l : List UInt8, ∀ b ∈ (cut1 c l).1, b ≠ c
  | [], b, h => by simp [cut1] at h
  | a :: l, b, h => by
    by_cases e : a = c
    · subst e; simp [cut1] at h
    · simp only [cut1, if_neg e] at h
      rcases List.mem_cons.1 h with rfl | h
      · exact e
      · exact cut1_fst_free c l b h
/-- What Split asks of the name and the port that it hands back. -/
def NameOK (n : List UInt8) (p : Int) : Prop := (segs 46 n).all labB = true ∧ n.length ≤ 64 ∧ 1 ≤ p ∧ p ≤ 65535 ∧ lower n = n
theorem NameOK.of {l n : List UInt8} {p : Int} (h : hostSplit l = .ok (n, p)) : NameOK n p := by
  have hk := hostSplit_ok h
  refine ⟨?_, hk.2.2.1, hk.1, hk.2.1, by rw [hk.2.2.2.2, lower_idem]⟩
  unfold hostSplit at h
  split at h
  · cases h
  split at h
  · cases h
  split at h
  · cases h
  rename_i h1 h2 h3
  rw [hk.2.2.2.2, segs_lower 46 (by decide), List.all_map]
  rw [List.all_eq_true]
  intro x hx
  have h3' : (segs 46 (cut1 58 l).1).all labB = true := by simpa using h3
  exact labB_lower x (List.all_eq_true.1 h3' x hx)
theorem dec_digits : ∀ n : Nat, (Lib.decDigits n).all digitB = true ∧ decVal (Lib.decDigits n) = n := by
  intro n
  induction n using Nat.strongRecOn with
  | ind n ih =>
    have one : ∀ k, k < 10 → digitB (UInt8.ofNat (48 + k)) = true ∧ (UInt8.ofNat (48 + k)).toNat - 48 = k := by decide
    by_cases h : n < 10
    · rw [Lib.decDigits_one h]
      obtain ⟨h1, h2⟩ := one n h
      exact ⟨by rw [List.all_cons, List.all_nil, h1]; rfl, by show 10 * 0 + ((UInt8.ofNat (48 + n)).toNat - 48) = n; rw [h2]; omega⟩
    · rw [Lib.decDigits, dif_neg h]
      obtain ⟨i1, i2⟩ := ih (n / 10) (by omega)
      obtain ⟨h1, h2⟩ := one (n % 10) (by omega)
      refine ⟨?_, ?_⟩
      · rw [List.all_append, i1, List.all_cons, List.all_nil, h1]; rfl
      · rw [decVal_snoc, i2, h2]; omega
theorem itoa_port {p : Int} (h1 : 1 ≤ p) (h2 : p ≤ 65535) : digsOK (Lib.itoa p) = true ∧ decVal (Lib.itoa p) = p.toNat ∧ ∀ b ∈ Lib.itoa p, b ≠ 58 := by
  obtain ⟨n, rfl⟩ := Int.eq_ofNat_of_zero_le (show 0 ≤ p by omega)
  rw [Lib.itoa_nonneg n]
  obtain ⟨a, b⟩ := dec_digits n
  have hl : 1 ≤ (Lib.decDigits n).length ∧ (Lib.decDigits n).length ≤ 5 := by
    have e : ∀ m : Nat, ∀ k, m < 10 ^ (k+1) → 1 ≤ (Lib.decDigits m).length ∧ (Lib.decDigits m).length ≤ k + 1 := by
      intro m k
      induction k generalizing m with
      | zero => intro h; rw [Lib.decDigits_one (by omega)]; simp
      | succ k ih =>
        intro h
        by_cases h10 : m < 10
        · rw [Lib.decDigits_one h10]; simp
        · rw [Lib.decDigits, dif_neg h10]
          have := ih (m / 10) (by rw [Nat.pow_succ] at h; omega)
          simp; omega
    exact e n 4 (by omega)
  refine ⟨by simp only [digsOK, Bool.and_eq_true, decide_eq_true_eq]; exact ⟨hl, a⟩, by rw [b]; omega, ?_⟩
  intro x hx e
  subst e
  exact absurd (List.all_eq_true.1 a 58 hx) (by decide)
theorem cut1_write {n r : List UInt8} (h : ∀ b ∈ n, b ≠ 58) : cut1 58 (n ++ 58 :: r) = (n, r, true) := by
  induction n with
  | nil => simp [cut1]
  | cons b n ih =>
    rw [List.cons_append, cut1, if_neg (h b (by simp)), ih fun x hx => h x (by simp [hx])]
/-- What was written is split again. -/
theorem split_write {n : List UInt8} {p : Int} (h : NameOK n p) : hostSplit (hostWrite n p) = .ok (n, p) := by
  obtain ⟨h1, h2, h3, h4, h5⟩ := h
  have hf := labs_free h1
  unfold hostWrite
  by_cases h80 : p = 80
  · rw [if_pos h80]
    have hc : cut1 58 n = (n, [], false) := cut1_free hf
    rw [(show Stage1 n n 80 from ⟨by rw [hc], .inl ⟨by rw [hc], rfl⟩⟩).split (by omega), if_neg (by rw [h1]; decide), if_neg (by omega), if_neg (by decide), h5, h80]
  · rw [if_neg h80]
    have hc := cut1_write (r := Lib.itoa p) hf
    obtain ⟨d1, d2, d3⟩ := itoa_port h3 h4
    have hl : (Lib.itoa p).length ≤ 5 := by simp only [digsOK, Bool.and_eq_true, decide_eq_true_eq] at d1; exact d1.1.2
    rw [(show Stage1 (n ++ 58 :: Lib.itoa p) n p from ⟨by rw [hc], .inr ⟨by rw [hc], by rw [hc]; exact d1, by rw [hc, d2]; omega⟩⟩).split (by simp; omega), if_neg (by rw [h1]; decide), if_neg (by omega), if_neg (by omega), h5]
theorem normal_normal {l t : List UInt8} (h : hostNormal l = .ok t) : hostNormal t = .ok t := by
  have h0 := h
  unfold hostNormal at h
  split at h
  · cases h
  rename_i x hx
  obtain ⟨n, p⟩ := x
  simp only at h
  have hk := NameOK.of hx
  have ht : hostWrite n p = t := by
    unfold hostWritten at h
    split at h
    · cases h
    · injection h
  unfold hostNormal
  rw [← ht, split_write hk]
  show hostWritten n p = _
  rw [h, ht]
theorem is_normal {l t : List UInt8} (h : hostNormal l = .ok t) : hostIs t = true := by
  unfold hostIs; rw [normal_normal h]; simp
theorem write_inj {n m : List UInt8} {p q : Int} (h : NameOK n p) (k : NameOK m q) (e : hostWrite n p = hostWrite m q) : n = m ∧ p = q := by
  have h1 := split_write h
  have h2 := split_write k
  rw [e, h2] at h1
  injection h1 with h1
  injection h1 with a b
  exact ⟨a.symm, b.symm⟩
/-- Two hosts are the same exactly if their normal forms are. -/
theorem same_iff {a b : List UInt8} {p q : List UInt8} (h : hostNormal a = .ok p) (k : hostNormal b = .ok q) : hostSame a b = (decide (p = q), 0) := by
  unfold hostNormal at h k
  split at h
  · cases h
  rename_i x hx
  split at k
  · cases k
  rename_i y hy
  obtain ⟨n, i⟩ := x
  obtain ⟨m, j⟩ := y
  simp only at h k
  have hp : hostWrite n i = p := by unfold hostWritten at h; split at h; · cases h
                                    · injection h
  have hq : hostWrite m j = q := by unfold hostWritten at k; split at k; · cases k
                                    · injection k
  unfold hostSame
  rw [hx, hy]
  simp only
  congr 1
  rw [Bool.eq_iff_iff]
  simp only [Bool.and_eq_true, beq_iff_eq, decide_eq_true_eq]
  constructor
  · rintro ⟨rfl, rfl⟩; rw [← hp, ← hq]
  · intro e; rw [← hp, ← hq] at e; exact write_inj (NameOK.of hx) (NameOK.of hy) e
/-- Join undoes Split. -/
theorem join_unsplit {a n t : List UInt8} {p : Int} (h : hostSplit a = .ok (n, p)) (k : hostNormal a = .ok t) : hostJoin n p = .ok t := by
  have hk := NameOK.of h
  have h80 : hostWrite n 80 = n := by simp [hostWrite]
  have hn : hostSplit n = .ok (n, 80) := by
    have := split_write (n := n) (p := 80) ⟨hk.1, hk.2.1, by decide, by decide, hk.2.2.2.2⟩
    rwa [h80] at this
  unfold hostJoin
  rw [hn]
  simp only
  rw [if_neg (by simp), if_neg (by have := hk.2.2; omega)]
  unfold hostNormal at k
  rw [h] at k
  exact k

/-! Under -/
theorem under_eq {a b n m : List UInt8} {p q : Int} (h : hostSplit a = .ok (n, p)) (k : hostSplit b = .ok (m, q)) : hostUnder a b = ((segs 46 m).isSuffixOf (segs 46 n), 0) := by
  unfold hostUnder; rw [h, k]
/-! Order -/
theorem compare_made (i j i' j' : Nat) (hi : i < 10) (hj : j < 7) (hi' : i' < 10) (hj' : j' < 7) :
    hostCompare (madeN i ++ madeP j) (madeN i' ++ madeP j') = (if cmpI (madeR i) (madeR i') = 0 then cmpI (madeI j) (madeI j') else cmpI (madeR i) (madeR i'), 0) := by
  unfold hostCompare; rw [made_split i j hi hj, made_split i' j' hi' hj']
  simp only [hostCmp]
  rw [made_cmpL i i' hi hi']
theorem same_made (i j i' j' : Nat) (hi : i < 10) (hj : j < 7) (hi' : i' < 10) (hj' : j' < 7) :
    hostSame (madeN i ++ madeP j) (madeN i' ++ madeP j') = (decide (madeR i = madeR i') && decide (madeI j = madeI j'), 0) := by
  unfold hostSame; rw [made_split i j hi hj, made_split i' j' hi' hj']
  simp only
  rw [made_same i i' hi hi']
  congr 1
theorem cmpI_cases (a b : Int) : (a < b ∧ cmpI a b = -1) ∨ (a = b ∧ cmpI a b = 0) ∨ (b < a ∧ cmpI a b = 1) := by
  unfold cmpI
  split
  · exact .inl ⟨by assumption, rfl⟩
  · split
    · exact .inr (.inr ⟨by assumption, rfl⟩)
    · exact .inr (.inl ⟨by omega, rfl⟩)
/-- The order of ranks. -/
def ord2 (a b c d : Int) : Int := if cmpI a c = 0 then cmpI b d else cmpI a c
theorem ord2_cases (a b c d : Int) : ((a < c ∨ (a = c ∧ b < d)) ∧ ord2 a b c d = -1) ∨ ((a = c ∧ b = d) ∧ ord2 a b c d = 0) ∨ ((c < a ∨ (a = c ∧ d < b)) ∧ ord2 a b c d = 1) := by
  unfold ord2
  rcases cmpI_cases a c with ⟨h, e⟩ | ⟨h, e⟩ | ⟨h, e⟩ <;> rw [e]
  · exact .inl ⟨.inl h, by simp⟩
  · rcases cmpI_cases b d with ⟨k, f⟩ | ⟨k, f⟩ | ⟨k, f⟩ <;> rw [f]
    · exact .inl ⟨.inr ⟨h, k⟩, by simp⟩
    · exact .inr (.inl ⟨⟨h, k⟩, by simp⟩)
    · exact .inr (.inr ⟨.inr ⟨h, k⟩, by simp⟩)
  · exact .inr (.inr ⟨.inl h, by simp⟩)
theorem ord2_range (a b c d : Int) : -1 ≤ ord2 a b c d ∧ ord2 a b c d ≤ 1 := by
  rcases ord2_cases a b c d with ⟨_, e⟩ | ⟨_, e⟩ | ⟨_, e⟩ <;> rw [e] <;> decide
theorem ord2_anti (a b c d : Int) : ord2 c d a b = - ord2 a b c d := by
  rcases ord2_cases a b c d with ⟨h, e⟩ | ⟨h, e⟩ | ⟨h, e⟩ <;> rcases ord2_cases c d a b with ⟨k, f⟩ | ⟨k, f⟩ | ⟨k, f⟩ <;> rw [e, f] <;> first | rfl | (exfalso; omega)
theorem ord2_zero (a b c d : Int) : ord2 a b c d = 0 ↔ a = c ∧ b = d := by
  rcases ord2_cases a b c d with ⟨h, e⟩ | ⟨h, e⟩ | ⟨h, e⟩ <;> rw [e] <;> constructor <;> intro k <;> first | (exfalso; omega) | omega
theorem ord2_le (a b c d e f : Int) (h : ord2 a b c d ≤ 0) (k : ord2 c d e f ≤ 0) : ord2 a b e f ≤ 0 := by
  rcases ord2_cases a b c d with ⟨h1, h2⟩ | ⟨h1, h2⟩ | ⟨h1, h2⟩ <;> rw [h2] at h <;> rcases ord2_cases c d e f with ⟨k1, k2⟩ | ⟨k1, k2⟩ | ⟨k1, k2⟩ <;> rw [k2] at k <;> rcases ord2_cases a b e f with ⟨l1, l2⟩ | ⟨l1, l2⟩ | ⟨l1, l2⟩ <;> rw [l2] <;> first | omega | (exfalso; omega)
theorem ord2_lt (a b c d e f : Int) (h : ord2 a b c d < 0) (k : ord2 c d e f ≤ 0) : ord2 a b e f < 0 := by
  rcases ord2_cases a b c d with ⟨h1, h2⟩ | ⟨h1, h2⟩ | ⟨h1, h2⟩ <;> rw [h2] at h <;> rcases ord2_cases c d e f with ⟨k1, k2⟩ | ⟨k1, k2⟩ | ⟨k1, k2⟩ <;> rw [k2] at k <;> rcases ord2_cases a b e f with ⟨l1, l2⟩ | ⟨l1, l2⟩ | ⟨l1, l2⟩ <;> rw [l2] <;> first | omega | (exfalso; omega)
end Go.Proofs.YteigjobliflkdaaGreatDoor
