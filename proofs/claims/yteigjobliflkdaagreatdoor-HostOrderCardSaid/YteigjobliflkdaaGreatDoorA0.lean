/- Small lemmas for all walks of this seat: bytes, strings, rows of bytes behind '[]byte(s)'. No walk stands here. -/
import Derived.Test.YteigjobliflkdaaGreatDoorProg
import Derived.WalkKit
import Derived.WalkLawsBesides
import Derived.WalkSpells
import Derived.BigQuiet
import Derived.Deep.QuietTactic
import Derived.Lib.Hide
import Derived.Lib.Strings
import Derived.Lib.ConvBytes
import Derived.Lib.BufferMore
import Derived.Maps.AppendAt
namespace Go.Proofs.YteigjobliflkdaaGreatDoor
open Go.RowKit

theorem ret_bool {a b : Bool} (h : a = b) : Ending.returned (.bool a) = .returned (.bool b) := by rw [h]
theorem ret_int {k : IntKind} {a b : Int} (h : a = b) : Ending.returned (.int k a) = .returned (.int k b) := by rw [h]
theorem ret_str {a b : ByteArray} (h : a = b) : Ending.returned (.string a) = .returned (.string b) := by rw [h]

theorem take_snoc (s : ByteArray) (k : Nat) (h : k < s.size) : s.data.toList.take (k + 1) = s.data.toList.take k ++ [s[k]] := by
  rw [List.take_succ_eq_append_getElem (by simpa using h)]; rfl
theorem drop_cons (s : ByteArray) (k : Nat) (h : k < s.size) : s.data.toList.drop k = s[k] :: s.data.toList.drop (k + 1) := by
  rw [List.drop_eq_getElem_cons (by simpa using h)]; rfl
theorem sgetD (s : ByteArray) (k : Nat) (h : k < s.size) : s.data.toList[k]?.getD 0 = s[k] := by
  rw [List.getElem?_eq_getElem (by simpa using h)]; rfl
theorem size_len (s : ByteArray) : s.data.toList.length = s.size := by simp
theorem bs_nil {s : ByteArray} (h : s.size = 0) : s.toList = [] := by
  have : s = ByteArray.empty := by
    cases s with | mk d => simp [ByteArray.size] at h; subst h; rfl
  subst this; rw [Lib.toList_data]; rfl
theorem bs_ne {s : ByteArray} (h : 0 < s.size) : s.toList.isEmpty = false := by
  rw [Lib.toList_data]
  cases hl : s.data.toList with
  | nil => have := size_len s; rw [hl] at this; simp at this; omega
  | cons a b => rfl
theorem bs_mk (s : ByteArray) : (⟨s.data.toList.toArray⟩ : ByteArray) = s := by simp

/-- A row of bytes in block b: what '[]byte(s)' lays: capacity cap, its first bytes are l; the mark lies behind the last cell. -/
def BRow (w : World) (b cap : Nat) (l : List UInt8) : Prop :=
  ∃ cs, w.heap[b]? = some (.cells cs 5 (cap, cap + 1)) ∧ cs.size = cap ∧ l.length ≤ cap ∧ cs.toList.take l.length = l.map fun c => Value.int .u8 c.toNat

theorem BRow.cell {w : World} {b cap : Nat} {l : List UInt8} (h : BRow w b cap l) (j : Nat) (hj : j < l.length) : w.cell? ⟨b, j, none⟩ = some (.int .u8 (l[j]?.getD 0).toNat) := by
  obtain ⟨cs, hb, hc, hl, ht⟩ := h
  rw [cell_of_row w b j cs 5 _ hb]
  have h1 : (cs.toList.take l.length)[j]? = (l.map fun c => Value.int .u8 c.toNat)[j]? := by rw [ht]
  rw [List.getElem?_take, if_pos hj] at h1
  simp only [Array.getElem?_toList, List.getElem?_map, List.getElem?_eq_getElem hj, Option.map_some] at h1
  rw [h1]; simp [List.getElem?_eq_getElem hj]

theorem BRow.frozen {w : World} {b cap : Nat} {l : List UInt8} (h : BRow w b cap l) (j : Nat) (hj : j < l.length) : w.frozen? ⟨b, j, none⟩ = false := by
  obtain ⟨cs, hb, hc, hl, ht⟩ := h
  unfold World.frozen?
  simp only [hb]
  simp; omega

theorem BRow.set {w : World} {b cap : Nat} {l : List UInt8} (h : BRow w b cap l) (j : Nat) (x : UInt8) (y : Int) (hy : y = x.toNat) :
    BRow (w.setCell ⟨b, j, none⟩ (.int .u8 y)) b cap (l.set j x) := by
  subst hy
  obtain ⟨cs, hb, hc, hl, ht⟩ := h
  refine ⟨cs.setIfInBounds j (.int .u8 x.toNat), Lib.heap_setCell_same hb _, by simpa using hc, by simpa using hl, ?_⟩
  rw [List.length_set, Array.toList_setIfInBounds, List.take_set, ht, List.map_set]

theorem BRow.of_bytes (w : World) (s : ByteArray) : BRow (Lib.bytesWorld w 5 s) w.heap.size (Lib.bytesCells w 5 s).size s.data.toList := by
  refine ⟨_, Lib.bytesWorld_at_new w 5 s, rfl, by simp [Lib.bytesCells], ?_⟩
  simp [Lib.bytesCells]

theorem bytes_below (w : World) (s : ByteArray) : Below w.heap.size w (Lib.bytesWorld w 5 s) := by
  refine ⟨?_, ?_, ?_, by rw [Lib.bytesWorld_size]; omega, fun k hk => Lib.bytesWorld_at_old w 5 s k hk⟩
  all_goals simp [Lib.bytesWorld, World.freeze, World.alloc, World.drew, -World.alloc_eq, -World.drew_eq]

theorem bytes_cap (w : World) (s : ByteArray) : (Lib.bytesCells w 5 s).size = grownCap w s.size 0 5 := by
  have := grownCap_ge w s.size 0 5
  simp [Lib.bytesCells]; omega

/-- '[]byte(s)' at this program's types. -/
theorem conv_bytes (w : World) (s : ByteArray) :
    (convert 9 75 (.string s)).run Tryz.prog w = .ok (.slice (some ⟨w.heap.size, 0, none⟩) s.size (grownCap w s.size 0 5)) (Lib.bytesWorld w 5 s) :=
  Lib.run_convert_string_bytes w 9 75 5 s Tryz.underlying9 Tryz.underlying75 Tryz.underlying5

/-- 'string(b)' of a row of bytes. -/
theorem conv_back {w : World} {b cap c : Nat} {l : List UInt8} (h : BRow w b cap l) (n : Nat) (hn : n = l.length) :
    (convert 75 9 (.slice (some ⟨b, 0, none⟩) n c)).run Tryz.prog w = .ok (.string ⟨l.toArray⟩) w := by
  subst hn
  refine run_convert_bytes_back w 75 9 5 ⟨b, 0, none⟩ c l Tryz.underlying75 Tryz.underlying5 Tryz.underlying9 fun j hj => ?_
  have : (⟨b, 0, none⟩ : Addr).add j = ⟨b, j, none⟩ := by unfold Addr.add; split <;> simp_all
  rw [this, h.cell j hj, List.getElem?_eq_getElem hj]
  rfl

theorem bcell {W w1 : World} (hb : Below W.heap.size W w1) : (∀ b o, b < W.heap.size → w1.cell? ⟨b, o, none⟩ = W.cell? ⟨b, o, none⟩) ∧ (∀ b o, b < W.heap.size → w1.frozen? ⟨b, o, none⟩ = W.frozen? ⟨b, o, none⟩) :=
  ⟨fun b o h => hb.cell (p := ⟨b, o, none⟩) h, fun b o h => hb.frozen (p := ⟨b, o, none⟩) h⟩

theorem info9 : (Tryz.prog.info? 9).map (fun i => (i.zero, i.size, i.bytes)) = some (some (.string ByteArray.empty), 1, 16) := by kernel_rfl

/-- A string as a value, out of its bytes. -/
def S (l : List UInt8) : Value := .string ⟨l.toArray⟩
theorem S_of (s : ByteArray) : Value.string s = S s.data.toList := by simp [S]
theorem S_extract (s : ByteArray) (a b : Nat) : Value.string (s.extract a b) = S ((s.data.toList.take b).drop a) := by
  rw [S_of, Lib.extract_data, List.drop_take]

/-- 'append(v, t)' on a slice of strings of the call's own. -/
theorem wpApp9 {ops : Array Oper} {rest : List Oper} {o : Oper} {a : Act} {Q : Exit → Act → World → Prop} (hgd : o.guard = none) (s x : Operand)
    (ho : o.op = .call { callee := .builtin .append, args := #[s, x], argTypes := #[34, 34] })
    {B0 B : Nat} {w0 wr : World} {v : Value} {n : Nat} {xs : List Value} {t : ByteArray} (hown : wr.ownsRow B 9 1 v n xs) (hB : Below B0 w0 wr) (hs : a.eval s = v)
    (hx : a.eval x = .slice (some ⟨wr.heap.size, 0, none⟩) 1 1) (hn : n ≤ 100000) (h0 : B0 ≤ B) (hle : B ≤ wr.heap.size)
    (h : ∀ v' w', w'.ownsRow B 9 1 v' (n + 1) (xs ++ [.string t]) → Below B0 w0 w' → wpList Tryz.prog ops Q rest (a.put o.dst v') w') :
    wpList Tryz.prog ops Q (o :: rest) a (wr.alloc (.cells #[.string t] 9)) := by
  obtain ⟨i0, hi, hz0, hz1, hz2⟩ := info_parts info9
  refine wpList_append_own _ hgd s x 34 ho B 9 i0 (.string ByteArray.empty) 1 16 Tryz.underlying34 hi hz0 hz1 hz2 rfl (by decide) v n xs hs (hown.alloc _) ⟨wr.heap.size, 0, none⟩ 1 1 [.string t] hx rfl (cell_one_new _ _ _) (by simp [Value.oneCell']) (by unfold maxLen; omega) (by omega) (by simp; omega) ?_
  intro v' w' hown' hg _
  refine h v' w' hown' ((hB.alloc (by omega) _).grown hg (by simp; omega) fun k hk => ?_)
  have := (hown.lt k hk).1
  omega

/-- 'string([]byte{x})'. -/
theorem conv_one (W : World) (x : Int) (h0 : 0 ≤ x) (h1 : x ≤ 255) :
    (convert 75 9 (.slice (some ⟨W.heap.size, 0, none⟩) 1 1)).run Tryz.prog (W.alloc (.cells #[.int .u8 x] 5)) = .ok (.string ⟨#[UInt8.ofNat x.toNat]⟩) (W.alloc (.cells #[.int .u8 x] 5)) := by
  refine run_convert_bytes_back (l := [UInt8.ofNat x.toNat]) _ 75 9 5 ⟨W.heap.size, 0, none⟩ 1 Tryz.underlying75 Tryz.underlying5 Tryz.underlying9 fun j hj => ?_
  have hj0 : j = 0 := by simp at hj; omega
  subst hj0
  have := cell_one_new W (.int .u8 x) 5 0 _ rfl
  rw [this]
  simp
  omega

/-- A call that hands back the value v; nothing that was there has turned. -/
def RetV (v : Value) (w : World) (e : Ending) (w' : World) : Prop := e = .returned v ∧ Below w.heap.size w w'
theorem RetV.of {α : Type} {f : α → Value} {x : α} {w w' : World} {v : Value} (r : α) (h : x = r) (hv : v = f r) (hB : Below w.heap.size w w') : RetV (f x) w (.returned v) w' := by
  subst hv; subst h; exact ⟨rfl, hB⟩
theorem RetV.mk {w w' : World} {v v' : Value} (hv : v' = v) (hB : Below w.heap.size w w') : RetV v w (.returned v') w' := by
  subst hv; exact ⟨rfl, hB⟩
theorem RetV.at {α : Type} {f : α → Value} {x r : α} (h : x = r) {w : World} {e : Ending} {w' : World} (hr : RetV (f x) w e w') : RetV (f r) w e w' := by subst h; exact hr

/-- An owned row stays where nothing below has turned. -/
theorem own_below {w w' : World} {B e size : Nat} {v : Value} {n : Nat} {xs : List Value} (h : w.ownsRow B e size v n xs) (hB : Below w.heap.size w w') : w'.ownsRow B e size v n xs := by
  obtain ⟨h1, h2 | ⟨g, cap, cur, a, b, hg, c⟩⟩ := h
  · exact ⟨h1, Or.inl h2⟩
  · exact ⟨h1, Or.inr ⟨g, cap, cur, a, b, by rw [hB.block g (Array.getElem?_eq_some_iff.1 hg).1]; exact hg, c⟩⟩

end Go.Proofs.YteigjobliflkdaaGreatDoor
