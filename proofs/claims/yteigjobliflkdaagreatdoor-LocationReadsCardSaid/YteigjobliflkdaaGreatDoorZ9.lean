/- Texts of this claim, joined in build order: B3, H02a, H02b, H02c, H02d, L2. -/
import Derived.Test.YteigjobliflkdaaGreatDoorZ3
import Derived.Test.YteigjobliflkdaaGreatDoorZ2
import Derived.Shelf.Strings.BuilderK
import Derived.Lib.AppendStr
import Derived.Test.YteigjobliflkdaaGreatDoorZ4
import Derived.Test.YteigjobliflkdaaGreatDoorZ6
import Derived.IntWalk
import Derived.Deep.LoopGhost
import Derived.Test.YteigjobliflkdaaGreatDoorZ5
import Derived.Test.YteigjobliflkdaaGreatDoorZ8
import Derived.Deep.RegionWith
/- Walks: strings.Builder at the head of a variable of the call's own (a Builder, or a struct that begins with one). -/
namespace Go.Proofs.YteigjobliflkdaaGreatDoor
open Go.RowKit

/-- 'append(v, bytes..)': all blocks but v's own stand as they stood. -/
theorem wpApp5g {ops : Array Oper} {rest : List Oper} {o : Oper} {a : Act} {Q : Exit → Act → World → Prop} (hgd : o.guard = none) (s x : Operand)
    (ho : o.op = .call { callee := .builtin .append, args := #[s, x], argTypes := #[75, 75] })
    {B : Nat} {wr : World} {v : Value} {l : List UInt8} {c : UInt8} {y : Int} (hown : OwnB wr B v l) (hy : (c.toNat : Int) = y) (hs : a.eval s = v)
    (hx : a.eval x = .slice (some ⟨wr.heap.size, 0, none⟩) 1 1) (hn : l.length ≤ 1000000) (hle : B ≤ wr.heap.size)
    (h : ∀ v' w', OwnB w' B v' (l ++ [c]) → (wr.alloc (.cells #[.int .u8 y] 5)).grownBy w' v.ownBlock → wpList Tryz.prog ops Q rest (a.put o.dst v') w') :
    wpList Tryz.prog ops Q (o :: rest) a (wr.alloc (.cells #[.int .u8 y] 5)) := by
  obtain ⟨i0, hi, hz0, hz1, hz2⟩ := info_parts info5b
  subst hy
  refine wpList_append_own _ hgd s x 75 ho B 5 i0 (.int .u8 0) 1 1 Tryz.underlying75 hi hz0 hz1 hz2 rfl (by decide) v l.length (Lib.byteCells l) hs (hown.alloc _) ⟨wr.heap.size, 0, none⟩ 1 1 [.int .u8 c.toNat] hx rfl (cell_one_new _ _ _) (by simp [Value.oneCell']) (by unfold maxLen; omega) (by omega) (by simp; omega) ?_
  intro v' w' hown' hg _
  refine h v' w' ?_ hg
  unfold OwnB; rw [byteCells_snoc, List.length_append]; exact hown'
theorem OwnB.form {w : World} {B : Nat} {v : Value} {l : List UInt8} (h : OwnB w B v l) (h0 : l ≠ []) : ∃ g cap, v = .slice (some ⟨g, 0, none⟩) l.length cap := by
  rcases h.slice with ⟨h1, _⟩ | ⟨g, cap, h1, _⟩
  · exact absurd h1 h0
  · exact ⟨g, cap, h1⟩

/-- The types of which a Builder is the head. -/
def BldT (T n : Nat) : Prop := 2 ≤ n ∧ liesAt Tryz.prog Tryz.prog.depth T (n / Tryz.prog.cellsOf T) 0 104 1 = true
theorem bldT104 : BldT 104 2 := ⟨by decide, by kernel_rfl⟩
theorem bldT205 : BldT 205 3 := ⟨by decide, by kernel_rfl⟩
/-- Of what lay below B, the block b alone has turned. -/
structure But (B b : Nat) (w w' : World) : Prop where
  os : w'.os = w.os
  tape : w'.tape = w.tape
  output : w'.output = w.output
  size : w.heap.size ≤ w'.heap.size
  block : ∀ k, k < B → k ≠ b → w'.heap[k]? = w.heap[k]?
theorem But.refl (B b : Nat) (w : World) : But B b w w := ⟨rfl, rfl, rfl, Nat.le_refl _, fun _ _ _ => rfl⟩
theorem But.trans {B b : Nat} {x y z : World} (h : But B b x y) (k : But B b y z) : But B b x z :=
  ⟨k.os.trans h.os, k.tape.trans h.tape, k.output.trans h.output, Nat.le_trans h.size k.size, fun i hi hb => (k.block i hi hb).trans (h.block i hi hb)⟩
theorem But.of_below {B b : Nat} {x y : World} (h : Below B x y) : But B b x y := ⟨h.os, h.tape, h.output, h.size, fun k hk _ => h.block k hk⟩
theorem But.next {B b : Nat} {x y z : World} (h : But B b x y) (k : Below y.heap.size y z) (hB : B ≤ y.heap.size) : But B b x z := h.trans (.of_below (k.mono hB))
theorem But.setB {B b : Nat} {x y : World} (h : But B b x y) (i : Nat) (u : Value) : But B b x (y.setCell ⟨b, i, none⟩ u) := by
  have hs := (Below.refl 0 y).setCell (p := ⟨b, i, none⟩) (Nat.zero_le _) u
  exact h.trans ⟨hs.os, hs.tape, hs.output, hs.size, fun k _ hb => Below.heap_setCell _ _ _ k hb⟩
theorem But.grown {B b : Nat} {x y z : World} {row : Option Nat} (h : But B b x y) (hg : y.grownBy z row) (hr : ∀ k, row = some k → B ≤ k) (hB : B ≤ y.heap.size) : But B b x z :=
  h.trans ⟨hg.os, hg.tape, hg.output, hg.size, fun k hk _ => hg.block k (by omega) (fun e => by have := hr k e.symm; omega)⟩
theorem But.below {B b B0 : Nat} {x y : World} (h : But B b x y) (h1 : B0 ≤ b) (h2 : B0 ≤ B) : Below B0 x y := ⟨h.os, h.tape, h.output, h.size, fun k hk => h.block k (by omega) (by omega)⟩
/-- In block b lies a variable whose head is a Builder that holds l; its other cells are x. Its bytes lie from block B on. -/
def BldAt (w : World) (B b T : Nat) (x : List Value) (p : Value) (l : List UInt8) : Prop :=
  b < B ∧ ∃ v, w.heap[b]? = some (.cells (p :: v :: x).toArray T (0, 0)) ∧ OwnB w B v l ∧ (l = [] → v = .slice none 0 0)
def Bld (w : World) (B b T : Nat) (x : List Value) (l : List UInt8) : Prop := BldAt w B b T x (.pointer none) l ∨ BldAt w B b T x (.pointer (some ⟨b, 0, none⟩)) l
theorem Bld.fresh {w : World} {B b T : Nat} {x : List Value} (hB : b < B) (h : w.heap[b]? = some (.cells (.pointer none :: .slice none 0 0 :: x).toArray T (0, 0))) : Bld w B b T x [] :=
  .inl ⟨hB, _, h, OwnB.nil _ _, fun _ => rfl⟩
theorem BldAt.below {w w' : World} {B b T : Nat} {x : List Value} {p : Value} {l : List UInt8} (h : BldAt w B b T x p l) (hB : Below w.heap.size w w') : BldAt w' B b T x p l := by
  obtain ⟨h1, v, hb, ho, hn⟩ := h
  exact ⟨h1, v, by rw [hB.block b (Array.getElem?_eq_some_iff.1 hb).1]; exact hb, ho.below hB, hn⟩
theorem Bld.below {w w' : World} {B b T : Nat} {x : List Value} {l : List UInt8} (h : Bld w B b T x l) (hB : Below w.heap.size w w') : Bld w' B b T x l := by
  rcases h with h | h
  · exact .inl (h.below hB)
  · exact .inr (h.below hB)
theorem bld_cell {w : World} {b T : Nat} {cs : List Value} {fr : Nat × Nat} (h : w.heap[b]? = some (.cells cs.toArray T fr)) (j : Nat) : w.cell? ⟨b, j, none⟩ = cs[j]? := by
  rw [cell_of_row w b j _ T fr h]; simp
theorem bld_frozen {w : World} {b T : Nat} {cs : Array Value} (h : w.heap[b]? = some (.cells cs T (0, 0))) (j : Nat) : w.frozen? ⟨b, j, none⟩ = false := by
  unfold World.frozen?; simp only [h]; simp
theorem OwnB.blocks {w w' : World} {B : Nat} {v : Value} {l : List UInt8} (h : OwnB w B v l) (hk : ∀ j, B ≤ j → w'.heap[j]? = w.heap[j]?) : OwnB w' B v l := by
  obtain ⟨o1, o2 | ⟨g, cap, cur, hv, hg, hgb, r⟩⟩ := h
  · exact ⟨o1, .inl o2⟩
  · exact ⟨o1, .inr ⟨g, cap, cur, hv, hg, by rw [hk g hg]; exact hgb, r⟩⟩
theorem OwnB.set {w : World} {B : Nat} {v : Value} {l : List UInt8} (h : OwnB w B v l) {g : Nat} (hg : g < B) (i : Nat) (u : Value) : OwnB (w.setCell ⟨g, i, none⟩ u) B v l :=
  h.blocks fun j hj => Below.heap_setCell _ _ _ j (by show j ≠ g; omega)
theorem ptr104 : (Tryz.prog.info? 104).map (·.size) = some 2 := by kernel_rfl

set_option maxRecDepth 100000 in
set_option maxHeartbeats 1000000 in
theorem copyCheck_used {b : Nat} {w : World} (h0 : w.cell? ⟨b, 0, none⟩ = some (.pointer (some ⟨b, 0, none⟩))) :
    Calls Tryz.prog 190 #[.pointer (some ⟨b, 0, none⟩)] w fun e w' => e = .returned (.tuple #[]) ∧ w' = w := by
  obtain ⟨j, hj, _⟩ := Option.map_eq_some_iff.1 ptr104
  have hne := Lib.run_neq_ptr_same (P := Tryz.prog) (w := w) ⟨b, 0, none⟩ Tryz.underlying102 hj
  go_enter Tryz.func190, Tryz.ntmps190
  go_wp2_with fail
  go_end0
  exact ⟨rfl, rfl⟩
set_option maxRecDepth 100000 in
set_option maxHeartbeats 1000000 in
theorem copyCheck_fresh {b T n : Nat} {w : World} (hT : BldT T n) (h0 : w.cell? ⟨b, 0, none⟩ = some (.pointer none)) (hsh : w.shape? b = some (T, n)) (hfz : w.frozen? ⟨b, 0, none⟩ = false) :
    Calls Tryz.prog 190 #[.pointer (some ⟨b, 0, none⟩)] w fun e w' => e = .returned (.tuple #[]) ∧ w' = w.setCell ⟨b, 0, none⟩ (.pointer (some ⟨b, 0, none⟩)) := by
  obtain ⟨j, hj, hjs⟩ := Option.map_eq_some_iff.1 ptr104
  have hn := hT.1
  go_enter Tryz.func190, Tryz.ntmps190
  go_wp2_with fail
  rw [Lib.run_to_unsafe w ⟨b, 0, none⟩ Tryz.underlying102 Tryz.underlying207 hj (by rw [hjs]; decide) hsh (show 0 < n by omega)]
  simp only [Result.andThen]
  rw [Oper.upon_value]
  go_wp2_with fail
  rw [run_callFunc_extern Tryz.func218 (by kernel_rfl) (by kernel_rfl) (by kernel_rfl) (e := Extern.AbiNoEscape.same) (by kernel_rfl)]
  rw [Lib.run_noEscape]
  simp only [Result.andThen]
  rw [Oper.upon_value]
  go_wp2_with fail
  rw [Lib.run_from_unsafe w ⟨b, 0, none⟩ Tryz.underlying207 Tryz.underlying102 hj hsh hT.2]
  simp only [Result.andThen]
  rw [Oper.upon_value]
  go_wp2_with fail
  go_end0
  exact ⟨rfl, rfl⟩
theorem BldAt.used {w : World} {B b T : Nat} {x : List Value} {p : Value} {l : List UInt8} (h : BldAt w B b T x p l) (q : Value) : BldAt (w.setCell ⟨b, 0, none⟩ q) B b T x q l := by
  obtain ⟨h1, v, hb, ho, hn⟩ := h
  exact ⟨h1, v, by rw [Lib.heap_setCell_same hb]; rfl, ho.set h1 0 q, hn⟩
theorem BldAt.put {w : World} {B b T : Nat} {x : List Value} {p v v' : Value} {l : List UInt8} (hb1 : b < B) (hb : w.heap[b]? = some (.cells (p :: v :: x).toArray T (0, 0))) (h : OwnB w B v' l) (h0 : l = [] → v' = .slice none 0 0) : BldAt (w.setCell ⟨b, 1, none⟩ v') B b T x p l :=
  ⟨hb1, v', by rw [Lib.heap_setCell_same hb]; rfl, h.set hb1 1 v', h0⟩
theorem copyCheck_any {w : World} {B b T : Nat} {x : List Value} {l : List UInt8} (hT : BldT T (x.length + 2)) (h : Bld w B b T x l) :
    Calls Tryz.prog 190 #[.pointer (some ⟨b, 0, none⟩)] w fun e w' => e = .returned (.tuple #[]) ∧ BldAt w' B b T x (.pointer (some ⟨b, 0, none⟩)) l ∧ But B b w w' := by
  rcases h with h | h
  · have h' := h
    obtain ⟨h1, v, hb, ho, hn⟩ := h'
    refine (copyCheck_fresh hT (by rw [bld_cell hb]; rfl) (by simp [World.shape?, hb]) (bld_frozen hb 0)).mono ?_
    rintro e w' ⟨rfl, rfl⟩
    exact ⟨rfl, h.used _, (But.refl B b w).setB 0 _⟩
  · have h' := h
    obtain ⟨h1, v, hb, ho, hn⟩ := h'
    refine (copyCheck_used (by rw [bld_cell hb]; rfl)).mono ?_
    rintro e w' ⟨rfl, rfl⟩
    exact ⟨rfl, h, But.refl B b _⟩

set_option maxRecDepth 100000 in
set_option maxHeartbeats 2000000 in
theorem writeByte_any {w : World} {B b T : Nat} {x : List Value} {l : List UInt8} {c : UInt8} {y : Int} (hy : (c.toNat : Int) = y) (hT : BldT T (x.length + 2)) (h : Bld w B b T x l) (hl : l.length ≤ 1000000) (hBw : B ≤ w.heap.size) :
    Calls Tryz.prog 151 #[.pointer (some ⟨b, 0, none⟩), .int .u8 y] w fun e w' => e = .returned .nilIface ∧ Bld w' B b T x (l ++ [c]) ∧ But B b w w' := by
  have HT := Lib.hid hT
  have HH := Lib.hid h
  clear hT h
  go_enter Tryz.func151, Tryz.ntmps151
  go_wp2_with (go_at_call 190; refine (copyCheck_any HT.out HH.out).mono ?_)
  rintro e w1 ⟨rfl, h1, hb1⟩
  obtain ⟨hB, v, hbk, hown, hnil⟩ := h1
  have hne : some b ≠ v.ownBlock := fun e => by have := (World.ownsRow.lt hown b e.symm).1; omega
  have c0 : w1.cell? ⟨b, 0, none⟩ = some (.pointer (some ⟨b, 0, none⟩)) := by rw [bld_cell hbk]; rfl
  have c1 : w1.cell? ⟨b, 1, none⟩ = some v := by rw [bld_cell hbk]; rfl
  have hs1 := hb1.size
  go_wp2_with (at_builtin; refine wpApp5g (c := c) rfl _ _ rfl hown hy rfl rfl hl (by omega) ?_)
  intro v' w2 hown' hgrow
  have hlt : b < w1.heap.size := (Array.getElem?_eq_some_iff.1 hbk).1
  have hb2 : w2.heap[b]? = some (.cells (.pointer (some ⟨b, 0, none⟩) :: v :: x).toArray T (0, 0)) := by
    rw [hgrow.block b (by simp; omega) hne, Lib.alloc_old w1 _ b hlt]
    exact hbk
  have d0 : w2.cell? ⟨b, 0, none⟩ = some (.pointer (some ⟨b, 0, none⟩)) := by rw [bld_cell hb2]; rfl
  have d1 : w2.cell? ⟨b, 1, none⟩ = some v := by rw [bld_cell hb2]; rfl
  have f1 : w2.frozen? ⟨b, 1, none⟩ = false := bld_frozen hb2 1
  have HP := Lib.hid (BldAt.put hB hb2 hown' (fun e => absurd e (by simp)))
  have HB := Lib.hid (((hb1.next ((Below.refl _ _).alloc (Nat.le_refl _) (.cells #[.int .u8 y] 5)) (by omega)).grown hgrow (fun k hk => (World.ownsRow.lt hown k hk).1) (by simp; omega)).setB 1 v')
  obtain ⟨g, cap, hv⟩ := hown'.form (by simp)
  rw [List.length_append, List.length_singleton] at hv
  subst hv
  clear hown hown' hgrow hnil hne hbk hb2 hy
  go_wp2_with fail
  go_ret
  exact ⟨rfl, .inr HP.out, HB.out⟩

set_option maxRecDepth 100000 in
set_option maxHeartbeats 2000000 in
theorem writeString_any {w : World} {B b T : Nat} {x : List Value} {l : List UInt8} {s : ByteArray} (hT : BldT T (x.length + 2)) (h : Bld w B b T x l) (hl0 : l ≠ []) (hl : l.length ≤ 1000000) (hs : s.size ≤ 1000000) (hBw : B ≤ w.heap.size) :
    Calls Tryz.prog 198 #[.pointer (some ⟨b, 0, none⟩), .string s] w fun e w' => e = .returned (.tuple #[.int .i64 s.size, .nilIface]) ∧ Bld w' B b T x (l ++ s.data.toList) ∧ But B b w w' := by
  obtain ⟨i0, hi, hz0, hz1, hz2⟩ := info_parts info5b
  have HT := Lib.hid hT
  have HH := Lib.hid h
  clear hT h
  go_enter Tryz.func198, Tryz.ntmps198
  go_wp2_with (go_at_call 190; refine (copyCheck_any HT.out HH.out).mono ?_)
  rintro e w1 ⟨rfl, h1, hb1⟩
  obtain ⟨hB, v, hbk, hown, hnil⟩ := h1
  have hne : some b ≠ v.ownBlock := fun e => by have := (World.ownsRow.lt hown b e.symm).1; omega
  have c0 : w1.cell? ⟨b, 0, none⟩ = some (.pointer (some ⟨b, 0, none⟩)) := by rw [bld_cell hbk]; rfl
  have c1 : w1.cell? ⟨b, 1, none⟩ = some v := by rw [bld_cell hbk]; rfl
  have hs1 := hb1.size
  go_wp2_with (at_builtin; refine Lib.wpList_append_own_string _ rfl _ _ 75 9 rfl B 5 i0 Tryz.underlying75 Tryz.underlying9 hi hz0 hz1 hz2 _ _ _ rfl hown s rfl ?c3 ?c4 ?c5 ?_)
  case c3 => unfold maxLen; omega
  case c4 => omega
  case c5 => omega
  intro v' w2 hown' hgrow _
  have hlt : b < w1.heap.size := (Array.getElem?_eq_some_iff.1 hbk).1
  have hb2 : w2.heap[b]? = some (.cells (.pointer (some ⟨b, 0, none⟩) :: v :: x).toArray T (0, 0)) := by
    rw [hgrow.block b hlt hne]
    exact hbk
  have d0 : w2.cell? ⟨b, 0, none⟩ = some (.pointer (some ⟨b, 0, none⟩)) := by rw [bld_cell hb2]; rfl
  have d1 : w2.cell? ⟨b, 1, none⟩ = some v := by rw [bld_cell hb2]; rfl
  have f1 : w2.frozen? ⟨b, 1, none⟩ = false := bld_frozen hb2 1
  have hown2 : OwnB w2 B v' (l ++ s.data.toList) := by
    unfold OwnB; rw [byteCells_snoc, List.length_append, size_len]
    exact hown'
  have HP := Lib.hid (BldAt.put hB hb2 hown2 (fun e => absurd e (by simp [hl0])))
  have HB := Lib.hid ((hb1.grown hgrow (fun k hk => (World.ownsRow.lt hown k hk).1) (by omega)).setB 1 v')
  obtain ⟨g, cap, hv⟩ := hown2.form (by simp [hl0])
  rw [List.length_append, size_len] at hv
  subst hv
  clear hown hown' hown2 hgrow hnil hne hbk hb2 hl0
  go_wp2_with fail
  go_ret2
  exact ⟨rfl, .inr HP.out, HB.out⟩

theorem Bld.slice {w : World} {B b T : Nat} {x : List Value} {l : List UInt8} (h : Bld w B b T x l) : ∃ p ao cap, w.heap[b]? = some (.cells (p :: .slice ao l.length cap :: x).toArray T (0, 0)) ∧ OwnB w B (.slice ao l.length cap) l ∧ b < B ∧ (l = [] → ao = none ∧ cap = 0) := by
  obtain ⟨p, h1, v, hb, ho, hn⟩ : ∃ p, BldAt w B b T x p l := by
    rcases h with h | h
    · exact ⟨_, h⟩
    · exact ⟨_, h⟩
  by_cases h0 : l = []
  · have := hn h0
    subst this
    subst h0
    exact ⟨p, none, 0, hb, ho, h1, fun _ => ⟨rfl, rfl⟩⟩
  · obtain ⟨g, cap, rfl⟩ := ho.form h0
    exact ⟨p, _, cap, hb, ho, h1, fun e => absurd e h0⟩
set_option maxRecDepth 100000 in
theorem len_any {w : World} {B b T : Nat} {x : List Value} {l : List UInt8} (h : Bld w B b T x l) :
    Calls Tryz.prog 232 #[.pointer (some ⟨b, 0, none⟩)] w fun e w' => e = .returned (.int .i64 l.length) ∧ w' = w := by
  obtain ⟨p, ao, cap, hb, ho, _, _⟩ := h.slice
  have c1 : w.cell? ⟨b, 1, none⟩ = some (.slice ao l.length cap) := by rw [bld_cell hb]; rfl
  clear hb ho h
  go_enter Tryz.func232, Tryz.ntmps232
  go_wp2_with fail
  go_ret
  exact ⟨rfl, rfl⟩
set_option maxRecDepth 100000 in
set_option maxHeartbeats 2000000 in
theorem string_any {w : World} {B b T : Nat} {x : List Value} {l : List UInt8} (h : Bld w B b T x l) (h0 : l ≠ []) :
    Calls Tryz.prog 107 #[.pointer (some ⟨b, 0, none⟩)] w fun e w' => e = .returned (.string ⟨l.toArray⟩) ∧ Below B w w' := by
  obtain ⟨p, ao, cap, hb, ho, hB, _⟩ := h.slice
  obtain ⟨o1, ⟨o2, o3⟩ | ⟨g, cap', cur, hv, hgB, hg, hcap, hmax, hsz, htk⟩⟩ := ho
  · exact absurd (List.length_eq_zero_iff.1 o3) h0
  injection hv with hv1 hv2 hv3
  subst hv1
  subst hv3
  have hl0 : l.length ≠ 0 := by simpa using h0
  have c1 : w.drew.cell? ⟨b, 1, none⟩ = some (.slice (some ⟨g, 0, none⟩) l.length cap) := by
    have : w.drew.heap[b]? = some (.cells (p :: .slice (some ⟨g, 0, none⟩) l.length cap :: x).toArray T (0, 0)) := hb
    rw [bld_cell this]; rfl
  have hSD : (Builtin.unsafeSliceData_ #[75] 148 #[.slice (some ⟨g, 0, none⟩) l.length cap]).run Tryz.prog w.drew = .ok (.pointer (some ⟨g, 0, none⟩)) w.drew :=
    Lib.run_unsafeSliceData_row _ _ _ _ _ _ (by omega)
  have hUS : (Builtin.unsafeString_ #[148, 3] 9 #[.pointer (some ⟨g, 0, none⟩), .int .i64 l.length]).run Tryz.prog w.drew = .ok (.string ⟨l.toArray⟩) (w.drew.freeze ⟨g, 0, none⟩ l.length) := by
    refine Lib.run_unsafeString_row w.drew 148 3 9 5 Tryz.underlying148 (by kernel_rfl) g cur.size (by have hg' : w.drew.heap[g]? = some (.cells cur 5 (0, 0)) := hg; simp [World.shape?, hg']) l h0 (by omega) (by unfold maxLen at hmax; omega) ?_
    intro j y hy
    have hadd : (⟨g, 0, none⟩ : Addr).add j = ⟨g, j, none⟩ := by unfold Addr.add; split <;> simp_all
    have hg' : w.drew.heap[g]? = some (.cells cur 5 (0, 0)) := hg
    rw [hadd, cell_of_row _ _ _ _ _ _ hg']
    have h2 : (Lib.byteCells l)[j]? = some (.int .u8 y.toNat) := by simp [Lib.byteCells, hy]
    rw [← htk, List.getElem?_take] at h2
    split at h2
    · simpa using h2
    · cases h2
  have HB := Lib.hid (Lib.below_freeze (Below.drew (Below.refl B w)) (p := ⟨g, 0, none⟩) hgB l.length)
  clear hb h htk hsz hg o1 hv2 h0 hl0
  go_enter Tryz.func107, Tryz.ntmps107
  go_wp2_with fail
  go_region
  all_goals (go_wp2_with fail; go_ret; exact ⟨rfl, HB.out⟩)
set_option maxRecDepth 100000 in
set_option maxHeartbeats 2000000 in
theorem string_nil {w : World} {B b T : Nat} {x : List Value} (h : Bld w B b T x []) :
    Calls Tryz.prog 107 #[.pointer (some ⟨b, 0, none⟩)] w fun e w' => e = .returned (.string ⟨#[]⟩) ∧ Below B w w' := by
  obtain ⟨p, ao, cap, hb, ho, hB, hn⟩ := h.slice
  obtain ⟨rfl, rfl⟩ := hn rfl
  have c1 : w.drew.cell? ⟨b, 1, none⟩ = some (.slice none 0 0) := by
    have : w.drew.heap[b]? = some (.cells (p :: .slice none 0 0 :: x).toArray T (0, 0)) := hb
    rw [bld_cell this]; rfl
  have hSD := Lib.run_unsafeSliceData_nil (P := Tryz.prog) (w := w.drew) #[75] 148 0 0
  have hUS : (Builtin.unsafeString_ #[148, 3] 9 #[.pointer none, .int .i64 0]).run Tryz.prog w.drew = .ok (.string .empty) w.drew := by kernel_rfl
  clear hb ho h
  go_enter Tryz.func107, Tryz.ntmps107
  go_wp2_with fail
  go_region
  all_goals (go_wp2_with fail; go_ret; exact ⟨rfl, Below.drew (Below.refl B w)⟩)
end Go.Proofs.YteigjobliflkdaaGreatDoor
/- Walks: percent (value, escape, more, next, read, Decode). -/
namespace Go.Proofs.YteigjobliflkdaaGreatDoor
open Go.RowKit

def hexL : List UInt8 := [48, 49, 50, 51, 52, 53, 54, 55, 56, 57, 65, 66, 67, 68, 69, 70]
theorem hex_index : ∀ n : Nat, n < 256 → Lib.indexByte hexL (UInt8.ofNat (if 97 ≤ n ∧ n ≤ 102 then n - 32 else n)) = hexV (UInt8.ofNat n) := by decide +kernel
set_option maxRecDepth 100000 in
theorem pvalue_any (b : UInt8) (w : World) : Calls Tryz.prog 233 #[.int .u8 b.toNat] w fun e w' => e = .returned (.int .i64 (hexV b)) ∧ w' = w := by
  have hb := b.toNat_lt
  have HX := hex_index b.toNat hb
  rw [UInt8.ofNat_toNat] at HX
  by_cases h : 97 ≤ b.toNat ∧ b.toNat ≤ 102
  · rw [if_pos h] at HX
    have HX := Lib.hid HX
    obtain ⟨h1, h2⟩ := h
    have HI := Lib.hid (fun w => Tryz.strings_IndexByte ⟨hexL.toArray⟩ ((b.toNat : Int) - 32) w)
    go_enter Tryz.func233, Tryz.ntmps233
    go_wp2_with fail
    refine (HI.out _).mono ?_
    rintro e w' ⟨rfl, rfl⟩
    go_wp2_with fail
    go_ret
    refine ⟨ret_int ?_, rfl⟩
    rw [← HX.out, show ((b.toNat : Int) - 32).toNat = b.toNat - 32 by omega]
  · rw [if_neg h] at HX
    have HX := Lib.hid HX
    have HI := Lib.hid (fun w => Tryz.strings_IndexByte ⟨hexL.toArray⟩ (b.toNat : Int) w)
    have hc : b.toNat < 97 ∨ (97 ≤ b.toNat ∧ 102 < b.toNat) := by omega
    clear h
    rcases hc with h1 | ⟨h1, h2⟩
    all_goals
      go_enter Tryz.func233, Tryz.ntmps233
      go_wp2_with fail
      refine (HI.out _).mono ?_
      rintro e w' ⟨rfl, rfl⟩
      go_wp2_with fail
      go_ret
      refine ⟨ret_int ?_, rfl⟩
      rw [← HX.out, UInt8.ofNat_toNat]

/-- What escape hands back. -/
def escRet (c : Bool) (l : List UInt8) : Value := if c then .tuple #[.int .u8 (escV l).toNat, .bool true] else .tuple #[.int .u8 0, .bool false]
theorem escB_get (s : ByteArray) : escB s.data.toList = (decide (2 < s.size) && ((s.data.toList[0]?.getD 0) == 37) && decide (0 ≤ hexV (s.data.toList[1]?.getD 0)) && decide (0 ≤ hexV (s.data.toList[2]?.getD 0))) := by
  have := escB_drop s.data.toList 0
  rw [List.drop_zero, size_len] at this
  simpa using this
theorem escV_get (s : ByteArray) (h : 2 < s.size) : escV s.data.toList = UInt8.ofNat (16 * (hexV s[1]).toNat + (hexV s[2]).toNat) := by
  have := escV_drop s.data.toList 0 (by rw [size_len]; omega)
  rw [List.drop_zero, sgetD s (0 + 1) (by omega), sgetD s (0 + 2) (by omega)] at this
  exact this
set_option maxRecDepth 100000 in
set_option maxHeartbeats 1600000 in
theorem pescape_any {s : ByteArray} {c : Bool} (hc : escB s.data.toList = c) (hs : s.size ≤ 60000) (w : World) :
    Calls Tryz.prog 219 #[.string s] w fun e w' => e = .returned (escRet c s.data.toList) ∧ ∃ n, w' = w.drewN n := by
  subst hc
  have HG := Lib.hid (escB_get s)
  by_cases h0 : s.size < 3
  · have HF := Lib.hid (show escRet (escB s.data.toList) s.data.toList = .tuple #[.int .u8 0, .bool false] by
      rw [HG.out, show decide (2 < s.size) = false by simp; omega]; rfl)
    have d1 : (s.size : Int) < 3 := by omega
    go_enter Tryz.func219, Tryz.ntmps219
    go_wp2_with fail
    go_ret2
    exact ⟨by rw [HF.out]; rfl, 0, rfl⟩
  have d1 : 3 ≤ (s.size : Int) := by omega
  have h2s : 2 < s.size := by omega
  have hg0 := sgetD s 0 (by omega)
  have hg1 := sgetD s 1 (by omega)
  have hg2 := sgetD s 2 (by omega)
  have p0 : 0 < s.size := by omega
  have p1 : 1 < s.size := by omega
  have HG2 := Lib.hid (show escB s.data.toList = ((s[0] == 37) && decide ((0 : Int) ≤ hexV s[1]) && decide ((0 : Int) ≤ hexV s[2])) by rw [HG.out, hg0, hg1, hg2]; simp [h2s])
  clear hg0 hg1 hg2
  by_cases h37 : s[0].toNat = 37
  · have HG3 := Lib.hid (show escB s.data.toList = (decide ((0 : Int) ≤ hexV s[1]) && decide ((0 : Int) ≤ hexV s[2])) by
      rw [HG2.out, show (s[0] == 37) = true by rw [beq_iff_eq]; exact UInt8.toNat_inj.1 h37, Bool.true_and])
    have e37 : ((s[0].toNat : Int) != 37) = false := by simp; omega
    have HV := Lib.hid (escV_get s h2s)
    have V1 := Lib.hid (pvalue_any s[1])
    have V2 := Lib.hid (pvalue_any s[2])
    have b1 := hexV_bd s[1]
    have b2 := hexV_bd s[2]
    generalize hexV s[1] = v1 at HG3 HV V1 b1
    generalize hexV s[2] = v2 at HG3 HV V2 b2
    obtain ⟨b11, b12⟩ := b1
    obtain ⟨b21, b22⟩ := b2
    clear h37 h0 HG HG2
    by_cases k1 : v1 < 0
    · have HF := Lib.hid (show escRet (escB s.data.toList) s.data.toList = .tuple #[.int .u8 0, .bool false] by
        rw [HG3.out, show decide (0 ≤ v1) = false by simp; omega]; rfl)
      go_enter Tryz.func219, Tryz.ntmps219
      go_wp2_with (go_at_call 233; refine (V1.out _).mono ?_; rintro e w' ⟨rfl, rfl⟩)
      go_ret2
      exact ⟨by rw [HF.out]; rfl, 0, rfl⟩
    by_cases k2 : v2 < 0
    · have HF := Lib.hid (show escRet (escB s.data.toList) s.data.toList = .tuple #[.int .u8 0, .bool false] by
        rw [HG3.out, show decide (0 ≤ v2) = false by simp; omega, Bool.and_false]; rfl)
      have k1' : 0 ≤ v1 := by omega
      go_enter Tryz.func219, Tryz.ntmps219
      go_wp2_with (first | (go_at_call 233; (with_reducible refine (V1.out _).mono ?_); rintro e w' ⟨rfl, rfl⟩) | (go_at_call 233; refine (V2.out _).mono ?_; rintro e w' ⟨rfl, rfl⟩))
      go_ret2
      exact ⟨by rw [HF.out]; rfl, 0, rfl⟩
    · obtain ⟨n1, rfl⟩ := Int.eq_ofNat_of_zero_le (show 0 ≤ v1 by omega)
      obtain ⟨n2, rfl⟩ := Int.eq_ofNat_of_zero_le (show 0 ≤ v2 by omega)
      have m1 : n1 ≤ 15 := by omega
      have m2 : n2 ≤ 15 := by omega
      have HF := Lib.hid (show escRet (escB s.data.toList) s.data.toList = .tuple #[.int .u8 (16 * (n1 : Int) + n2), .bool true] by
        rw [HG3.out, show decide (0 ≤ (n1 : Int)) = true by simp, show decide (0 ≤ (n2 : Int)) = true by simp]
        simp only [Bool.and_true, escRet, if_true, HV.out, Int.toNat_natCast, UInt8.toNat_ofNat']
        rw [show ((16 * n1 + n2) % 2 ^ 8 : Nat) = 16 * n1 + n2 by omega]
        simp)
      have wC : IntKind.i64.wrap (16 * (n1 : Int)) = 16 * (n1 : Int) := IntWalk.i64_in _ (by omega)
      have wD : IntKind.i64.wrap (16 * (n1 : Int) + (n2 : Int)) = 16 * (n1 : Int) + (n2 : Int) := IntWalk.i64_in _ (by omega)
      have wE : IntKind.u8.wrap (16 * (n1 : Int) + (n2 : Int)) = 16 * (n1 : Int) + (n2 : Int) := by rw [IntKind.wrap_u8']; omega
      clear k1 k2 b11 b12 b21 b22
      go_enter Tryz.func219, Tryz.ntmps219
      go_wp2_with (first | (go_at_call 233; (with_reducible refine (V1.out _).mono ?_); rintro e w' ⟨rfl, rfl⟩) | (go_at_call 233; refine (V2.out _).mono ?_; rintro e w' ⟨rfl, rfl⟩))
      go_quiet ((go_at_call 233; first | (with_reducible refine Calls.quiet_of_same (V1.out _)) | (refine Calls.quiet_of_same (V2.out _))))
      go_wp2_with fail
      go_ret2
      exact ⟨by rw [HF.out]; rfl, _, rfl⟩
  · have HF := Lib.hid (show escRet (escB s.data.toList) s.data.toList = .tuple #[.int .u8 0, .bool false] by
      rw [HG2.out, show (s[0] == 37) = false by rw [beq_eq_false_iff_ne]; intro e; rw [e] at h37; exact h37 rfl]; rfl)
    have e37 : ((s[0].toNat : Int) != 37) = true := by simp; omega
    clear h37 HG HG2
    go_enter Tryz.func219, Tryz.ntmps219
    go_wp2_with fail
    go_ret2
    exact ⟨by rw [HF.out]; rfl, 0, rfl⟩

/-- A reader in block g: the text s, read up to k; what was read is v; x escapes. -/
def RdAt (w : World) (g : Nat) (s : ByteArray) (k : Int) (v : Value) (x : Int) : Prop := w.heap[g]? = some (.cells #[.string s, .int .i64 k, v, .int .i64 x] 155 (0, 0))
theorem RdAt.cell {w : World} {g : Nat} {s : ByteArray} {k x : Int} {v : Value} (h : RdAt w g s k v x) : w.cell? ⟨g, 0, none⟩ = some (.string s) ∧ w.cell? ⟨g, 1, none⟩ = some (.int .i64 k) ∧ w.cell? ⟨g, 2, none⟩ = some v ∧ w.cell? ⟨g, 3, none⟩ = some (.int .i64 x) := by
  refine ⟨?_, ?_, ?_, ?_⟩ <;> (rw [cell_of_row w g _ _ 155 _ h]; rfl)
theorem RdAt.frozen {w : World} {g : Nat} {s : ByteArray} {k x : Int} {v : Value} (h : RdAt w g s k v x) (i : Nat) : w.frozen? ⟨g, i, none⟩ = false := by
  have h : w.heap[g]? = _ := h
  unfold World.frozen?; simp only [h]; simp
theorem RdAt.below {w w' : World} {g : Nat} {s : ByteArray} {k x : Int} {v : Value} (h : RdAt w g s k v x) (hB : Below w.heap.size w w') : RdAt w' g s k v x := by
  unfold RdAt; rw [hB.block g (Array.getElem?_eq_some_iff.1 h).1]; exact h
theorem RdAt.drewN {w : World} {g : Nat} {s : ByteArray} {k x : Int} {v : Value} (h : RdAt w g s k v x) (n : Nat) : RdAt (w.drewN n) g s k v x := h.below (below_drewN (Below.refl _ _) n)
theorem RdAt.set1 {w : World} {g : Nat} {s : ByteArray} {k x : Int} {v : Value} (h : RdAt w g s k v x) (k' : Int) : RdAt (w.setCell ⟨g, 1, none⟩ (.int .i64 k')) g s k' v x := Lib.heap_setCell_same (i := 1) h _
theorem RdAt.set2 {w : World} {g : Nat} {s : ByteArray} {k x : Int} {v : Value} (h : RdAt w g s k v x) (v' : Value) : RdAt (w.setCell ⟨g, 2, none⟩ v') g s k v' x := Lib.heap_setCell_same (i := 2) h _
theorem RdAt.set3 {w : World} {g : Nat} {s : ByteArray} {k x : Int} {v : Value} (h : RdAt w g s k v x) (x' : Int) : RdAt (w.setCell ⟨g, 3, none⟩ (.int .i64 x')) g s k v x' := Lib.heap_setCell_same (i := 3) h _

set_option maxRecDepth 100000 in
theorem more_any {w : World} {g : Nat} {s : ByteArray} {k : Nat} {v : Value} {x : Int} {c : Bool} (h : RdAt w g s k v x) (hc : decide (k < s.size) = c) :
    Calls Tryz.prog 192 #[.pointer (some ⟨g, 0, none⟩)] w fun e w' => e = .returned (.bool c) ∧ ∃ n, w' = w.drewN n := by
  obtain ⟨c0, c1, _, _⟩ := h.cell
  have HC := Lib.hid hc
  clear hc h
  go_enter Tryz.func192, Tryz.ntmps192
  go_wp2_with fail
  go_quiet (fail)
  go_wp2_with fail
  go_ret
  exact ⟨by rw [← HC.out]; rfl, _, rfl⟩
end Go.Proofs.YteigjobliflkdaaGreatDoor
/- Walk: percent's cursor reads what is said. -/
namespace Go.Proofs.YteigjobliflkdaaGreatDoor
open Go.RowKit

/-- The reader in block g has moved to k'; nothing else has turned. -/
def Moved (w w' : World) (g : Nat) (k' : Int) : Prop := ∃ a b, w' = ((w.drewN a).setCell ⟨g, 1, none⟩ (.int .i64 k')).drewN b
theorem Moved.rd {w w' : World} {g : Nat} {s : ByteArray} {k k' x : Int} {v : Value} (hm : Moved w w' g k') (h : RdAt w g s k v x) : RdAt w' g s k' v x := by
  obtain ⟨a, b, rfl⟩ := hm
  exact ((h.drewN a).set1 k').drewN b
theorem Moved.size {w w' : World} {g : Nat} {k' : Int} (hm : Moved w w' g k') : w'.heap.size = w.heap.size := by
  obtain ⟨a, b, rfl⟩ := hm
  have h1 := below_drewN (Below.refl w.heap.size w) a
  simp
theorem Moved.below {w0 w w' : World} {B g : Nat} {k' : Int} (hm : Moved w w' g k') (hg : B ≤ g) (h : Below B w0 w) : Below B w0 w' := by
  obtain ⟨a, b, rfl⟩ := hm
  exact below_drewN ((below_drewN h a).setCell (p := ⟨g, 1, none⟩) hg _) b
theorem Moved.block {w w' : World} {g j : Nat} {k' : Int} (hm : Moved w w' g k') (hj : j ≠ g) : w'.heap[j]? = w.heap[j]? := by
  obtain ⟨a, b, rfl⟩ := hm
  have h1 : (((w.drewN a).setCell ⟨g, 1, none⟩ (.int .i64 k')).drewN b).heap[j]? = ((w.drewN a).setCell ⟨g, 1, none⟩ (.int .i64 k')).heap[j]? := rfl
  have h2 : (w.drewN a).heap[j]? = w.heap[j]? := rfl
  rw [h1, Below.heap_setCell _ _ _ j (by simpa using hj), h2]
theorem Moved.own {w w' : World} {B g : Nat} {k' : Int} {v : Value} {l : List UInt8} (hm : Moved w w' g k') (hg : g < B) (h : OwnB w B v l) : OwnB w' B v l := h.blocks fun j hj => hm.block (by omega)

set_option maxRecDepth 100000 in
set_option maxHeartbeats 1600000 in
theorem next_lit {w : World} {g : Nat} {s : ByteArray} {k : Nat} {v : Value} {x : Int} (h : RdAt w g s k v x) (hs : s.size ≤ 60000) (hk : k < s.size) (h37 : s[k].toNat ≠ 37) :
    Calls Tryz.prog 193 #[.pointer (some ⟨g, 0, none⟩)] w fun e w' => e = .returned (.tuple #[.int .u8 s[k].toNat, .int .i64 1]) ∧ Moved w w' g ((k : Int) + 1) := by
  obtain ⟨c0, c1, _, _⟩ := h.cell
  have H := Lib.hid h
  have e37 : ((s[k].toNat : Int) != 37) = true := by simp; omega
  have b1 : (0 : Int) ≤ k := by omega
  have b2 : (k : Int) < s.size := by omega
  have wA : IntKind.i64.wrap ((k : Int) + 1) = (k : Int) + 1 := IntWalk.i64_in _ (by omega)
  have wB : IntKind.i64.wrap ((k : Int) + 1 - 1) = (k : Int) := by rw [show (k : Int) + 1 - 1 = k by omega]; exact IntWalk.i64_in _ (by omega)
  clear h37 h
  go_enter Tryz.func193, Tryz.ntmps193
  go_wp2_with fail
  go_quiet (fail)
  obtain ⟨w1, hw1⟩ : ∃ w1, w1 = w.drewN nq := ⟨_, rfl⟩
  rw [← hw1]
  have H1 : RdAt w1 g s k v x := by rw [hw1]; exact H.out.drewN nq
  have HW := Lib.hid (show ∃ n, w1 = w.drewN n from ⟨_, hw1⟩)
  clear hw1 c0 c1
  obtain ⟨c0, c1, _, _⟩ := H1.cell
  have f1 := H1.frozen 1
  have H2 := H1.set1 ((k : Int) + 1)
  obtain ⟨d0, d1, _, _⟩ := H2.cell
  clear H1 H2
  go_wp2_with fail
  obtain ⟨w2, hw2⟩ : ∃ w2, w2 = w1.setCell ⟨g, 1, none⟩ (.int .i64 ((k : Int) + 1)) := ⟨_, rfl⟩
  rw [← hw2] at d0 d1 ⊢
  have HW2 := Lib.hid hw2
  clear hw2
  go_quiet (fail)
  go_wp2_with fail
  go_ret2
  obtain ⟨n1, e1⟩ := HW.out
  exact ⟨rfl, n1, nq, by rw [HW2.out, e1]⟩

theorem drop_bytes (s : ByteArray) (k : Nat) : (s.extract k s.size).data.toList = s.data.toList.drop k := by
  rw [Lib.extract_data]
  exact List.take_of_length_le (by simp)
set_option maxRecDepth 100000 in
set_option maxHeartbeats 1600000 in
theorem next_esc {w : World} {g : Nat} {s : ByteArray} {k : Nat} {v : Value} {x : Int} (h : RdAt w g s k v x) (hs : s.size ≤ 60000) (hk : k < s.size) (h37 : s[k].toNat = 37) (he : escB (s.data.toList.drop k) = true) :
    Calls Tryz.prog 193 #[.pointer (some ⟨g, 0, none⟩)] w fun e w' => e = .returned (.tuple #[.int .u8 (escV (s.data.toList.drop k)).toNat, .int .i64 3]) ∧ Moved w w' g ((k : Int) + 3) := by
  obtain ⟨c0, c1, _, _⟩ := h.cell
  have H := Lib.hid h
  have e37 : ((s[k].toNat : Int) != 37) = false := by simp; omega
  have b1 : (0 : Int) ≤ k := by omega
  have b2 : (k : Int) < s.size := by omega
  have b3 : (k : Int) ≤ s.size := by omega
  have wA : IntKind.i64.wrap ((k : Int) + 3) = (k : Int) + 3 := IntWalk.i64_in _ (by omega)
  have HE := Lib.hid (show ∀ w : World, Calls Tryz.prog 219 #[.string (s.extract k s.size)] w fun e w' => e = .returned (.tuple #[.int .u8 (escV (s.data.toList.drop k)).toNat, .bool true]) ∧ ∃ n, w' = w.drewN n from fun w => by
    have := pescape_any (s := s.extract k s.size) (c := true) (by rw [drop_bytes]; exact he) (by rw [← size_len, drop_bytes, List.length_drop, size_len]; omega) w
    rw [drop_bytes] at this
    exact this)
  clear h37 h he
  go_enter Tryz.func193, Tryz.ntmps193
  go_wp2_with fail
  go_quiet (fail)
  obtain ⟨w1, hw1⟩ : ∃ w1, w1 = w.drewN nq := ⟨_, rfl⟩
  rw [← hw1]
  have H1 : RdAt w1 g s k v x := by rw [hw1]; exact H.out.drewN nq
  have HW := Lib.hid (show ∃ n, w1 = w.drewN n from ⟨_, hw1⟩)
  clear hw1 c0 c1
  obtain ⟨c0, c1, _, _⟩ := H1.cell
  have H1h := Lib.hid H1
  clear H1
  go_wp2_with fail
  go_quiet ((go_at_call 219; exact Calls.quiet_of (HE.out _)))
  obtain ⟨w2, hw2⟩ : ∃ w2, w2 = w1.drewN nq := ⟨_, rfl⟩
  rw [← hw2]
  have H2 : RdAt w2 g s k v x := by rw [hw2]; exact H1h.out.drewN nq
  have HW2 := Lib.hid (show ∃ n, w2 = w1.drewN n from ⟨_, hw2⟩)
  clear hw2 c0 c1
  obtain ⟨c0, c1, _, _⟩ := H2.cell
  have f1 := H2.frozen 1
  clear H2
  go_wp2_with fail
  go_ret2
  obtain ⟨n1, e1⟩ := HW.out
  obtain ⟨n2, e2⟩ := HW2.out
  exact ⟨rfl, n1 + n2, 0, by rw [e2, e1, World.drewN_drewN]; rfl⟩
set_option maxRecDepth 100000 in
set_option maxHeartbeats 1600000 in
theorem next_bad {w : World} {g : Nat} {s : ByteArray} {k : Nat} {v : Value} {x : Int} (h : RdAt w g s k v x) (hs : s.size ≤ 60000) (hk : k < s.size) (h37 : s[k].toNat = 37) (he : escB (s.data.toList.drop k) = false) :
    Calls Tryz.prog 193 #[.pointer (some ⟨g, 0, none⟩)] w fun e w' => e = .returned (.tuple #[.int .u8 0, .int .i64 0]) ∧ ∃ n, w' = w.drewN n := by
  obtain ⟨c0, c1, _, _⟩ := h.cell
  have H := Lib.hid h
  have e37 : ((s[k].toNat : Int) != 37) = false := by simp; omega
  have b1 : (0 : Int) ≤ k := by omega
  have b2 : (k : Int) < s.size := by omega
  have b3 : (k : Int) ≤ s.size := by omega
  have HE := Lib.hid (show ∀ w : World, Calls Tryz.prog 219 #[.string (s.extract k s.size)] w fun e w' => e = .returned (.tuple #[.int .u8 0, .bool false]) ∧ ∃ n, w' = w.drewN n from fun w => pescape_any (s := s.extract k s.size) (c := false) (by rw [drop_bytes]; exact he) (by rw [← size_len, drop_bytes, List.length_drop, size_len]; omega) w)
  clear h37 h he
  go_enter Tryz.func193, Tryz.ntmps193
  go_wp2_with fail
  go_quiet (fail)
  obtain ⟨w1, hw1⟩ : ∃ w1, w1 = w.drewN nq := ⟨_, rfl⟩
  rw [← hw1]
  have H1 : RdAt w1 g s k v x := by rw [hw1]; exact H.out.drewN nq
  have HW := Lib.hid (show ∃ n, w1 = w.drewN n from ⟨_, hw1⟩)
  clear hw1 c0 c1
  obtain ⟨c0, c1, _, _⟩ := H1.cell
  clear H1
  go_wp2_with fail
  go_quiet ((go_at_call 219; exact Calls.quiet_of (HE.out _)))
  go_wp2_with fail
  go_ret2
  obtain ⟨n1, e1⟩ := HW.out
  exact ⟨rfl, n1 + nq, by rw [e1, World.drewN_drewN]⟩
end Go.Proofs.YteigjobliflkdaaGreatDoor
/- Walks: percent's read and Decode. -/
namespace Go.Proofs.YteigjobliflkdaaGreatDoor
open Go.RowKit

/-- As wpApp5g; the new block's number may be spelled otherwise. -/
theorem wpApp5h {ops : Array Oper} {rest : List Oper} {o : Oper} {a : Act} {Q : Exit → Act → World → Prop} (hgd : o.guard = none) (s x : Operand)
    (ho : o.op = .call { callee := .builtin .append, args := #[s, x], argTypes := #[75, 75] })
    {B n : Nat} {wr : World} {v : Value} {l : List UInt8} {c : UInt8} {y : Int} (hown : OwnB wr B v l) (hy : (c.toNat : Int) = y) (hs : a.eval s = v)
    (hx : a.eval x = .slice (some ⟨n, 0, none⟩) 1 1) (hnn : wr.heap.size = n) (hn : l.length ≤ 1000000) (hle : B ≤ n)
    (h : ∀ v' w', OwnB w' B v' (l ++ [c]) → (wr.alloc (.cells #[.int .u8 y] 5)).grownBy w' v.ownBlock → wpList Tryz.prog ops Q rest (a.put o.dst v') w') :
    wpList Tryz.prog ops Q (o :: rest) a (wr.alloc (.cells #[.int .u8 y] 5)) := by
  subst hnn
  exact wpApp5g hgd s x ho hown hy hs hx hn hle h
theorem OwnB.row_ne {w : World} {B : Nat} {v : Value} {l : List UInt8} (h : OwnB w B v l) {g : Nat} (hg : g < B) : some g ≠ v.ownBlock := by
  intro e
  have := (World.ownsRow.lt h g e.symm).1
  omega
theorem grown_block {w w' : World} {B g : Nat} {v : Value} {l : List UInt8} {ob : Obj} (hown : OwnB w B v l) (hg : g < B) (hl : g < w.heap.size) (h : (w.alloc ob).grownBy w' v.ownBlock) : w'.heap[g]? = w.heap[g]? := by
  rw [h.block g (by simp; omega) (hown.row_ne hg)]
  exact Below.heap_alloc _ _ _ hl
theorem RdAt.other {w w' : World} {g : Nat} {s : ByteArray} {k x : Int} {v : Value} (h : RdAt w g s k v x) (e : w'.heap[g]? = w.heap[g]?) : RdAt w' g s k v x := e.trans h
theorem RdAt.lt {w : World} {g : Nat} {s : ByteArray} {k x : Int} {v : Value} (h : RdAt w g s k v x) : g < w.heap.size := (Array.getElem?_eq_some_iff.1 h).1
/-- What read hands back. -/
def RetRead (s : ByteArray) (r : Option (List UInt8)) (w : World) (e : Ending) (w' : World) : Prop := match r with
  | none => ∃ (p : Value) (at' : Int), e = .returned (.tuple #[p, .agg #[.int .i64 3, .int .i64 at']]) ∧ Below w.heap.size w w'
  | some d => ∃ (v : Value) (k x : Int), e = .returned (.tuple #[.pointer (some ⟨w.heap.size + 1, 0, none⟩), .agg #[.int .i64 0, .int .i64 0]]) ∧ RdAt w' (w.heap.size + 1) s k v x ∧ OwnB w' (w.heap.size + 2) v d ∧ Below w.heap.size w w'
theorem RetRead.bad {s : ByteArray} {l : List UInt8} {w w' : World} {a : Int} {v p : Value} (h : pctDec l = none) (hv : v = .tuple #[p, .agg #[.int .i64 3, .int .i64 a]]) (hB : Below w.heap.size w w') : RetRead s (pctDec l) w (.returned v) w' := by
  rw [h, hv]; exact ⟨p, a, rfl, hB⟩
theorem RetRead.ok {s : ByteArray} {l d : List UInt8} {w w' : World} {u v : Value} {k x : Int} (h : pctDec l = some d) (hv : v = .tuple #[.pointer (some ⟨w.heap.size + 1, 0, none⟩), .agg #[.int .i64 0, .int .i64 0]]) (hR : RdAt w' (w.heap.size + 1) s k u x) (hO : OwnB w' (w.heap.size + 2) u d) (hB : Below w.heap.size w w') : RetRead s (pctDec l) w (.returned v) w' := by
  rw [h, hv]; exact ⟨u, k, x, rfl, hR, hO, hB⟩
theorem TwoAt.other {w w' : World} {g T : Nat} {a b : Int} (h : TwoAt w g T a b) (e : w'.heap[g]? = w.heap[g]?) : TwoAt w' g T a b := e.trans h
theorem TwoAt.lt {w : World} {g T : Nat} {a b : Int} (h : TwoAt w g T a b) : g < w.heap.size := (Array.getElem?_eq_some_iff.1 h).1
/-- One byte more is in the reader's slice. -/
theorem rd_put {w0 w w2 : World} {s : ByteArray} {g : Nat} {k m : Int} {v v' : Value} {o : List UInt8} {c : UInt8} {y : Int} (hR : RdAt w (g + 1) s k v m) (hO : OwnB w (g + 2) v o) (hT : TwoAt w g 111 0 0) (hB : Below g w0 w) (hown : OwnB w2 (g + 2) v' (o ++ [c])) (hg : (w.alloc (.cells #[.int .u8 y] 5)).grownBy w2 v.ownBlock) :
    RdAt w2 (g + 1) s k v m ∧ RdAt (w2.setCell ⟨g + 1, 2, none⟩ v') (g + 1) s k v' m ∧ OwnB (w2.setCell ⟨g + 1, 2, none⟩ v') (g + 2) v' (o ++ [c]) ∧ TwoAt (w2.setCell ⟨g + 1, 2, none⟩ v') g 111 0 0 ∧ Below g w0 (w2.setCell ⟨g + 1, 2, none⟩ v') := by
  have h1 : RdAt w2 (g + 1) s k v m := hR.other (grown_block hO (by omega) hR.lt hg)
  have h2 : TwoAt w2 g 111 0 0 := hT.other (grown_block hO (by omega) hT.lt hg)
  refine ⟨h1, h1.set2 v', hown.set (by omega) 2 v', h2.other (Below.heap_setCell _ _ _ g (by show g ≠ g + 1; omega)), ?_⟩
  have hlt := hR.lt
  have hlo := fun j hj => (World.ownsRow.lt hO j hj).1
  exact ((hB.alloc (by omega) _).grown hg (by simp; omega) (fun j hj => by have := hlo j hj; omega)).setCell (p := ⟨g + 1, 2, none⟩) (by show g ≤ g + 1; omega) _

set_option maxRecDepth 100000 in
set_option maxHeartbeats 6000000 in
theorem read_any (s : ByteArray) (w : World) (hs : s.size ≤ 60000) : Calls Tryz.prog 154 #[.string s] w (RetRead s (pctDec s.data.toList) w) := by
  go_enter Tryz.func154, Tryz.ntmps154
  go_wp2_with fail
  go_step3
  go_wp2_with fail
  go_step3
  go_wp2_with fail
  go_loopg [5, 6] (s.size + 1) (fun gh _ _ wr => ∃ (k m : Nat) (o : List UInt8) (v : Value), k ≤ s.size ∧ m ≤ k ∧ gh = s.size + 1 - k ∧ Hid (DecodeAt s.data.toList k o) ∧ RdAt wr (w.heap.size + 1) s k v m ∧ OwnB wr (w.heap.size + 2) v o ∧ TwoAt wr w.heap.size 111 0 0 ∧ Below w.heap.size w wr)
  case atStart => exact ⟨0, 0, [], _, Nat.zero_le _, Nat.le_refl _, rfl, DecodeAt.start _, heap_alloc2_new _ _ _, OwnB.nil _ _, heap_alloc2_old _ _ _, ((Below.refl _ _).alloc (Nat.le_refl _) _).alloc (by simp) _⟩
  case round =>
    obtain ⟨k, m, o, v, hk, hmk, hgk, HD, HR, HO, HT, HB⟩ := hrel
    have HRh := Lib.hid HR
    have HOh := Lib.hid HO
    have HTh := Lib.hid HT
    have hol : o.length ≤ k := HD.out.2.1
    have hlt1 : w.heap.size + 1 < wr.heap.size := HR.lt
    by_cases hlt : k < s.size
    · have HM := Lib.hid (fun (w1 : World) (h : RdAt w1 (w.heap.size + 1) s k v m) => more_any h (show decide (k < s.size) = true by simp [hlt]))
      have hsl : k < s.data.toList.length := by rw [size_len]; exact hlt
      have hsg := sgetD s k hlt
      by_cases h37 : s[k].toNat = 37
      · cases he : escB (s.data.toList.drop k) with
        | true =>
          have hl3 := escB_len he
          rw [List.length_drop, size_len] at hl3
          have HX := Lib.hid (fun (w1 : World) (h : RdAt w1 (w.heap.size + 1) s k v m) => next_esc h hs hlt h37 he)
          have HN := Lib.hid (HD.out.esc hsl he)
          have HC := Lib.hid (rfl : ((escV (s.data.toList.drop k)).toNat : Int) = ((escV (s.data.toList.drop k)).toNat : Int))
          generalize escV (s.data.toList.drop k) = c at HX HN HC
          clear he h37 hsg
          go_wp2_with fail
          refine (HM.out _ HRh.out).mono ?_
          rintro e w' ⟨rfl, n1, rfl⟩
          go_wp2_with fail
          refine (HX.out _ (HRh.out.drewN n1)).mono ?_
          rintro e w2 ⟨rfl, HMv⟩
          have HR2 := HMv.rd (HRh.out.drewN n1)
          have HR2h := Lib.hid HR2
          have HO2 := Lib.hid (HMv.own (by omega) (HOh.out.drewN n1))
          have HT2 := Lib.hid (HTh.out.other (w' := w2) ((HMv.block (by omega)).trans rfl))
          have HB2 := Lib.hid (HMv.below (by omega) (below_drewN HB n1))
          have HMv := Lib.hid HMv
          obtain ⟨_, _, _, c3⟩ := HR2.cell
          have f3 := HR2.frozen 3
          have f2 := HR2.frozen 2
          have wx : IntKind.i64.wrap ((m : Int) + 1) = (m : Int) + 1 := IntWalk.i64_in _ (by omega)
          have HR3 := HR2.set3 ((m : Int) + 1)
          have hz2 : w.heap.size + 2 ≤ w2.heap.size := HR2.lt
          have HO3 := Lib.hid (OwnB.set HO2.out (show w.heap.size + 1 < w.heap.size + 2 by omega) 3 (.int .i64 ((m : Int) + 1)))
          have HT3 := Lib.hid (HT2.out.other (w' := w2.setCell ⟨w.heap.size + 1, 3, none⟩ (.int .i64 ((m : Int) + 1))) (Below.heap_setCell _ _ _ _ (by show w.heap.size ≠ w.heap.size + 1; omega)))
          have HB3 := Lib.hid (HB2.out.setCell (p := ⟨w.heap.size + 1, 3, none⟩) (by show w.heap.size ≤ w.heap.size + 1; omega) (.int .i64 ((m : Int) + 1)))
          obtain ⟨d0, d1, d2, d3⟩ := HR3.cell
          have HR3h := Lib.hid HR3
          clear HR HR2 HR3 HO HT HT2 HB2 HB HO2 HOh HTh HRh HR2h
          go_wp2_with (at_builtin; refine wpApp5h (c := c) rfl _ _ rfl HO3.out rfl rfl rfl (by simp) (by omega) hz2 ?_)
          intro v' w3 hown' hgrow
          obtain ⟨e1, HR4, HO4, HT4, HB4⟩ := rd_put HR3h.out HO3.out HT3.out HB3.out hown' hgrow
          obtain ⟨_, _, c2, _⟩ := e1.cell
          have f2 := e1.frozen 2
          have H4 := Lib.hid (⟨HR4, HO4, HT4, HB4⟩ : _ ∧ _ ∧ _ ∧ _)
          obtain ⟨g', cap', hv⟩ := hown'.form (by simp)
          rw [List.length_append, List.length_singleton] at hv
          subst hv
          clear HR4 HO4 HT4 HB4 hown' hgrow e1
          go_wp2_with fail
          obtain ⟨HR4, HO4, HT4, HB4⟩ := H4.out
          go_roundg (s.size + 1 - (k + 3))
          case measure => omega
          case rel => exact ⟨k + 3, m + 1, _, _, by omega, by omega, rfl, HN.out, HR4, HO4, HT4, HB4⟩
        | false =>
          have HX := Lib.hid (fun (w1 : World) (h : RdAt w1 (w.heap.size + 1) s k v m) => next_bad h hs hlt h37 he)
          have HN := Lib.hid (HD.out.bad hsl he (by rw [hsg]; exact UInt8.toNat_inj.1 h37))
          clear he h37 hsg
          go_wp2_with fail
          refine (HM.out _ HRh.out).mono ?_
          rintro e w' ⟨rfl, n1, rfl⟩
          go_wp2_with fail
          refine (HX.out _ (HRh.out.drewN n1)).mono ?_
          rintro e w2 ⟨rfl, n2, rfl⟩
          go_wp2_with fail
          refine (HM.out _ (HRh.out.drewN (n1 + n2))).mono ?_
          rintro e w3 ⟨rfl, n3, rfl⟩
          have HR3 := (HRh.out.drewN (n1 + n2)).drewN n3
          have HT3 : TwoAt ((wr.drewN (n1 + n2)).drewN n3) w.heap.size 111 0 0 := HTh.out
          have HB3 := below_drewN (below_drewN HB (n1 + n2)) n3
          clear HRh HR HO HOh HT HTh HB
          generalize (wr.drewN (n1 + n2)).drewN n3 = w4 at HR3 HT3 HB3
          obtain ⟨_, c1, _, _⟩ := HR3.cell
          obtain ⟨t0, t1⟩ := HT3.cell
          have f0 := HT3.frozen 0
          have f1 := HT3.frozen 1
          have hput := Lib.hid (HT3.put)
          have HB3 := Lib.hid HB3
          clear HT3 HR3
          go_wp2_with fail
          go_region
          all_goals
            go_wp2_with fail
            rw [Exit.noGoto_ret]
            exact bodyPost_ret (fault_results Tryz.results154 rfl (hput.out 3 k)) rfl (RetRead.bad HN.out rfl ((HB3.out.drew.setCell (p := ⟨w.heap.size, 0, none⟩) (Nat.le_refl _) _).setCell (p := ⟨w.heap.size, 1, none⟩) (Nat.le_refl _) _))
      · have HX := Lib.hid (fun (w1 : World) (h : RdAt w1 (w.heap.size + 1) s k v m) => next_lit h hs hlt h37)
        have he : escB (s.data.toList.drop k) = false := by
          cases h2 : escB (s.data.toList.drop k) with
          | false => rfl
          | true =>
            rw [escB_drop] at h2
            simp only [Bool.and_eq_true, beq_iff_eq] at h2
            rw [hsg] at h2
            exact absurd (congrArg UInt8.toNat h2.1.1.2) h37
        have HN := HD.out.lit hsl he (by rw [hsg]; intro e; rw [e] at h37; exact h37 rfl)
        rw [hsg] at HN
        have HN := Lib.hid HN
        generalize s[k] = c at HX HN
        clear he h37 hsg
        go_wp2_with fail
        refine (HM.out _ HRh.out).mono ?_
        rintro e w' ⟨rfl, n1, rfl⟩
        go_wp2_with fail
        refine (HX.out _ (HRh.out.drewN n1)).mono ?_
        rintro e w2 ⟨rfl, HMv⟩
        have HR2 := HMv.rd (HRh.out.drewN n1)
        have HO2 := Lib.hid (HMv.own (by omega) (HOh.out.drewN n1))
        have HT2 := Lib.hid (HTh.out.other (w' := w2) ((HMv.block (by omega)).trans rfl))
        have HB2 := Lib.hid (HMv.below (by omega) (below_drewN HB n1))
        have hz2 : w.heap.size + 2 ≤ w2.heap.size := HR2.lt
        obtain ⟨_, _, c2, _⟩ := HR2.cell
        have HR2h := Lib.hid HR2
        clear HR HR2 HO HT HB HOh HTh HRh HMv
        go_wp2_with (at_builtin; refine wpApp5h (c := c) rfl _ _ rfl HO2.out rfl rfl rfl rfl (by omega) hz2 ?_)
        intro v' w3 hown' hgrow
        obtain ⟨e1, HR4, HO4, HT4, HB4⟩ := rd_put HR2h.out HO2.out HT2.out HB2.out hown' hgrow
        obtain ⟨_, _, c2, _⟩ := e1.cell
        have f2 := e1.frozen 2
        have H4 := Lib.hid (⟨HR4, HO4, HT4, HB4⟩ : _ ∧ _ ∧ _ ∧ _)
        obtain ⟨g', cap', hv⟩ := hown'.form (by simp)
        rw [List.length_append, List.length_singleton] at hv
        subst hv
        clear HR4 HO4 HT4 HB4 hown' hgrow e1
        go_wp2_with fail
        obtain ⟨HR4, HO4, HT4, HB4⟩ := H4.out
        go_roundg (s.size + 1 - (k + 1))
        case measure => omega
        case rel => exact ⟨k + 1, m, _, _, by omega, by omega, rfl, HN.out, HR4, HO4, HT4, HB4⟩
    · have HM := Lib.hid (fun (w1 : World) (h : RdAt w1 (w.heap.size + 1) s k v m) => more_any h (show decide (k < s.size) = false by simp; omega))
      have HN := Lib.hid (HD.out.fin (by rw [size_len]; omega))
      go_wp2_with fail
      refine (HM.out _ HRh.out).mono ?_
      rintro e w' ⟨rfl, n1, rfl⟩
      go_wp2_with fail
      refine (HM.out _ (HRh.out.drewN n1)).mono ?_
      rintro e w3 ⟨rfl, n3, rfl⟩
      have HR3 := (HRh.out.drewN n1).drewN n3
      have HT3 : TwoAt ((wr.drewN n1).drewN n3) w.heap.size 111 0 0 := HTh.out
      have HB3 := below_drewN (below_drewN HB n1) n3
      have HO3 := (HOh.out.drewN n1).drewN n3
      clear HRh HR HO HOh HT HTh HB
      generalize (wr.drewN n1).drewN n3 = w4 at HR3 HT3 HB3 HO3
      obtain ⟨t0, t1⟩ := HT3.cell
      have f0 := HT3.frozen 0
      have f1 := HT3.frozen 1
      have hput := Lib.hid HT3.put
      have HB3 := Lib.hid HB3
      have HO3 := Lib.hid HO3
      have HR3 := Lib.hid HR3
      clear HT3
      go_wp2_with fail
      rw [Exit.noGoto_ret]
      refine bodyPost_ret (fault_results Tryz.results154 rfl (hput.out 0 0)) rfl (RetRead.ok HN.out rfl (HR3.out.other ?_) ((HO3.out.set (by omega) 0 _).set (by omega) 1 _) ((HB3.out.setCell (p := ⟨w.heap.size, 0, none⟩) (Nat.le_refl _) _).setCell (p := ⟨w.heap.size, 1, none⟩) (Nat.le_refl _) _))
      rw [Below.heap_setCell _ _ _ _ (by show w.heap.size + 1 ≠ w.heap.size; omega), Below.heap_setCell _ _ _ _ (by show w.heap.size + 1 ≠ w.heap.size; omega)]
end Go.Proofs.YteigjobliflkdaaGreatDoor
/- Walks: percent's Decode, put and Encode. -/
namespace Go.Proofs.YteigjobliflkdaaGreatDoor
open Go.RowKit

theorem read_none {s : ByteArray} (h : pctDec s.data.toList = none) (hs : s.size ≤ 60000) (w : World) : Calls Tryz.prog 154 #[.string s] w fun e w' => ∃ (p : Value) (at' : Int), e = .returned (.tuple #[p, .agg #[.int .i64 3, .int .i64 at']]) ∧ Below w.heap.size w w' := by
  have := read_any s w hs; rw [h] at this; exact this
theorem read_some {s : ByteArray} {d : List UInt8} (h : pctDec s.data.toList = some d) (hs : s.size ≤ 60000) (w : World) : Calls Tryz.prog 154 #[.string s] w fun e w' => ∃ (v : Value) (k x : Int), e = .returned (.tuple #[.pointer (some ⟨w.heap.size + 1, 0, none⟩), .agg #[.int .i64 0, .int .i64 0]]) ∧ RdAt w' (w.heap.size + 1) s k v x ∧ OwnB w' (w.heap.size + 2) v d ∧ Below w.heap.size w w' := by
  have := read_any s w hs; rw [h] at this; exact this
set_option maxRecDepth 100000 in
set_option maxHeartbeats 2000000 in
theorem decode_any (s : ByteArray) (w : World) (hs : s.size ≤ 60000) : Calls Tryz.prog 110 #[.string s] w (RetDec (pctDec s.data.toList) w) := by
  cases hd : pctDec s.data.toList with
  | none =>
    have HC := Lib.hid (read_none hd hs)
    clear hd
    go_enter Tryz.func110, Tryz.ntmps110
    go_wp2_with fail
    refine (HC.out _).mono ?_
    rintro e w1 ⟨p, at', rfl, HB⟩
    have HB1 : Below w.heap.size w w1 := after1 (HB.mono (by simp))
    have HT : TwoAt w1 w.heap.size 111 0 0 := first1 (HB.mono (by simp))
    have hlt : w.heap.size < w1.heap.size := HT.lt
    have HTa : TwoAt (w1.alloc (.cells #[.int .i64 3, .int .i64 at'] 111)) w.heap.size 111 0 0 := HT.below ((Below.refl _ _).alloc (Nat.le_refl _) _)
    have HTn : TwoAt (w1.alloc (.cells #[.int .i64 3, .int .i64 at'] 111)) w1.heap.size 111 3 at' := heap_alloc_new _ _
    have HB2 := HB1.alloc HB1.size (.cells #[.int .i64 3, .int .i64 at'] 111)
    clear HT HB HB1
    go_wp2_with fail
    generalize w1.alloc (.cells #[.int .i64 3, .int .i64 at'] 111) = w2 at HTa HTn HB2
    generalize w1.heap.size = g at HTn hlt
    obtain ⟨t0, t1⟩ := HTn.cell
    obtain ⟨c0, c1⟩ := HTa.cell
    have f0 := HTa.frozen 0
    have f1 := HTa.frozen 1
    have hput := Lib.hid (HTa.put 3 at')
    have HB2 := Lib.hid HB2
    clear HTa HTn
    go_region
    all_goals
      go_wp2_with fail
      exact bodyPost_ret (fault_results Tryz.results110 rfl hput.out) rfl ⟨at', rfl, (HB2.out.drew.setCell (p := ⟨w.heap.size, 0, none⟩) (Nat.le_refl _) _).setCell (p := ⟨w.heap.size, 1, none⟩) (Nat.le_refl _) _⟩
  | some d =>
    have HC := Lib.hid (read_some hd hs)
    clear hd
    go_enter Tryz.func110, Tryz.ntmps110
    go_wp2_with fail
    refine (HC.out _).mono ?_
    rintro e w1 ⟨v, k, x, rfl, HR, HO, HB⟩
    have HB1 : Below w.heap.size w w1 := after1 (HB.mono (by simp))
    have HT : TwoAt w1 w.heap.size 111 0 0 := first1 (HB.mono (by simp))
    have hlt : w.heap.size < w1.heap.size := HT.lt
    rw [show (w.alloc (.cells #[.int .i64 0, .int .i64 0] 111)).heap.size + 1 = w.heap.size + 1 + 1 by simp] at HR
    have hal := (Below.refl w1.heap.size w1).alloc (Nat.le_refl _) (.cells #[.int .i64 0, .int .i64 0] 111)
    have HTa : TwoAt (w1.alloc (.cells #[.int .i64 0, .int .i64 0] 111)) w.heap.size 111 0 0 := HT.below hal
    have HTn : TwoAt (w1.alloc (.cells #[.int .i64 0, .int .i64 0] 111)) w1.heap.size 111 0 0 := heap_alloc_new _ _
    have HB2 := HB1.alloc HB1.size (.cells #[.int .i64 0, .int .i64 0] 111)
    have HR2 := HR.below hal
    have HO2 := HO.below hal
    clear HT HB HB1 HR HO hal
    go_wp2_with fail
    generalize w1.alloc (.cells #[.int .i64 0, .int .i64 0] 111) = w2 at HTa HTn HB2 HR2 HO2
    generalize w1.heap.size = g at HTn hlt
    obtain ⟨t0, t1⟩ := HTn.cell
    obtain ⟨c0, c1⟩ := HTa.cell
    obtain ⟨_, _, r2, _⟩ := HR2.cell
    have f0 := HTa.frozen 0
    have f1 := HTa.frozen 1
    have hput := Lib.hid (HTa.put 0 0)
    have HB2 := Lib.hid HB2
    have hcv := OwnB.back (HO2.drew)
    clear HTa HTn HR2 HO2
    go_region
    all_goals
      go_wp2_with fail
      exact bodyPost_ret (fault_results Tryz.results110 rfl hput.out) rfl ⟨rfl, (HB2.out.drew.setCell (p := ⟨w.heap.size, 0, none⟩) (Nat.le_refl _) _).setCell (p := ⟨w.heap.size, 1, none⟩) (Nat.le_refl _) _⟩

/-- put writes the escapes of bytes into a fresh builder. -/
def PutAt (P : Nat → Bool) (l : List UInt8) (b : Nat) (w0 wr : World) (k : Nat) : Prop := Bld wr (w0.heap.size + 1) b 104 [] (pctEnc P (l.take k)) ∧ SetAt wr w0.heap.size P ∧ But w0.heap.size b w0 wr ∧ w0.heap.size + 1 ≤ wr.heap.size

theorem But.mono {B B' b : Nat} {x y : World} (h : But B b x y) (hB : B' ≤ B) : But B' b x y := ⟨h.os, h.tape, h.output, h.size, fun k hk hb => h.block k (by omega) hb⟩
theorem PutAt.next {P : Nat → Bool} {l m : List UInt8} {b k : Nat} {w0 wr w' : World} (h : PutAt P l b w0 wr k) (hb : b < w0.heap.size) (hB : Bld w' (w0.heap.size + 1) b 104 [] m) (hm : pctEnc P (l.take (k + 1)) = m) (hW : But (w0.heap.size + 1) b wr w') : PutAt P l b w0 w' (k + 1) := by
  refine ⟨by rw [hm]; exact hB, ?_, h.2.2.1.trans (hW.mono (by omega)), Nat.le_trans h.2.2.2 hW.size⟩
  have : w'.heap[w0.heap.size]? = wr.heap[w0.heap.size]? := hW.block _ (by omega) (by omega)
  unfold SetAt at *
  exact this.trans h.2.1

set_option maxRecDepth 100000 in
set_option maxHeartbeats 4000000 in
theorem put_any (P : Nat → Bool) (l : List UInt8) {b g cap : Nat} {w : World} (hl : l.length ≤ 30000) (hg : g < w.heap.size) (hgb : g ≠ b) (hb : w.heap[b]? = some (.cells #[.pointer none, .slice none 0 0] 104 (0, 0)))
    (hc : ∀ j, j < l.length → w.cell? ⟨g, j, none⟩ = some (.int .u8 (l[j]?.getD 0).toNat)) :
    Calls Tryz.prog 106 #[.pointer (some ⟨b, 0, none⟩), setV P, .slice (some ⟨g, 0, none⟩) l.length cap] w fun e w' => e = .returned (.tuple #[]) ∧ Bld w' (w.heap.size + 1) b 104 [] (pctEnc P l) ∧ But w.heap.size b w w' ∧ w.heap.size + 1 ≤ w'.heap.size := by
  have hbl : b < w.heap.size := (Array.getElem?_eq_some_iff.1 hb).1
  have HC := Lib.hid hc
  have HBb := Lib.hid hb
  clear hc hb
  unfold setV
  go_enter Tryz.func106, Tryz.ntmps106
  go_wp2_with fail
  go_loopw [10] (fun i wr => ∃ (k : Nat), k ≤ l.length ∧ i = .int .i64 k ∧ Hid (PutAt P l b w wr k)) (fun i _ => l.length - (intOf i).toNat)
  case atStart => exact ⟨0, Nat.zero_le _, rfl, Bld.fresh (by omega) (by rw [Below.heap_alloc _ _ _ hbl]; exact HBb.out), heap_alloc_new _ _, .of_below ((Below.refl _ _).alloc (Nat.le_refl _) _), by simp⟩
  case round =>
    obtain ⟨k, hk, rfl, HP⟩ := hrel
    have hsz : w.heap.size + 1 ≤ wr.heap.size := HP.out.2.2.2
    by_cases hlt : k < l.length
    · have d1 : decide ((k : Int) < (l.length : Int)) = true := by simp; omega
      have hcell : wr.cell? ⟨g, k, none⟩ = some (.int .u8 (l[k]?.getD 0).toNat) := by
        rw [World.cell?_of_block (w := w) (a := ⟨g, k, none⟩) (HP.out.2.2.1.block g hg hgb)]; exact HC.out k hlt
      have HN := Lib.hid (show pctEnc P (l.take (k + 1)) = pctEnc P (l.take k) ++ pctB P (l[k]?.getD 0) by rw [List.take_succ_eq_append_getElem hlt, pctEnc_snoc, List.getElem?_eq_getElem hlt]; rfl)
      have hol : (pctEnc P (l.take k)).length ≤ 90000 := by
        have := pctEnc_le P (l.take k)
        rw [List.length_take] at this; omega
      generalize l[k]?.getD 0 = c at hcell HN
      have hcb := c.toNat_lt
      by_cases h37 : c.toNat = 37
      · have HE := Lib.hid (pctB_no (P := P) (.inl h37))
        have e37 : ((c.toNat : Int) != 37) = false := by simp; omega
        clear h37
        go_wp2_with fail
        refine (writeByte_any (c := 37) rfl bldT104 HP.out.1 (by omega) hsz).mono ?_
        rintro e w1 ⟨rfl, HB1, HW1⟩
        go_wp2_with fail
        refine (writeByte_any (c := hexD (c.toNat / 16)) (congrArg Int.ofNat (hexD_at (c.toNat / 16) (by omega))) bldT104 HB1 (by simp; omega) (by have := HW1.size; omega)).mono ?_
        rintro e w2 ⟨rfl, HB2, HW2⟩
        go_wp2_with fail
        refine (writeByte_any (c := hexD (c.toNat % 16)) (congrArg Int.ofNat (hexD_at (c.toNat % 16) (by omega))) bldT104 HB2 (by simp; omega) (by have := HW1.size; have := HW2.size; omega)).mono ?_
        rintro e w3 ⟨rfl, HB3, HW3⟩
        have HF := Lib.hid (HP.out.next hbl HB3 (by rw [HN.out, HE.out]; simp) ((HW1.trans HW2).trans HW3))
        clear HB1 HW1 HB2 HW2 HB3 HW3
        go_wp2_with fail
        go_roundw
        case rel => exact ⟨k + 1, by omega, by go_num, HF⟩
        case measure => (simp [intOf]; try omega)
      · have e37 : ((c.toNat : Int) != 37) = true := by simp; omega
        have HH := Lib.hid (fun w => has_any P c w)
        have HA := HP.out.2.1
        have c0 := HA.cell 0 (by decide)
        have c1 := HA.cell 1 (by decide)
        have c2 := HA.cell 2 (by decide)
        have c3 := HA.cell 3 (by decide)
        clear HA
        cases hp : P c.toNat with
        | true =>
          have HE := Lib.hid (pctB_yes h37 hp)
          rw [hp] at HH
          clear h37 hp
          go_wp2_with fail
          refine (HH.out _).mono ?_
          rintro e wx ⟨rfl, HBx⟩
          go_wp2_with fail
          refine (writeByte_any (c := c) rfl bldT104 (HP.out.1.below HBx) (by omega) (by have := HBx.size; omega)).mono ?_
          rintro e w3 ⟨rfl, HB3, HW3⟩
          have HF := Lib.hid (HP.out.next hbl HB3 (by rw [HN.out, HE.out]) ((But.of_below (HBx.mono hsz)).trans HW3))
          clear HB3 HW3
          go_wp2_with fail
          go_roundw
          case rel => exact ⟨k + 1, by omega, by go_num, HF⟩
          case measure => (simp [intOf]; try omega)
        | false =>
          have HE := Lib.hid (pctB_no (P := P) (.inr hp))
          rw [hp] at HH
          clear h37 hp
          go_wp2_with fail
          refine (HH.out _).mono ?_
          rintro e wx ⟨rfl, HBx⟩
          have hx := HBx.size
          go_wp2_with fail
          refine (writeByte_any (c := 37) rfl bldT104 (HP.out.1.below HBx) (by omega) (by omega)).mono ?_
          rintro e w1 ⟨rfl, HB1, HW1⟩
          go_wp2_with fail
          refine (writeByte_any (c := hexD (c.toNat / 16)) (congrArg Int.ofNat (hexD_at (c.toNat / 16) (by omega))) bldT104 HB1 (by simp; omega) (by have := HW1.size; omega)).mono ?_
          rintro e w2 ⟨rfl, HB2, HW2⟩
          go_wp2_with fail
          refine (writeByte_any (c := hexD (c.toNat % 16)) (congrArg Int.ofNat (hexD_at (c.toNat % 16) (by omega))) bldT104 HB2 (by simp; omega) (by have := HW1.size; have := HW2.size; omega)).mono ?_
          rintro e w3 ⟨rfl, HB3, HW3⟩
          have HF := Lib.hid (HP.out.next hbl HB3 (by rw [HN.out, HE.out]; simp) ((But.of_below (HBx.mono hsz)).trans ((HW1.trans HW2).trans HW3)))
          clear HB1 HW1 HB2 HW2 HB3 HW3
          go_wp2_with fail
          go_roundw
          case rel => exact ⟨k + 1, by omega, by go_num, HF⟩
          case measure => (simp [intOf]; try omega)
    · have d1 : decide ((k : Int) < (l.length : Int)) = false := by simp; omega
      have HE := Lib.hid (show l.take k = l from List.take_of_length_le (by omega))
      have hP := HP.out
      unfold PutAt at hP
      rw [HE.out] at hP
      have hP := Lib.hid hP
      go_wp2_with fail
      go_end0
      exact ⟨rfl, hP.out.1, hP.out.2.2.1, hP.out.2.2.2⟩

set_option maxRecDepth 100000 in
set_option maxHeartbeats 4000000 in
theorem encode_any (P : Nat → Bool) (s : ByteArray) (w : World) (hs : s.size ≤ 30000) : Calls Tryz.prog 51 #[.string s, setV P] w (RetV (S (pctEnc P s.data.toList)) w) := by
  have hcv := conv_bytes ((w.alloc (.cells #[.int .u64 (word P 0), .int .u64 (word P 1), .int .u64 (word P 2), .int .u64 (word P 3)] 60)).alloc (.cells #[.pointer none, .slice none 0 0] 104)) s
  have hR := BRow.of_bytes ((w.alloc (.cells #[.int .u64 (word P 0), .int .u64 (word P 1), .int .u64 (word P 2), .int .u64 (word P 3)] 60)).alloc (.cells #[.pointer none, .slice none 0 0] 104)) s
  have hB := bytes_below ((w.alloc (.cells #[.int .u64 (word P 0), .int .u64 (word P 1), .int .u64 (word P 2), .int .u64 (word P 3)] 60)).alloc (.cells #[.pointer none, .slice none 0 0] 104)) s
  generalize (Lib.bytesCells ((w.alloc (.cells #[.int .u64 (word P 0), .int .u64 (word P 1), .int .u64 (word P 2), .int .u64 (word P 3)] 60)).alloc (.cells #[.pointer none, .slice none 0 0] 104)) 5 s).size = cc at hR
  generalize Lib.bytesWorld ((w.alloc (.cells #[.int .u64 (word P 0), .int .u64 (word P 1), .int .u64 (word P 2), .int .u64 (word P 3)] 60)).alloc (.cells #[.pointer none, .slice none 0 0] 104)) 5 s = W1 at hcv hR hB
  generalize grownCap ((w.alloc (.cells #[.int .u64 (word P 0), .int .u64 (word P 1), .int .u64 (word P 2), .int .u64 (word P 3)] 60)).alloc (.cells #[.pointer none, .slice none 0 0] 104)) s.size 0 5 = cap at hcv
  have hb : ((w.alloc (.cells #[.int .u64 (word P 0), .int .u64 (word P 1), .int .u64 (word P 2), .int .u64 (word P 3)] 60)).alloc (.cells #[.pointer none, .slice none 0 0] 104)).heap[w.heap.size + 1]? = some (.cells #[.pointer none, .slice none 0 0] 104 (0, 0)) := heap_alloc2_new _ _ _
  have hA := ((Below.refl w.heap.size w).alloc (Nat.le_refl _) (.cells #[.int .u64 (word P 0), .int .u64 (word P 1), .int .u64 (word P 2), .int .u64 (word P 3)] 60)).alloc (by simp) (.cells #[.pointer none, .slice none 0 0] 104)
  rw [show ((w.alloc (.cells #[.int .u64 (word P 0), .int .u64 (word P 1), .int .u64 (word P 2), .int .u64 (word P 3)] 60)).alloc (.cells #[.pointer none, .slice none 0 0] 104)).heap.size = w.heap.size + 2 by simp] at hcv hR hB
  have HW := Lib.hid (hA.trans (hB.mono (by omega)))
  have HBk := Lib.hid ((hB.block (w.heap.size + 1) (by omega)).trans hb)
  have HC := Lib.hid (fun j (hj : j < s.data.toList.length) => hR.cell j hj)
  have hlt : w.heap.size + 2 < W1.heap.size := by
    obtain ⟨cs, h1, _⟩ := hR
    exact (Array.getElem?_eq_some_iff.1 h1).1
  rw [← size_len] at hcv
  clear hR hB hb hA
  unfold setV
  go_enter Tryz.func51, Tryz.ntmps51
  go_wp2_with fail
  refine (put_any P s.data.toList (by rw [size_len]; exact hs) hlt (by omega) HBk.out HC.out).mono ?_
  rintro e w2 ⟨rfl, HB2, HW2, hz⟩
  have HT := Lib.hid (HW.out.trans (HW2.below (B0 := w.heap.size) (by omega) (by omega)))
  by_cases h0 : pctEnc P s.data.toList = []
  · rw [h0] at HB2
    have HE := Lib.hid h0
    clear h0 HW2
    go_wp2_with fail
    refine (string_nil HB2).mono ?_
    rintro e w3 ⟨rfl, HB3⟩
    go_wp2_with fail
    go_ret
    exact RetV.mk (by rw [HE.out]; rfl) (HT.out.trans (HB3.mono (by omega)))
  · clear HW2
    have H0 := Lib.hid h0
    clear h0
    go_wp2_with fail
    refine (string_any HB2 H0.out).mono ?_
    rintro e w3 ⟨rfl, HB3⟩
    go_wp2_with fail
    go_ret
    exact RetV.mk rfl (HT.out.trans (HB3.mono (by omega)))
end Go.Proofs.YteigjobliflkdaaGreatDoor
/- Walks: location's check, text, join. -/
namespace Go.Proofs.YteigjobliflkdaaGreatDoor
open Go.RowKit

/-- Two texts lie in block g. -/
def StrTwo (w : World) (g : Nat) (p q : ByteArray) : Prop := w.heap[g]? = some (.cells #[.string p, .string q] 122 (0, 0))
theorem StrTwo.cell {w : World} {g : Nat} {p q : ByteArray} (h : StrTwo w g p q) : w.cell? ⟨g, 0, none⟩ = some (.string p) ∧ w.cell? ⟨g, 1, none⟩ = some (.string q) := by
  constructor <;> (rw [cell_of_row w g _ _ 122 _ h]; rfl)
theorem StrTwo.below {w w' : World} {g : Nat} {p q : ByteArray} (h : StrTwo w g p q) (hB : Below w.heap.size w w') : StrTwo w' g p q := by
  unfold StrTwo; rw [hB.block g (Array.getElem?_eq_some_iff.1 h).1]; exact h
theorem StrTwo.drew {w : World} {g : Nat} {p q : ByteArray} (h : StrTwo w g p q) : StrTwo w.drew g p q := h

theorem normalP_B {s : ByteArray} {b : Bool} (h : dNormal s.data.toList = b) (w : World) (hG : Good w) (hs : s.size ≤ 60000) : Calls Tryz.prog 102 #[.string s] w (RetV (.bool b) w) := by
  have := normalP_any s w hG hs; rwa [h] at this

set_option maxRecDepth 100000 in
set_option maxHeartbeats 1600000 in
theorem check_any (p q : ByteArray) (w : World) (hG : Good w) (hp : p.size ≤ 60000) (hq : q.size ≤ 60000) :
    Calls Tryz.prog 119 #[.agg #[.string p, .string q]] w (RetV (.int .i64 (placeErr p.data.toList q.data.toList)) w) := by
  have hB0 := one_below w (.cells #[.string p, .string q] 122)
  have hG1 := hG.next hB0
  have hT : StrTwo (w.alloc (.cells #[.string p, .string q] 122)) w.heap.size p q := heap_alloc_new _ _
  obtain ⟨x0, x1⟩ := hT.cell
  by_cases h1 : 128 < p.size
  · have HF := Lib.hid (show placeErr p.data.toList q.data.toList = 4 by unfold placeErr; rw [if_pos (by rw [size_len]; exact h1)])
    have d1 : decide ((128 : Int) < (p.size : Int)) = true := by simp; omega
    go_enter Tryz.func119, Tryz.ntmps119
    go_wp2_with fail
    go_ret
    exact RetV.mk (by rw [HF.out]; rfl) hB0
  have d1 : decide ((128 : Int) < (p.size : Int)) = false := by simp; omega
  have HP1 := Lib.hid (show ¬ 128 < p.data.toList.length by rw [size_len]; exact h1)
  cases hn : dNormal p.data.toList with
  | false =>
    have HF := Lib.hid (show placeErr p.data.toList q.data.toList = 18 by unfold placeErr; rw [if_neg HP1.out, if_pos hn])
    have HN := Lib.hid (normalP_B hn)
    clear hn
    go_enter Tryz.func119, Tryz.ntmps119
    go_wp2_with fail
    refine (HN.out _ hG1 hp).mono ?_
    rintro e w2 ⟨rfl, HB2⟩
    go_wp2_with fail
    go_ret
    exact RetV.mk (by rw [HF.out]; rfl) (below2 hB0 HB2)
  | true =>
    have HN := Lib.hid (normalP_B hn)
    have HN1 := Lib.hid (show ¬ dNormal p.data.toList = false by rw [hn]; decide)
    have HT2 := Lib.hid (fun (w2 : World) (h : Below (w.alloc (.cells #[.string p, .string q] 122)).heap.size (w.alloc (.cells #[.string p, .string q] 122)) w2) => (hT.below h).cell)
    clear hn
    by_cases h2 : 128 < q.size
    · have HF := Lib.hid (show placeErr p.data.toList q.data.toList = 4 by unfold placeErr; rw [if_neg HP1.out, if_neg HN1.out, if_pos (by rw [size_len]; exact h2)])
      have d2 : decide ((128 : Int) < (q.size : Int)) = true := by simp; omega
      go_enter Tryz.func119, Tryz.ntmps119
      go_wp2_with fail
      refine (HN.out _ hG1 hp).mono ?_
      rintro e w2 ⟨rfl, HB2⟩
      obtain ⟨y0, y1⟩ := HT2.out _ HB2
      go_wp2_with fail
      go_ret
      exact RetV.mk (by rw [HF.out]; rfl) (below2 hB0 HB2)
    have d2 : decide ((128 : Int) < (q.size : Int)) = false := by simp; omega
    have HQ1 := Lib.hid (show ¬ 128 < q.data.toList.length by rw [size_len]; exact h2)
    obtain ⟨b, hb⟩ : ∃ b, qryB q.data.toList = b := ⟨_, rfl⟩
    have HQ := Lib.hid (locquery_B hb hq)
    have HF := Lib.hid (show placeErr p.data.toList q.data.toList = if b then 0 else 3 by unfold placeErr; rw [if_neg HP1.out, if_neg HN1.out, if_neg HQ1.out, hb]; cases b <;> rfl)
    clear hb
    cases b with
    | true =>
      go_enter Tryz.func119, Tryz.ntmps119
      go_wp2_with fail
      refine (HN.out _ hG1 hp).mono ?_
      rintro e w2 ⟨rfl, HB2⟩
      obtain ⟨y0, y1⟩ := HT2.out _ HB2
      go_wp2_with fail
      refine (HQ.out _).mono ?_
      rintro e w3 ⟨rfl, HB3⟩
      go_wp2_with fail
      go_ret
      exact RetV.mk (by rw [HF.out]; rfl) (below2 (below2 hB0 HB2) HB3)
    | false =>
      go_enter Tryz.func119, Tryz.ntmps119
      go_wp2_with fail
      refine (HN.out _ hG1 hp).mono ?_
      rintro e w2 ⟨rfl, HB2⟩
      obtain ⟨y0, y1⟩ := HT2.out _ HB2
      go_wp2_with fail
      refine (HQ.out _).mono ?_
      rintro e w3 ⟨rfl, HB3⟩
      go_wp2_with fail
      go_ret
      exact RetV.mk (by rw [HF.out]; rfl) (below2 (below2 hB0 HB2) HB3)

set_option maxRecDepth 100000 in
set_option maxHeartbeats 4000000 in
theorem text_any (p q : ByteArray) (w : World) (hp : p.size ≤ 30000) (hq : q.size ≤ 60000) :
    Calls Tryz.prog 121 #[.agg #[.string p, .string q]] w (RetV (S (locText p.data.toList q.data.toList)) w) := by
  have hB0 := one_below w (.cells #[.string p, .string q] 122)
  have hT : StrTwo (w.alloc (.cells #[.string p, .string q] 122)) w.heap.size p q := heap_alloc_new _ _
  obtain ⟨x, hx⟩ : ∃ x : ByteArray, x.data.toList = pctEnc stayN p.data.toList := ⟨⟨(pctEnc stayN p.data.toList).toArray⟩, rfl⟩
  have hxs : x.size ≤ 90000 := by have := pctEnc_le stayN p.data.toList; rw [← size_len, hx]; rw [size_len] at this; omega
  have HX := Lib.hid (fun w => encode_any stayN p w hp)
  rw [show S (pctEnc stayN p.data.toList) = .string x by rw [← hx]; exact (S_of x).symm] at HX
  unfold setV at HX
  have HXE := Lib.hid hx
  clear hx
  have HS := Lib.hid locStay_any
  unfold setV at HS
  have HR := Lib.hid (fun t : ByteArray => fun (ht : t.data.toList = locText p.data.toList q.data.toList) => show Value.string t = S (locText p.data.toList q.data.toList) by rw [← ht]; exact S_of t)
  obtain ⟨c0, c1⟩ := hT.cell
  have HT := Lib.hid hT
  clear hT
  by_cases hq0 : q.size = 0
  · have e1 := bs_nil hq0
    have HQ := Lib.hid (show q.data.toList = [] from List.length_eq_zero_iff.1 (by rw [size_len]; exact hq0))
    clear hq0
    go_enter Tryz.func121, Tryz.ntmps121
    go_wp2_with fail
    go_region_with (first
      | (go_at_call 59; refine (HS.out _).mono ?_; rintro e w2 ⟨rfl, HB2⟩; (have HT2 := Lib.hid ((HT.out.drew).below HB2)); (have y0 := HT2.out.cell.1))
      | (go_at_call 51; refine (HX.out _).mono ?_; rintro e w3 ⟨rfl, HB3⟩; (have HT3 := Lib.hid (HT2.out.below HB3)); (have z1 := HT3.out.cell.2)))
    all_goals
      go_wp2_with fail
      go_ret
      exact RetV.mk (HR.out _ (by simp [HXE.out, locText, qTail, HQ.out])) (below2 (below2 hB0.drew HB2) HB3)
  · have e1 := bs_ne (show 0 < q.size by omega)
    have HQ := Lib.hid (show (q.data.toList == []) = false by rw [beq_eq_false_iff_ne]; intro e; have := size_len q; rw [e] at this; simp at this; omega)
    clear hq0
    go_enter Tryz.func121, Tryz.ntmps121
    go_wp2_with fail
    go_region_with (first
      | (go_at_call 59; refine (HS.out _).mono ?_; rintro e w2 ⟨rfl, HB2⟩; (have HT2 := Lib.hid ((HT.out.drew).below HB2)); (have y0 := HT2.out.cell.1))
      | (go_at_call 51; refine (HX.out _).mono ?_; rintro e w3 ⟨rfl, HB3⟩; (have HT3 := Lib.hid (HT2.out.below HB3)); (have z1 := HT3.out.cell.2)))
    all_goals
      go_wp2_with fail
      go_ret
      exact RetV.mk (HR.out _ (by simp [ByteArray.data_append, HXE.out, locText, qTail, HQ.out])) (below2 (below2 hB0.drew HB2) HB3)

/-- Three texts lie in block g. -/
theorem join3_any {w : World} {g cap : Nat} {a b c : ByteArray} (h : w.heap[g]? = some (.cells #[.string a, .string b, .string c] 9 (0, 0))) (hcap : 3 ≤ cap) (hs : a.size + b.size + c.size ≤ 1000000) :
    Calls Tryz.prog 120 #[.slice (some ⟨g, 0, none⟩) 3 cap] w (RetV (S (a.data.toList ++ b.data.toList ++ c.data.toList)) w) := by
  have hj : Lib.join ([a, b, c].map (·.data.toList)) (⟨#[]⟩ : ByteArray).data.toList = a.data.toList ++ b.data.toList ++ c.data.toList := by simp [Lib.join, List.intercalate]
  obtain ⟨t, ht⟩ : ∃ t : ByteArray, t.data.toList = a.data.toList ++ b.data.toList ++ c.data.toList := ⟨⟨(a.data.toList ++ b.data.toList ++ c.data.toList).toArray⟩, rfl⟩
  rw [← ht, ← S_of]
  have HJ := Lib.hid (show Calls Tryz.prog 160 #[.slice (some ⟨g, 0, none⟩) 3 cap, .string ⟨#[]⟩] w (RetV (.string t) w) by
    have := Tryz.strings_Join g 0 cap [a, b, c] ⟨#[]⟩ w (fun j x hx => by
      rw [Nat.zero_add, cell_of_row _ _ _ _ 9 _ h]
      match j, hx with
      | 0, hx => injection hx with hx; rw [← hx]; rfl
      | 1, hx => injection hx with hx; rw [← hx]; rfl
      | 2, hx => injection hx with hx; rw [← hx]; rfl) (Array.getElem?_eq_some_iff.1 h).1 (by simp) (by simpa using hcap) (by rw [hj]; simp; omega)
    rw [hj, ← ht, bs_mk] at this
    exact this)
  clear hj ht
  go_enter Tryz.func120, Tryz.ntmps120
  go_wp2_with fail
  refine HJ.out.mono ?_
  rintro e w2 ⟨rfl, HB2⟩
  go_wp2_with fail
  go_ret
  exact RetV.mk rfl HB2
end Go.Proofs.YteigjobliflkdaaGreatDoor
