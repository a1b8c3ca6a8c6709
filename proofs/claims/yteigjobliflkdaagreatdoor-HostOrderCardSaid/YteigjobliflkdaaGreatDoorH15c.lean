/- Walks: strconv.AppendInt at base 10 onto a slice that has no room. -/
import Derived.Test.YteigjobliflkdaaGreatDoorH15b
import Derived.Lib.AppendStr
import Derived.ArgAppend
namespace Go.Proofs.YteigjobliflkdaaGreatDoor
open Go.RowKit

theorem info5 : (Tryz.prog.info? 5).map (fun i => (i.zero, i.size, i.bytes)) = some (some (.int .u8 0), 1, 1) := by kernel_rfl

/-- 'append(b, text...)' where b has no room: a new row. -/
theorem wpGrowStr {ops : Array Oper} {rest : List Oper} {o : Oper} {a : Act} {Q : Exit → Act → World → Prop} {w : World} (hgd : o.guard = none) (sl x : Operand)
    (ho : o.op = .call { callee := .builtin .append, args := #[sl, x], argTypes := #[75, 9] })
    {b : Addr} {n cap : Nat} {olds : List Value} (hlo : olds.length = n) (holds : ∀ j v, olds[j]? = some v → w.cell? (b.add j) = some v) (s : ByteArray)
    (hs : a.eval sl = .slice (some b) n cap) (hx : a.eval x = .string s) (hg : cap < n + s.size) (hsz : n + s.size ≤ 100000)
    (h : ∀ v' w', w'.ownsRow w.heap.size 5 1 v' (n + s.size) (olds ++ Lib.strCells s) → Below w.heap.size w w' → wpList Tryz.prog ops Q rest (a.put o.dst v') w') :
    wpList Tryz.prog ops Q (o :: rest) a w := by
  obtain ⟨i0, hi, hz0, hz1, hz2⟩ := info_parts info5
  refine wpList_plain hgd fun K hK => ?_
  have hr := Lib.run_append_grow_string (P := Tryz.prog) w 75 9 o.type 5 i0 (.int .u8 0) Tryz.underlying75 Tryz.underlying9 hi hz0 b n cap olds (by rw [hz1]; omega) holds s hg (by omega) (growslice_fits hg (by rw [hz2]; omega))
  have hge := grownCap_ge w (n + s.size) cap 5
  have hcm : grownCap w (n + s.size) cap 5 ≤ maxLen := grownCap_le_maxLen w (n + s.size) cap 5 (by unfold maxLen; omega)
  unfold Oper.wp execOp
  simp only [ho, resolve, invoke, builtin, Sem.run_bind, Sem.run_pure, Result.andThen_ok, List.map_toArray, List.map_cons, List.map_nil, hs, hx, hr]
  refine hK _ _ (h _ _ ⟨by simp [hlo, Lib.strCells_length], .inr ⟨w.heap.size, _, _, rfl, Nat.le_refl _, heap_alloc_new w.drew _, hge, hcm, ?_, ?_⟩⟩ (((Below.refl _ _).drew).alloc (Nat.le_refl _) _))
  · simp only [Array.size_append, List.size_toArray, size_zeroCells, hlo, Lib.strCells_length]
    simp [Value.cells]; omega
  · simp only [Array.toList_append, List.append_assoc]
    rw [← List.append_assoc, List.take_append_of_le_length (by simp [hlo, Lib.strCells_length]), List.take_of_length_le (by simp [hlo, Lib.strCells_length])]

/-- internal/strconv.AppendUint at base 10 onto a slice without room. -/
theorem small_any (u : Nat) (hu : u < 100) (w : World) : Calls Tryz.prog 212 #[.int .i64 u] w fun e w' => e = .returned (.string ⟨(Lib.decDigits u).toArray⟩) ∧ w' = w :=
  Any.internal_strconv_small { Tryz.laysM176 with } u hu w

set_option maxRecDepth 100000 in
set_option maxHeartbeats 1600000 in
theorem appUint_small (b n u : Nat) (hu : u < 100) (hn : n ≤ 60000) (olds : List Value) (hlo : olds.length = n) (w : World) (holds : ∀ j v, olds[j]? = some v → w.cell? ((⟨b, 0, none⟩ : Addr).add j) = some v) :
    Calls Tryz.prog 211 #[.slice (some ⟨b, 0, none⟩) n n, .int .u64 u, .int .i64 10] w fun e w' => ∃ v', e = .returned v' ∧ w'.ownsRow w.heap.size 5 1 v' (n + (Lib.decDigits u).length) (olds ++ Lib.byteCells (Lib.decDigits u)) ∧ Below w.heap.size w w' := by
  have hl1 : 1 ≤ (Lib.decDigits u).length := by rw [Lib.decDigits_length]; exact Lib.nDigits_pos u
  have hl2 : (Lib.decDigits u).length ≤ 20 := by
    rw [Lib.decDigits_length]
    by_cases h10 : u < 10
    · rw [Lib.nDigits_small h10]; omega
    · rw [Lib.nDigits_big h10, Lib.nDigits_small (show u / 10 < 10 by omega)]; omega
  have hsz : (⟨(Lib.decDigits u).toArray⟩ : ByteArray).size = (Lib.decDigits u).length := by simp [ByteArray.size]
  have HO := Lib.hid holds
  have HL := Lib.hid hlo
  clear holds hlo
  go_enter Tryz.func211, Tryz.ntmps211
  go_wp2_with (first
    | (go_at_call 212; refine (small_any u hu _).mono ?_; rintro e w' ⟨rfl, rfl⟩)
    | (at_builtin; refine wpGrowStr rfl _ _ rfl HL.out HO.out ⟨(Lib.decDigits u).toArray⟩ rfl rfl (by rw [hsz]; omega) (by rw [hsz]; omega) ?_))
  intro v' w1 hown' HB
  go_wp2
  go_ret
  exact ⟨v', rfl, hown', HB⟩

open Go.Sort Go.Lib in
set_option maxHeartbeats 12800000 in
set_option maxRecDepth 100000 in
theorem appUint_big (b n u : Nat) (hu : 100 ≤ u) (hu2 : u ≤ 65535) (hn : n ≤ 60000) (olds : List Value) (hlo : olds.length = n) (w : World) (hG : Good w) (hb : b < w.heap.size) (holds : ∀ j v, olds[j]? = some v → w.cell? ((⟨b, 0, none⟩ : Addr).add j) = some v) :
    Calls Tryz.prog 211 #[.slice (some ⟨b, 0, none⟩) n n, .int .u64 u, .int .i64 10] w fun e w' => ∃ v', e = .returned v' ∧ w'.ownsRow w.heap.size 5 1 v' (n + (Lib.decDigits u).length) (olds ++ Lib.byteCells (Lib.decDigits u)) ∧ Below w.heap.size w w' := by
  have htab := hG.pow
  obtain ⟨i0, hi, hz0, hz1, hz2⟩ := info_parts info5
  have hu64 : u < 18446744073709551616 := by omega
  have hu1 : 1 ≤ u := by omega
  have hnd1 := Lib.nDigits_pos u
  have hnd20 : Lib.nDigits u ≤ 20 := by have := Lib.numDigits_eq u hu1 hu64; split at this <;> omega
  have hal : Tryz.prog.arrayLen 196 = 24 := by simp [Program.arrayLen, Tryz.underlying196]
  have hsl : ∀ W, (Instr.sliceAt 196 (.pointer (some ⟨w.heap.size, 0, none⟩)) none (some (.int .i64 (Lib.nDigits u : Int))) none).run Tryz.prog W = .ok (.slice (some ⟨w.heap.size, 0, none⟩) (Lib.nDigits u) 24) W := fun W => by
    rw [run_sliceAt_array_h W 196 ⟨w.heap.size, 0, none⟩ (by simp [Program.arrayLen, Program.elem, Tryz.underlying196]) .i64 (Lib.nDigits u : Int) (by omega) (by rw [hal]; omega)]
    go_simp
  have hH0 := Lib.holds_zero0 w 196 (Lib.nDigits u) (by omega)
  have hfmt := Any.internal_strconv_formatBase10 (ρ := Tryz.laysM176_ren) { Tryz.laysM176 with } w.heap.size 0 24 u (Array.replicate (Lib.nDigits u) 0) (w.alloc (.cells Lib.zeros24 196)) hH0 (by rw [Array.size_replicate]; exact Lib.lt_pow_nDigits u) hu64 (by rw [Array.size_replicate]; omega)
  rw [Array.size_replicate] at hfmt
  have hnum := Any.internal_strconv_numDigits (ρ := Tryz.laysM176_ren) { Tryz.laysM176 with } u hu1 hu64 (w.alloc (.cells Lib.zeros24 196)) (Lib.tabIs_alloc htab _)
  have HH0 := Lib.hid hH0
  have iu : (100 : Int) ≤ (u : Int) := by omega
  have HF0 := Lib.hid hfmt
  have HN0 := Lib.hid hnum
  have HO := Lib.hid holds
  have HLO := Lib.hid hlo
  clear hH0 hal hfmt hnum htab holds hlo
  go_enter Tryz.func211, Tryz.ntmps211
  go_wp2_with (first
    | (go_at_call 213; refine (HN0.out).mono ?_; rintro e w' ⟨rfl, rfl⟩))
  go_at_call 214
  refine (HF0.out).mono ?_
  rintro e w' ⟨rfl, k, v', dk, rfl, hF⟩
  have hcells : ∀ j u', (Lib.byteCells (Lib.decDigits u))[j]? = some u' → ((putRow (fun (b : UInt8) => Value.int .u8 (b.toNat : Int)) (w.alloc (.cells Lib.zeros24 196)) w.heap.size 0 dk).drewN k).cell? ((⟨w.heap.size, 0, none⟩ : Addr).add j) = some u' := by
    intro j u' hj
    have hjl : j < (Lib.decDigits u).length := by
      have h5 := (List.getElem?_eq_some_iff.1 hj).1
      rwa [Lib.byteCells_length] at h5
    have e5 : (Lib.byteCells (Lib.decDigits u))[j]? = some (Value.int .u8 ((Lib.decDigits u)[j].toNat : Int)) := by simp [Lib.byteCells, hjl]
    rw [e5] at hj
    cases hj
    rw [Lib.row_is_numeral hF j hjl, Lib.add_plain, World.cell?_drewN]
    exact cell?_putRow (fun (b : UInt8) => Value.int .u8 (b.toNat : Int)) _ w.heap.size 0 _ dk HH0.out (by rw [hF.size, Array.size_replicate]) j (by rw [hF.size]; rw [Lib.decDigits_length] at hjl; exact hjl)
  obtain ⟨os, eo⟩ := Lib.fin_at w (.cells Lib.zeros24 196) dk k 0
  have hnx2 : Below w.heap.size w ((putRow (fun (b : UInt8) => Value.int .u8 (b.toNat : Int)) (w.alloc (.cells Lib.zeros24 196)) w.heap.size 0 dk).drewN k) := by rw [eo]; exact Lib.below_grow w.heap.size w (Nat.le_refl _) k os
  generalize (putRow (fun (b : UInt8) => Value.int .u8 (b.toNat : Int)) (w.alloc (.cells Lib.zeros24 196)) w.heap.size 0 dk).drewN k = W2 at hcells hnx2 ⊢
  have HC := Lib.hid hcells
  have hold : ∀ b', some (⟨b, 0, none⟩ : Addr) = some b' → ∀ j u, olds[j]? = some u → W2.cell? (b'.add j) = some u := by
    intro b' e j u hj
    cases e
    rw [hnx2.cell (by rw [Lib.add_plain]; exact hb)]
    exact HO.out j u hj
  have HOL := Lib.hid hold
  clear eo HH0 HF0 HN0 hcells hold hF
  go_wp2_with (at_builtin; refine wpList_append_grows _ rfl _ _ 75 rfl 5 i0 (.int .u8 0) 1 1 Tryz.underlying75 hi hz0 hz1 hz2 rfl (by decide) (some ⟨b, 0, none⟩) n n olds rfl (by intro h; cases h) (by rw [HLO.out]; omega) HOL.out ⟨w.heap.size, 0, none⟩ (Lib.nDigits u) 24 (Lib.byteCells (Lib.decDigits u)) rfl ?c0 HC.out ?c2 ?c6 ?c3 ?c4 ?_)
  case c0 => rw [Lib.byteCells_length, Lib.decDigits_length, Nat.mul_one]
  case c2 => intro u' hu'; simp only [Lib.byteCells, List.mem_map] at hu'; obtain ⟨b, _, rfl⟩ := hu'; rfl
  case c6 => omega
  case c3 => unfold maxLen; omega
  case c4 => omega
  intro v2 w3 hown' hgrow
  go_wp2
  go_ret
  refine ⟨v2, rfl, ?_, hnx2.grown hgrow hnx2.size (fun k hk => by cases hk)⟩
  rw [Lib.decDigits_length]
  exact own_mono hown' hnx2.size

/-- strconv.AppendInt at base 10 onto a slice without room. -/
theorem appInt_any (b n u : Nat) (hu2 : u ≤ 65535) (hn : n ≤ 60000) (olds : List Value) (hlo : olds.length = n) (w : World) (hG : Good w) (hb : b < w.heap.size) (holds : ∀ j v, olds[j]? = some v → w.cell? ((⟨b, 0, none⟩ : Addr).add j) = some v) :
    Calls Tryz.prog 139 #[.slice (some ⟨b, 0, none⟩) n n, .int .i64 u, .int .i64 10] w fun e w' => ∃ v', e = .returned v' ∧ w'.ownsRow w.heap.size 5 1 v' (n + (Lib.itoa u).length) (olds ++ Lib.byteCells (Lib.itoa u)) ∧ Below w.heap.size w w' := by
  have H : Calls Tryz.prog 211 #[.slice (some ⟨b, 0, none⟩) n n, .int .u64 u, .int .i64 10] w fun e w' => ∃ v', e = .returned v' ∧ w'.ownsRow w.heap.size 5 1 v' (n + (Lib.decDigits u).length) (olds ++ Lib.byteCells (Lib.decDigits u)) ∧ Below w.heap.size w w' := by
    by_cases h : u < 100
    · exact appUint_small b n u h hn olds hlo w holds
    · exact appUint_big b n u (by omega) hu2 hn olds hlo w hG hb holds
  rw [← Lib.itoa_nonneg] at H
  have HH := Lib.hid H
  have H2 : Calls Tryz.prog 185 #[.slice (some ⟨b, 0, none⟩) n n, .int .i64 u, .int .i64 10] w fun e w' => ∃ v', e = .returned v' ∧ w'.ownsRow w.heap.size 5 1 v' (n + (Lib.itoa u).length) (olds ++ Lib.byteCells (Lib.itoa u)) ∧ Below w.heap.size w w' := by
    clear H holds hlo
    go_enter Tryz.func185, Tryz.ntmps185
    go_wp2_with fail
    refine (HH.out).mono ?_
    rintro e w1 ⟨v', rfl, hown, HB⟩
    go_wp2_with fail
    go_ret
    exact ⟨v', rfl, hown, HB⟩
  have HH2 := Lib.hid H2
  clear H H2 holds hlo HH
  go_enter Tryz.func139, Tryz.ntmps139
  go_wp2_with fail
  refine (HH2.out).mono ?_
  rintro e w1 ⟨v', rfl, hown, HB⟩
  go_wp2_with fail
  go_ret
  exact ⟨v', rfl, hown, HB⟩
end Go.Proofs.YteigjobliflkdaaGreatDoor
