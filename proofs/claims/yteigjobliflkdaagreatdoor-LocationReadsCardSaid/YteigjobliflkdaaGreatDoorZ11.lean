/- Texts of this claim, joined in build order: P17, L3, R17d, L4. -/
import Derived.Test.YteigjobliflkdaaGreatDoorZ10
import Derived.Test.YteigjobliflkdaaGreatDoorZ7
import Derived.Test.YteigjobliflkdaaGreatDoorZ9
import Derived.Test.YteigjobliflkdaaGreatDoorZ4
/- Plain: Locations and targets that are built are read back; normal paths made of pieces. No program stands here. -/
namespace Go.Proofs.YteigjobliflkdaaGreatDoor
open Go

/-! Escapes are read back -/
theorem hexV_hexD : ∀ n : Nat, n < 16 → hexV (hexD n) = (n : Int) := by decide
theorem hexD_char : ∀ n : Nat, n < 16 → charN (hexD n).toNat = true ∧ hexD n ≠ 63 ∧ hexD n ≠ 37 := by decide
/-- What the escape of a byte says. -/
def escOf (b : UInt8) : List UInt8 := [37, hexD (b.toNat / 16), hexD (b.toNat % 16)]
theorem escB_escOf (b : UInt8) (t : List UInt8) : escB (escOf b ++ t) = true ∧ escV (escOf b ++ t) = b := by
  have hb := b.toNat_lt
  have h1 := hexV_hexD (b.toNat / 16) (by omega)
  have h2 := hexV_hexD (b.toNat % 16) (by omega)
  constructor
  · simp [escOf, escB, h1, h2]; omega
  · simp only [escOf, List.cons_append, List.nil_append, escV, h1, h2, Int.toNat_natCast]
    apply UInt8.toNat_inj.1
    rw [UInt8.toNat_ofNat']; omega
/-- A beginning says o whatever follows. -/
def Says (e o : List UInt8) : Prop := ∀ t, pctDec (e ++ t) = (pctDec t).map (o ++ ·)
theorem Says.nil : Says [] [] := fun t => by cases h : pctDec t <;> simp [h]
theorem Says.app {e o e' o' : List UInt8} (h : Says e o) (k : Says e' o') : Says (e ++ e') (o ++ o') := fun t => by
  rw [List.append_assoc, h, k]; cases pctDec t <;> simp
theorem Says.esc (b : UInt8) : Says (escOf b) [b] := fun t => by
  obtain ⟨h1, h2⟩ := escB_escOf b t
  have e : escOf b ++ t = 37 :: (hexD (b.toNat / 16) :: hexD (b.toNat % 16) :: t) := rfl
  rw [e] at h1 h2 ⊢
  rw [pctDec_cons, if_pos h1, h2]; rfl
theorem Says.lit {b : UInt8} (hb : b ≠ 37) : Says [b] [b] := fun t => by
  have h : escB (b :: t) = false := by
    match t with
    | [] => rfl
    | [_] => rfl
    | _ :: _ :: _ => simp [escB, hb]
  show pctDec (b :: t) = _
  rw [pctDec_cons, h, if_neg (by decide), if_neg hb]; rfl
theorem Says.three {x y z : UInt8} (h : escB [x, y, z] = true) : Says [x, y, z] [escV [x, y, z]] := fun t => by
  show pctDec (x :: y :: z :: t) = _
  rw [pctDec_cons, if_pos (show escB (x :: y :: z :: t) = true from h)]; rfl
theorem Says.whole {e o : List UInt8} (h : Says e o) : pctDec e = some o := by
  have := h []
  rw [List.append_nil] at this
  rw [this]; simp [pctDec, pctDecF]
theorem Says.byte (P : Nat → Bool) (b : UInt8) : Says (pctB P b) [b] := by
  unfold pctB
  split
  · rename_i h; exact Says.lit h.1
  · exact Says.esc b
theorem Says.enc (P : Nat → Bool) : ∀ l : List UInt8, Says (pctEnc P l) l
  | [] => Says.nil
  | b :: l => (Says.byte P b).app (Says.enc P l)
theorem pctDec_enc (P : Nat → Bool) (l : List UInt8) : pctDec (pctEnc P l) = some l := (Says.enc P l).whole

/-! Bytes that are written -/
/-- A byte of a raw path. -/
def rawB (b : UInt8) : Prop := charN b.toNat = true ∧ b ≠ 63
theorem escOf_raw (b : UInt8) : ∀ x ∈ escOf b, rawB x := by
  intro x hx
  have hb := b.toNat_lt
  have h1 := hexD_char (b.toNat / 16) (by omega)
  have h2 := hexD_char (b.toNat % 16) (by omega)
  simp only [escOf, List.mem_cons, List.not_mem_nil, or_false] at hx
  rcases hx with rfl | rfl | rfl
  · exact ⟨by decide, by decide⟩
  · exact ⟨h1.1, h1.2.1⟩
  · exact ⟨h2.1, h2.2.1⟩
theorem stay_char : ∀ n : Nat, n < 256 → stayN n = true → charN n = true ∧ n ≠ 63 := by decide +kernel
theorem pctEnc_raw (l : List UInt8) : ∀ x ∈ pctEnc stayN l, rawB x := by
  intro x hx
  simp only [pctEnc, List.mem_flatMap] at hx
  obtain ⟨b, _, hx⟩ := hx
  unfold pctB at hx
  split at hx
  · rename_i h
    have : x = b := by simpa using hx
    subst this
    have := stay_char x.toNat x.toNat_lt h.2
    exact ⟨this.1, fun e => this.2 (by rw [e]; rfl)⟩
  · exact escOf_raw b x hx
theorem qryB_app (a b : List UInt8) : qryB (a ++ b) = (qryB a && qryB b) := by simp [qryB]
theorem qryB_raw {l : List UInt8} (h : ∀ x ∈ l, rawB x) : qryB l = true := by
  unfold qryB; rw [List.all_eq_true]; exact fun x hx => (h x hx).1
theorem qryB_tail {q : List UInt8} (h : qryB q = true) : qryB (qTail q) = true := by
  unfold qTail
  split
  · rfl
  · have : qryB (63 :: q) = (charN 63 && qryB q) := by simp [qryB]
    rw [this, h]; decide
theorem qryB_text {p q : List UInt8} (h : qryB q = true) : qryB (locText p q) = true := by
  unfold locText; rw [qryB_app, qryB_raw (pctEnc_raw p), qryB_tail h]; rfl
theorem charN_safe {l : List UInt8} (h : qryB l = true) : safeB l = true := by
  unfold qryB at h; unfold safeB
  rw [List.all_eq_true] at h ⊢
  intro b hb
  have := h b hb
  simp only [charN, Bool.and_eq_true, decide_eq_true_eq] at this
  have h1 : b ≠ 0 := fun e => by rw [e] at this; exact absurd this.1.1 (by decide)
  have h2 : b ≠ 10 := fun e => by rw [e] at this; exact absurd this.1.1 (by decide)
  have h3 : b ≠ 13 := fun e => by rw [e] at this; exact absurd this.1.1 (by decide)
  simp [h1, h2, h3]

/-! A path and a query as they are written, taken apart -/
theorem cut_text (p q : List UInt8) : (cut1 63 (pctEnc stayN p ++ qTail q)).1 = pctEnc stayN p ∧ (cut1 63 (pctEnc stayN p ++ qTail q)).2.1 = q := by
  have hf : ∀ b ∈ pctEnc stayN p, b ≠ 63 := fun b hb => (pctEnc_raw p b hb).2
  unfold qTail
  by_cases h : (q == []) = true
  · rw [if_pos h, List.append_nil, cut1_free hf]
    exact ⟨rfl, (by simpa using h : q = []).symm⟩
  · rw [if_neg h, cut1_snoc 63 _ _ hf]; exact ⟨rfl, rfl⟩
theorem enc_head {p : List UInt8} (h : p.head? = some 47) : ∃ t, pctEnc stayN p = 47 :: t := by
  cases p with
  | nil => cases h
  | cons a p =>
    have : a = 47 := by simpa using h
    subst this
    exact ⟨pctEnc stayN p, rfl⟩
theorem dNormal_head {p : List UInt8} (h : dNormal p = true) : p.length ≤ 128 ∧ p.head? = some 47 := by
  unfold dNormal at h
  simp only [Bool.and_eq_true, decide_eq_true_eq, beq_iff_eq] at h
  exact ⟨h.1.1.2, h.1.2⟩
theorem hostIs_len {h : List UInt8} (hh : hostIs h = true) : h.length ≤ 64 := by
  unfold hostIs at hh
  cases hn : hostNormal h with
  | error e => rw [hn] at hh; cases hh
  | ok t =>
    rw [hn] at hh
    have ht : t = h := by simpa using hh
    subst ht
    unfold hostNormal at hn
    cases hs : hostSplit t with
    | error e => rw [hs] at hn; cases hn
    | ok x =>
      rw [hs] at hn
      simp only [hostWritten] at hn
      split at hn
      · cases hn
      · rename_i hl
        injection hn with hn
        rw [← hn]; omega
theorem placeErr_ok {p q : List UInt8} (h : placeErr p q = 0) : dNormal p = true ∧ p.length ≤ 128 ∧ q.length ≤ 128 ∧ qryB q = true := by
  unfold placeErr at h
  split at h
  · cases h
  · split at h
    · cases h
    · split at h
      · cases h
      · split at h
        · cases h
        · rename_i h1 h2 h3 h4
          exact ⟨by simpa using h2, by omega, by omega, by simpa using h4⟩
theorem placeErr_mk {p q : List UInt8} (h1 : dNormal p = true) (h2 : q.length ≤ 128) (h3 : qryB q = true) : placeErr p q = 0 := by
  unfold placeErr
  have := (dNormal_head h1).1
  rw [if_neg (by omega), if_neg (by rw [h1]; decide), if_neg (by omega), if_neg (by rw [h3]; decide)]
theorem locBuild_mk {h p q : List UInt8} (hh : hostIs h = true) (h1 : placeErr p q = 0) : locBuild h p q = .ok (httpL ++ h ++ locText p q) := by
  unfold locBuild
  rw [if_neg (by rw [hh]; decide), h1, if_neg (by decide)]
theorem locBuild_ok {h p q t : List UInt8} (hb : locBuild h p q = .ok t) : hostIs h = true ∧ placeErr p q = 0 ∧ t = httpL ++ h ++ locText p q := by
  unfold locBuild at hb
  split at hb
  · cases hb
  · split at hb
    · cases hb
    · rename_i h1 h2
      injection hb with hb
      exact ⟨by simpa using h1, by simpa using h2, hb.symm⟩
/-- What is built is taken apart again. -/
theorem locSplit_build {h p q t : List UInt8} (hb : locBuild h p q = .ok t) : locSplit t = some (h, p, q) := by
  obtain ⟨hh, he, rfl⟩ := locBuild_ok hb
  obtain ⟨hn, hp, hq, hqb⟩ := placeErr_ok he
  obtain ⟨u, hu⟩ := enc_head (dNormal_head hn).2
  have hrest : (httpL ++ h ++ locText p q).drop 7 = h ++ 47 :: (u ++ qTail q) := by
    rw [List.append_assoc, show (7 : Nat) = httpL.length from rfl, List.drop_left, locText, hu]; rfl
  have hcut := cut1_snoc 47 h (u ++ qTail q) (host_free hh 47 (by decide))
  have ht := cut_text p q
  rw [hu] at ht
  unfold locSplit
  rw [if_neg (by simp [httpL])]
  simp only
  rw [hrest, hcut]
  simp only
  rw [if_neg (by decide), if_neg (by rw [hh]; decide)]
  rw [show (47 : UInt8) :: (u ++ qTail q) = 47 :: u ++ qTail q from rfl, ht.1, ht.2, ← hu, pctDec_enc]
  simp only [hb, BEq.rfl, if_true]
theorem locSplit_some {l h p q : List UInt8} (hs : locSplit l = some (h, p, q)) : locBuild h p q = .ok l := by
  unfold locSplit at hs
  split at hs
  · cases hs
  · simp only at hs
    split at hs
    · cases hs
    · split at hs
      · cases hs
      · split at hs
        · cases hs
        · rename_i p' hp'
          split at hs
          · cases hs
          · rename_i s' hs'
            split at hs
            · rename_i he
              have he : s' = l := by simpa using he
              injection hs with hs
              injection hs with a hs
              injection hs with b c
              rw [← a, ← b, ← c, hs', he]
            · cases hs
theorem locText_le (p q : List UInt8) : (locText p q).length ≤ 3 * p.length + 1 + q.length := by
  have := pctEnc_le stayN p
  unfold locText qTail
  rw [List.length_append]
  split <;> simp <;> omega
theorem locBuild_len {h p q t : List UInt8} (hb : locBuild h p q = .ok t) : t.length ≤ 584 := by
  obtain ⟨hh, he, rfl⟩ := locBuild_ok hb
  obtain ⟨hn, hp, hq, hqb⟩ := placeErr_ok he
  have h1 := hostIs_len hh
  have h2 := locText_le p q
  simp only [List.length_append, httpL, List.length_cons, List.length_nil]; omega
theorem host_char {h : List UInt8} (hh : hostIs h = true) : qryB h = true := by
  unfold qryB; rw [List.all_eq_true]
  intro b hb
  have hl : ∀ n : Nat, n < 256 → lchB (UInt8.ofNat n) = true → charN n = true := by decide +kernel
  rcases host_bytes hh b hb with h1 | rfl | rfl
  · exact hl b.toNat b.toNat_lt (by rw [UInt8.ofNat_toNat]; exact h1)
  · decide
  · decide
theorem locBuild_char {h p q t : List UInt8} (hb : locBuild h p q = .ok t) : qryB t = true := by
  obtain ⟨hh, he, rfl⟩ := locBuild_ok hb
  obtain ⟨hn, hp, hq, hqb⟩ := placeErr_ok he
  rw [qryB_app, qryB_app, host_char hh, qryB_text hqb]; rfl
theorem locBuild_inj {h p q h' p' q' t : List UInt8} (hb : locBuild h p q = .ok t) (hb' : locBuild h' p' q' = .ok t) : h = h' ∧ p = p' ∧ q = q' := by
  have h1 := locSplit_build hb
  have h2 := locSplit_build hb'
  rw [h1] at h2
  injection h2 with h2
  injection h2 with a h2
  injection h2 with b c
  exact ⟨a, b, c⟩

/-! Paths made of pieces -/
def goodSeg (s : List UInt8) : Bool := !(s == []) && !dottedB s && s.all fun b => !(b == 47)
theorem goodSeg_free {s : List UInt8} (h : goodSeg s = true) : (∀ b ∈ s, b ≠ 47) ∧ s ≠ [] ∧ dottedB s = false := by
  simp only [goodSeg, Bool.and_eq_true, Bool.not_eq_true', List.all_eq_true, beq_eq_false_iff_ne] at h
  exact ⟨fun b hb => by simpa using h.2 b hb, h.1.1, h.1.2⟩
def pathOf (L : List (List UInt8)) (op : Bool) : List UInt8 := slashes L ++ if op then [47] else []
theorem segs_tail : ∀ (a : List UInt8) (L : List (List UInt8)) (op : Bool), goodSeg a = true → (∀ s ∈ L, goodSeg s = true) → segs 47 (a ++ (slashes L ++ if op then [47] else [])) = a :: (L ++ if op then [[]] else [])
  | a, [], op, ha, _ => by
    cases op
    · simp [slashes, segs_none 47 a (goodSeg_free ha).1]
    · have := segs_app 47 a [] (goodSeg_free ha).1
      simp only [slashes, List.flatMap_nil, List.nil_append, if_true]
      rw [this]; rfl
  | a, b :: L, op, ha, hL => by
    have ih := segs_tail b L op (hL b (by simp)) (fun s hs => hL s (by simp [hs]))
    rw [slashes_cons]
    have := segs_app 47 a (b ++ (slashes L ++ if op then [47] else [])) (goodSeg_free ha).1
    rw [show a ++ (47 :: (b ++ slashes L) ++ if op then [47] else []) = a ++ 47 :: (b ++ (slashes L ++ if op then [47] else [])) by simp, this, ih]; rfl
theorem segs_path (L : List (List UInt8)) (op : Bool) (hL : ∀ s ∈ L, goodSeg s = true) (h0 : L ≠ [] ∨ op = true) : (pathOf L op).head? = some 47 ∧ segs 47 (pathOf L op).tail = L ++ if op then [[]] else [] := by
  cases L with
  | nil =>
    rcases h0 with h | h
    · exact absurd rfl h
    · subst h; exact ⟨rfl, rfl⟩
  | cons a L =>
    have h := segs_tail a L op (hL a (by simp)) (fun s hs => hL s (by simp [hs]))
    have e : pathOf (a :: L) op = 47 :: (a ++ (slashes L ++ if op then [47] else [])) := by simp [pathOf, slashes_cons]
    rw [e]
    exact ⟨rfl, h⟩
theorem piecesOK_good : ∀ (L : List (List UInt8)) (op : Bool), (∀ s ∈ L, goodSeg s = true) → piecesOK (L ++ if op then [[]] else []) = true
  | [], op, _ => by cases op <;> rfl
  | [a], op, h => by
    have ha := goodSeg_free (h a (by simp))
    cases op <;> simp [piecesOK, ha.2.2, ha.2.1, show dottedB [] = false from rfl]
  | a :: b :: L, op, h => by
    have ha := goodSeg_free (h a (by simp))
    have ih := piecesOK_good (b :: L) op (fun s hs => h s (by simp at hs ⊢; exact .inr hs))
    simp only [List.cons_append] at ih ⊢
    rw [piecesOK, ih, ha.2.2]
    · simp [ha.2.1]
    · intro h; cases h
theorem dNormal_path {L : List (List UInt8)} {op : Bool} (hL : ∀ s ∈ L, goodSeg s = true) (h0 : L ≠ [] ∨ op = true) (hl : (pathOf L op).length ≤ 128) : dNormal (pathOf L op) = true := by
  obtain ⟨h1, h2⟩ := segs_path L op hL h0
  have h3 : 1 ≤ (pathOf L op).length := by
    cases hp : pathOf L op with
    | nil => rw [hp] at h1; cases h1
    | cons a l => simp
  rw [dNormal_eq h3 hl (by rw [h1]; rfl), h2]
  exact piecesOK_good L op hL
theorem cleanGo_good : ∀ (L : List (List UInt8)) (kept : List (List UInt8)) (op b : Bool), (∀ s ∈ L, goodSeg s = true) → L ≠ [] ∨ op = true → cleanGo (L ++ if op then [[]] else []) kept b = some (kept ++ L, op)
  | [], kept, op, b, _, h0 => by
    rcases h0 with h | h
    · exact absurd rfl h
    · subst h; simp [cleanGo]
  | a :: L, kept, op, b, h, _ => by
    have ha := goodSeg_free (h a (by simp))
    have hd := ha.2.2
    simp only [dottedB, Bool.or_eq_false_iff] at hd
    have hne : (a == []) = false := by simpa using ha.2.1
    rw [List.cons_append, cleanGo, hd.2, if_neg (by decide), hd.1, hne, if_neg (by decide)]
    by_cases hL : L = [] ∧ op = false
    · obtain ⟨rfl, rfl⟩ := hL
      simp [cleanGo]
    · rw [cleanGo_good L (kept ++ [a]) op false (fun s hs => h s (by simp [hs])) (by
        cases op
        · exact .inl fun e => hL ⟨e, rfl⟩
        · exact .inr rfl)]
      simp
theorem dClean_path {L : List (List UInt8)} {op : Bool} (hL : ∀ s ∈ L, goodSeg s = true) (h0 : L ≠ [] ∨ op = true) : dClean (pathOf L op) = .ok (pathOf L op) := by
  obtain ⟨h1, h2⟩ := segs_path L op hL h0
  unfold dClean
  rw [h1, h2, cleanGo_good L [] op false hL h0]
  simp only [BEq.rfl, if_true, List.nil_append]
  rw [dPut_eq, pathOf]
  cases op
  · have : (L == []) = false := by
      rcases h0 with h | h
      · simpa using h
      · cases h
    simp [this]
  · simp

/-! Targets -/
theorem tgtSplit_text {p q : List UInt8} (hn : dNormal p = true) (hq : q.length ≤ 128) (hb : qryB q = true) : tgtSplit (locText p q) = .ok (pctEnc stayN p, q) := by
  obtain ⟨u, hu⟩ := enc_head (dNormal_head hn).2
  have h1 := locText_le p q
  have h2 := (dNormal_head hn).1
  have h3 := cut_text p q
  unfold tgtSplit
  rw [if_neg (by omega), if_neg (by rw [qryB_text hb]; simp [locText, hu])]
  unfold locText
  rw [h3.1, h3.2]
/-- A canonical target is read back. -/
theorem tgtRead_text {p q : List UInt8} {L : Int} (hn : dNormal p = true) (hc : dClean p = .ok p) (hs : safeB p = true) (hq : q.length ≤ 128) (hb : qryB q = true) (h1 : (p.length : Int) ≤ L) (h2 : L ≤ 128) : tgtRead (locText p q) L = .ok (p, q) := by
  have hp : 1 ≤ p.length := by
    have := (dNormal_head hn).2
    cases p with
    | nil => cases this
    | cons a p => simp
  exact tgtRead_ok (by omega) (tgtSplit_text hn hq hb) (pctDec_enc stayN p) hs hc (by simp only; omega)
theorem tgtText_mk {p q : List UInt8} (hn : dNormal p = true) (hq : q.length ≤ 128) (hb : qryB q = true) : tgtText p q = .ok (locText p q) := by
  unfold tgtText
  rw [if_neg (by rw [hn]; decide), placeErr_mk hn hq hb, if_neg (by decide)]
theorem tgtCanon_text {p q : List UInt8} (hn : dNormal p = true) (hc : dClean p = .ok p) (hs : safeB p = true) (hq : q.length ≤ 128) (hb : qryB q = true) : tgtCanon (locText p q) = .ok (locText p q) := by
  unfold tgtCanon
  rw [tgtRead_text hn hc hs hq hb (by have := (dNormal_head hn).1; omega) (by decide)]
  exact tgtText_mk hn hq hb
/-- What reading a target says, step by step. -/
theorem tgtRead_some {l p q : List UInt8} {L : Int} (h : tgtRead l L = .ok (p, q)) : 1 ≤ L ∧ L ≤ 128 ∧ ∃ d, tgtSplit l = .ok ((cut1 63 l).1, q) ∧ q = (cut1 63 l).2.1 ∧ pctDec (cut1 63 l).1 = some d ∧ safeB d = true ∧ dClean d = .ok p ∧ (p.length : Int) ≤ L ∧ q.length ≤ 128 := by
  unfold tgtRead at h
  split at h
  · cases h
  · rename_i hL
    split at h
    · cases h
    · rename_i x hx
      split at h
      · cases h
      · rename_i d hd
        split at h
        · cases h
        · rename_i hsafe
          split at h
          · cases h
          · rename_i p' hp'
            split at h
            · cases h
            · rename_i hlen
              injection h with h
              injection h with h1 h2
              have ht := (tgtSplit_ok hx).2.2.2.1
              subst h1
              rw [ht] at h2 hd hlen
              simp only at h2 hd hlen
              refine ⟨by omega, by omega, d, ?_, h2.symm, hd, by simpa using hsafe, hp', by omega, by rw [← h2]; omega⟩
              rw [hx, ht, h2]
theorem tgtRead_more {l p q : List UInt8} {L M : Int} (h : tgtRead l L = .ok (p, q)) (h1 : L ≤ M) (h2 : M ≤ 128) : tgtRead l M = .ok (p, q) := by
  obtain ⟨a, b, d, hs, hq, hd, hsafe, hc, hl, hq2⟩ := tgtRead_some h
  exact tgtRead_ok (by omega) hs hd hsafe hc (by simp only; omega)
theorem dClean_ne {d p : List UInt8} (h : dClean d = .ok p) : p ≠ [] := by
  unfold dClean at h
  split at h
  · split at h
    · cases h
    · rename_i x _
      injection h with h
      rw [← h, dPut_eq]
      intro e
      have h1 := congrArg List.length e
      rw [List.length_append] at h1
      cases hx : x.1 with
      | nil => rw [hx] at h1; simp [slashes] at h1
      | cons a L => rw [hx] at h1; simp [slashes] at h1
  · cases h
/-- Another text that says the same: bytes that belong to no escape may be written as escapes. -/
theorem tgtRead_other {l p q raw o : List UInt8} {L : Int} (h : tgtRead l L = .ok (p, q)) (hl : l.length ≤ 200) (hraw : raw = (cut1 63 l).1) {other : List UInt8} (hs : Says other o) (ho : pctDec raw = some o) (hb : ∀ x ∈ other, rawB x) (hh : other.head? = some 47) (hlen : other.length ≤ 600) : tgtRead (other ++ l.drop raw.length) L = .ok (p, q) := by
  subst hraw
  obtain ⟨a, b, d, hsp, hq, hd, hsafe, hc, hpl, hq2⟩ := tgtRead_some h
  rw [hd] at ho
  injection ho with ho
  subst ho
  have hf : ∀ b ∈ other, b ≠ 63 := fun b hb' => (hb b hb').2
  obtain ⟨h1, h2, h3, _⟩ := tgtSplit_ok hsp
  have hcut : (cut1 63 (other ++ l.drop (cut1 63 l).1.length)).1 = other ∧ (cut1 63 (other ++ l.drop (cut1 63 l).1.length)).2.1 = q ∧ qryB (l.drop (cut1 63 l).1.length) = true := by
    cases hm : (cut1 63 l).2.2 with
    | false =>
      have hn := cut1_none 63 l hm
      rw [hn.1, List.drop_length, List.append_nil, cut1_free hf, hq, hn.2]
      exact ⟨rfl, rfl, rfl⟩
    | true =>
      have happ := cut1_app 63 l hm
      have hd : l.drop (cut1 63 l).1.length = 63 :: (cut1 63 l).2.1 := by
        conv => lhs; rw [happ]
        rw [List.drop_left' (by rw [← happ])]
      refine ⟨?_, ?_, ?_⟩
      · rw [hd, cut1_snoc 63 _ _ hf]
      · rw [hd, cut1_snoc 63 _ _ hf, hq]
      · have := h3
        rw [happ, qryB_app] at this
        rw [hd]
        simp only [Bool.and_eq_true] at this
        exact this.2
  have hsplit : tgtSplit (other ++ l.drop (cut1 63 l).1.length) = .ok (other, q) := by
    unfold tgtSplit
    rw [if_neg (by simp; omega), if_neg, hcut.1, hcut.2.1]
    rw [qryB_app, qryB_raw hb, hcut.2.2]
    cases other with
    | nil => cases hh
    | cons x t => simpa using hh
  exact tgtRead_ok (by omega) hsplit hs.whole hsafe hc (by simp only; omega)
end Go.Proofs.YteigjobliflkdaaGreatDoor
/- Walk: location.Build. -/
namespace Go.Proofs.YteigjobliflkdaaGreatDoor
open Go.RowKit

/-- Three texts lie in block g: a place and its host. -/
def StrThree (w : World) (g : Nat) (p q h : ByteArray) : Prop := w.heap[g]? = some (.cells #[.string p, .string q, .string h] 124 (0, 0))
theorem StrThree.cell {w : World} {g : Nat} {p q h : ByteArray} (k : StrThree w g p q h) : w.cell? ⟨g, 0, none⟩ = some (.string p) ∧ w.cell? ⟨g, 1, none⟩ = some (.string q) ∧ w.cell? ⟨g, 2, none⟩ = some (.string h) := by
  refine ⟨?_, ?_, ?_⟩ <;> (rw [cell_of_row w g _ _ 124 _ k]; rfl)
theorem StrThree.below {w w' : World} {g : Nat} {p q h : ByteArray} (k : StrThree w g p q h) (hB : Below w.heap.size w w') : StrThree w' g p q h := by
  unfold StrThree; rw [hB.block g (Array.getElem?_eq_some_iff.1 k).1]; exact k
theorem StrThree.drew {w : World} {g : Nat} {p q h : ByteArray} (k : StrThree w g p q h) : StrThree w.drew g p q h := k
theorem check_B {p q : ByteArray} {x : Int} (h : placeErr p.data.toList q.data.toList = x) (w : World) (hG : Good w) (hp : p.size ≤ 60000) (hq : q.size ≤ 60000) :
    Calls Tryz.prog 119 #[.agg #[.string p, .string q]] w (RetV (.int .i64 x) w) := by
  have := check_any p q w hG hp hq; rwa [h] at this
theorem text_B {p q t : ByteArray} (h : locText p.data.toList q.data.toList = t.data.toList) (hp : p.size ≤ 30000) (hq : q.size ≤ 60000) (w : World) :
    Calls Tryz.prog 121 #[.agg #[.string p, .string q]] w (RetV (.string t) w) := by
  have := text_any p q w hp hq; rwa [h, ← S_of] at this
theorem join3_B {a b c t : ByteArray} (ht : a.data.toList ++ b.data.toList ++ c.data.toList = t.data.toList) (hs : a.size + b.size + c.size ≤ 1000000) {w : World} {g : Nat} (h : w.heap[g]? = some (.cells #[.string a, .string b, .string c] 9 (0, 0))) :
    Calls Tryz.prog 120 #[.slice (some ⟨g, 0, none⟩) 3 3] w (RetV (.string t) w) := by
  have := join3_any (cap := 3) h (by decide) hs; rwa [ht, ← S_of] at this

set_option maxRecDepth 100000 in
set_option maxHeartbeats 4000000 in
theorem build_any (h p q : ByteArray) (w : World) (hG : Good w) (hh : h.size ≤ 60000) (hp : p.size ≤ 60000) (hq : q.size ≤ 60000) :
    Calls Tryz.prog 61 #[.string h, .string p, .string q] w (RetV (vStr (locBuild h.data.toList p.data.toList q.data.toList)) w) := by
  cases hi : hostIs h.data.toList with
  | false =>
    have HF := Lib.hid (show locBuild h.data.toList p.data.toList q.data.toList = .error 11 by unfold locBuild; rw [if_pos hi])
    have HI := Lib.hid (is_anyT hi)
    clear hi
    go_enter Tryz.func61, Tryz.ntmps61
    go_wp2_with fail
    refine (HI.out _ hG hh).mono ?_
    rintro e w1 ⟨rfl, HB1⟩
    go_wp2_with fail
    go_ret2
    exact RetV.mk (by rw [HF.out]; rfl) HB1
  | true =>
    have HI := Lib.hid (is_anyT hi)
    have hh64 : h.size ≤ 64 := by have := hostIs_len hi; rwa [size_len] at this
    by_cases he : placeErr p.data.toList q.data.toList = 0
    · obtain ⟨_, hpl, hql, _⟩ := placeErr_ok he
      rw [size_len] at hpl hql
      have HC := Lib.hid (check_B he)
      obtain ⟨t, ht⟩ : ∃ t : ByteArray, locText p.data.toList q.data.toList = t.data.toList := ⟨⟨(locText p.data.toList q.data.toList).toArray⟩, rfl⟩
      have hts : t.size ≤ 600 := by have := locText_le p.data.toList q.data.toList; rw [ht, size_len, size_len, size_len] at this; omega
      have HX := Lib.hid (text_B ht (by omega) hq)
      obtain ⟨u, hu⟩ : ∃ u : ByteArray, (⟨#[104, 116, 116, 112, 58, 47, 47]⟩ : ByteArray).data.toList ++ h.data.toList ++ t.data.toList = u.data.toList := ⟨⟨((⟨#[104, 116, 116, 112, 58, 47, 47]⟩ : ByteArray).data.toList ++ h.data.toList ++ t.data.toList).toArray⟩, rfl⟩
      have HJ := Lib.hid (fun (w : World) (g : Nat) h => join3_B (w := w) (g := g) hu (by have : (⟨#[104, 116, 116, 112, 58, 47, 47]⟩ : ByteArray).size = 7 := rfl; omega) h)
      have HF := Lib.hid (show vStr (locBuild h.data.toList p.data.toList q.data.toList) = .tuple #[.string u, .int .i64 0] by
        rw [locBuild_mk hi he, ht]
        show Value.tuple #[.string ⟨((⟨#[104, 116, 116, 112, 58, 47, 47]⟩ : ByteArray).data.toList ++ h.data.toList ++ t.data.toList).toArray⟩, .int .i64 0] = _
        rw [hu, bs_mk])
      clear hi he ht hu
      go_enter Tryz.func61, Tryz.ntmps61
      go_wp2_with fail
      refine (HI.out _ hG hh).mono ?_
      rintro e w1 ⟨rfl, HB1⟩
      have hG1 := hG.next HB1
      have hT : StrThree (w1.alloc (.cells #[.string p, .string q, .string h] 124)) w1.heap.size p q h := heap_alloc_new _ _
      have hG2 := hG1.next (one_below w1 (.cells #[.string p, .string q, .string h] 124))
      have HB2 := below2 HB1 (one_below w1 (.cells #[.string p, .string q, .string h] 124))
      go_wp2_with fail
      refine (HC.out _ hG2 hp hq).mono ?_
      rintro e w3 ⟨rfl, HB3⟩
      have hT3 := hT.below HB3
      have HB23 := below2 HB2 HB3
      have hg3 : w1.heap.size < w3.heap.size := (Array.getElem?_eq_some_iff.1 hT3).1
      obtain ⟨c0, c1, c2⟩ := hT3.cell
      generalize w1.heap.size = g at hT3 hg3 c0 c1 c2
      have HT := Lib.hid hT3
      clear hT hT3 hG2 HB2 HB3
      go_wp2_with fail
      go_region_with (first
        | (go_at_call 121; refine (HX.out _).mono ?_; rintro e w4 ⟨rfl, HB4⟩; (have HT4 := Lib.hid ((HT.out.drew).below HB4)); (have y0 := HT4.out.cell.2.2))
        | (go_at_call 120; refine (HJ.out _ _ (by exact heap_alloc_new _ _)).mono ?_; rintro e w5 ⟨rfl, HB5⟩))
      all_goals
        go_wp2_with fail
        go_ret2
        exact RetV.mk (by rw [HF.out]; rfl) (below2 (below2 HB23.drew HB4) (below2 (one_below _ _) HB5))
    · have HC := Lib.hid (check_B (rfl : placeErr p.data.toList q.data.toList = _))
      have HF := Lib.hid (show locBuild h.data.toList p.data.toList q.data.toList = .error (placeErr p.data.toList q.data.toList) by unfold locBuild; rw [if_neg (by rw [hi]; decide), if_pos he])
      generalize placeErr p.data.toList q.data.toList = x at he HC HF
      have he' : (x != 0) = true := by simpa using he
      clear hi he
      go_enter Tryz.func61, Tryz.ntmps61
      go_wp2_with fail
      refine (HI.out _ hG hh).mono ?_
      rintro e w1 ⟨rfl, HB1⟩
      have hG1 := hG.next HB1
      have hT : StrThree (w1.alloc (.cells #[.string p, .string q, .string h] 124)) w1.heap.size p q h := heap_alloc_new _ _
      have hG2 := hG1.next (one_below w1 (.cells #[.string p, .string q, .string h] 124))
      have HB2 := below2 HB1 (one_below w1 (.cells #[.string p, .string q, .string h] 124))
      go_wp2_with fail
      refine (HC.out _ hG2 hp hq).mono ?_
      rintro e w3 ⟨rfl, HB3⟩
      go_wp2_with fail
      go_ret2
      exact RetV.mk (by rw [HF.out]; rfl) (below2 HB2 HB3)
end Go.Proofs.YteigjobliflkdaaGreatDoor
/- Walk: waypostref17.Split. -/
namespace Go.Proofs.YteigjobliflkdaaGreatDoor
open Go.RowKit

theorem find_refB {s : ByteArray} {c : UInt8} {n : Nat} (h : (cut1 c s.data.toList).1.length = n) (hs : s.size ≤ 60000) (w : World) :
    Calls Tryz.prog 111 #[.string s, .int .i64 0, .int .u8 c.toNat] w fun e w' => e = .returned (.int .i64 n) ∧ w = w' := by
  have := find_ref s c w hs; rw [h] at this; exact this
theorem decode_refN {s : ByteArray} (h : pctDec s.data.toList = none) (hs : s.size ≤ 60000) (w : World) :
    Calls Tryz.prog 112 #[.string s] w fun e w' => ∃ at' : Int, e = .returned (.tuple #[.string ⟨#[]⟩, .agg #[.int .i64 3, .int .i64 at']]) ∧ Below w.heap.size w w' := by
  have := decode_ref s w hs; rw [h] at this; exact this
theorem decode_refS {s d : ByteArray} (h : pctDec s.data.toList = some d.data.toList) (hs : s.size ≤ 60000) (w : World) :
    Calls Tryz.prog 112 #[.string s] w fun e w' => e = .returned (.tuple #[.string d, .agg #[.int .i64 0, .int .i64 0]]) ∧ Below w.heap.size w w' := by
  have := decode_ref s w hs; rw [h] at this
  have this : Calls Tryz.prog 112 #[.string s] w fun e w' => e = .returned (.tuple #[.string ⟨d.data.toList.toArray⟩, .agg #[.int .i64 0, .int .i64 0]]) ∧ Below w.heap.size w w' := this
  rwa [bs_mk] at this
theorem build_refE {h p q : ByteArray} {x : Int} (hb : locBuild h.data.toList p.data.toList q.data.toList = .error x) (hh : h.size ≤ 60000) (hp : p.size ≤ 60000) (hq : q.size ≤ 60000) (w : World) :
    Calls Tryz.prog 62 #[.string h, .string p, .string q] w fun e w' => e = .returned (.tuple #[.string ⟨#[]⟩, .int .i64 x]) ∧ Below w.heap.size w w' := by
  have := build_ref h p q w hh hp hq; rw [hb] at this; exact this
theorem build_refS {h p q t : ByteArray} (hb : locBuild h.data.toList p.data.toList q.data.toList = .ok t.data.toList) (hh : h.size ≤ 60000) (hp : p.size ≤ 60000) (hq : q.size ≤ 60000) (w : World) :
    Calls Tryz.prog 62 #[.string h, .string p, .string q] w fun e w' => e = .returned (.tuple #[.string t, .int .i64 0]) ∧ Below w.heap.size w w' := by
  have := build_ref h p q w hh hp hq; rw [hb] at this
  have this : Calls Tryz.prog 62 #[.string h, .string p, .string q] w fun e w' => e = .returned (.tuple #[.string ⟨t.data.toList.toArray⟩, .int .i64 0]) ∧ Below w.heap.size w w' := this
  rwa [bs_mk] at this
theorem locBuild_err {h p q : List UInt8} {x : Int} (hb : locBuild h p q = .error x) : (x != 0) = true ∧ (x == 0) = false := by
  unfold locBuild at hb
  split at hb
  · cases hb; decide
  · split at hb
    · injection hb with hb
      subst hb
      rcases placeErr_range p q with e | e | e | e
      · rename_i h1 h2; exact absurd e h2
      all_goals rw [e]; decide
    · cases hb
theorem pctDecF_le : ∀ (f : Nat) (l d : List UInt8), pctDecF f l = some d → d.length ≤ l.length
  | 0, l, d, h => by simp [pctDecF] at h; subst h; simp
  | f + 1, [], d, h => by simp [pctDecF] at h; subst h; simp
  | f + 1, b :: r, d, h => by
    simp only [pctDecF] at h
    split at h
    · cases hd : pctDecF f (r.drop 2) with
      | none => rw [hd] at h; cases h
      | some x =>
        rw [hd] at h
        injection h with h
        subst h
        have := pctDecF_le f _ _ hd
        simp at this ⊢; omega
    · split at h
      · cases h
      · cases hd : pctDecF f r with
        | none => rw [hd] at h; cases h
        | some x =>
          rw [hd] at h
          injection h with h
          subst h
          have := pctDecF_le f _ _ hd
          simp at this ⊢; omega
theorem pctDec_le {l d : List UInt8} (h : pctDec l = some d) : d.length ≤ l.length := pctDecF_le _ _ _ h
/-- Three texts and an error, as a value. -/
def vLoc (r : Option (List UInt8 × List UInt8 × List UInt8)) : Value := match r with
  | none => .tuple #[.string ⟨#[]⟩, .string ⟨#[]⟩, .string ⟨#[]⟩, .int .i64 3]
  | some x => .tuple #[S x.1, S x.2.1, S x.2.2, .int .i64 0]
theorem ret4 {fn : Func} {p q r t : Tmp} (h : fn.results = #[.tmp p, .tmp q, .tmp r, .tmp t]) {R : Ending → World → Prop} {a : Act} {w : World} (hd : a.defers = []) (hR : R (.returned (.tuple #[a.tmps.getD p undef, a.tmps.getD q undef, a.tmps.getD r undef, a.tmps.getD t undef])) w) : bodyPost Tryz.prog fn R .ret a w :=
  bodyPost_ret (v := .tuple #[a.tmps.getD p undef, a.tmps.getD q undef, a.tmps.getD r undef, a.tmps.getD t undef]) (by simp [results, h]) hd hR

set_option maxRecDepth 100000 in
set_option maxHeartbeats 8000000 in
theorem split_refL (s : ByteArray) (w : World) (hs : s.size ≤ 60000) : Calls Tryz.prog 54 #[.string s] w (RetV (vLoc (locSplit s.data.toList)) w) := by
  have HL := Lib.hid (locSplit_ref s.data.toList)
  by_cases h7 : s.size < 7
  · have HF := Lib.hid (show locSplit s.data.toList = none by
      rw [HL.out, if_pos]
      rw [Bool.eq_false_iff]; intro h
      have := List.IsPrefix.length_le (List.isPrefixOf_iff_prefix.1 h)
      rw [size_len] at this; simp [httpL] at this; omega)
    have d1 : decide ((s.size : Int) < 7) = true := by simp; omega
    go_enter Tryz.func54, Tryz.ntmps54
    go_wp2_with fail
    exact ret4 Tryz.results54 rfl (RetV.mk (by rw [HF.out]; rfl) (Below.refl _ _))
  have d1 : decide ((s.size : Int) < 7) = false := by simp; omega
  have hx0 : (s.extract 0 7).toList = s.data.toList.take 7 := by rw [Lib.toList_data, Lib.extract_data]; simp
  by_cases hp : httpL.isPrefixOf s.data.toList = false
  · have HF := Lib.hid (show locSplit s.data.toList = none by rw [HL.out, if_pos hp])
    have d2 : ((s.extract 0 7).toList == [104, 116, 116, 112, 58, 47, 47]) = false := by
      rw [beq_eq_false_iff_ne, hx0]
      intro e
      rw [Bool.eq_false_iff] at hp
      exact hp (List.isPrefixOf_iff_prefix.2 ⟨s.data.toList.drop 7, by rw [show httpL = s.data.toList.take 7 from e.symm, List.take_append_drop]⟩)
    clear hp hx0
    go_enter Tryz.func54, Tryz.ntmps54
    go_wp2_with fail
    exact ret4 Tryz.results54 rfl (RetV.mk (by rw [HF.out]; rfl) (Below.refl _ _))
  have hpre : s.data.toList = httpL ++ s.data.toList.drop 7 := by
    have h : httpL.isPrefixOf s.data.toList = true := by simpa using hp
    obtain ⟨t, ht⟩ := List.isPrefixOf_iff_prefix.1 h
    rw [← ht]; rfl
  have d2 : ((s.extract 0 7).toList == [104, 116, 116, 112, 58, 47, 47]) = true := by
    rw [beq_iff_eq, hx0, hpre]; rfl
  clear hx0
  have HL2 := Lib.hid (show locSplit s.data.toList = _ from HL.out.trans (if_neg hp))
  clear hp
  obtain ⟨r, hr⟩ : ∃ r, s.extract 7 s.size = r := ⟨_, rfl⟩
  have hrd : r.data.toList = s.data.toList.drop 7 := by rw [← hr, Lib.extract_data, List.take_of_length_le (by simp)]
  have hrs : r.size = s.size - 7 := by rw [← size_len, hrd, List.length_drop, size_len]
  rw [← hrd] at HL2 hpre
  obtain ⟨a, ha⟩ : ∃ a, (cut1 47 r.data.toList).1.length = a := ⟨_, rfl⟩
  obtain ⟨m, hm⟩ : ∃ m, (cut1 63 r.data.toList).1.length = m := ⟨_, rfl⟩
  have FA := Lib.hid (find_refB ha (show r.size ≤ 60000 by omega))
  have FM := Lib.hid (find_refB hm (show r.size ≤ 60000 by omega))
  have ha2 := (cut1_len 47 r.data.toList).1
  have hm2 := (cut1_len 63 r.data.toList).1
  have hm3 := (cut1_len 63 r.data.toList).2.2
  rw [ha, size_len] at ha2
  rw [hm, size_len] at hm2 hm3
  rw [ha, hm] at HL2
  have hh1 := cut1_take 47 r.data.toList
  rw [ha] at hh1
  have hq1 := cut1_drop 63 r.data.toList
  rw [hm] at hq1
  have hq0 := cut1_none 63 r.data.toList
  have HR := Lib.hid hr
  have HRS := Lib.hid hrs
  have HRD := Lib.hid hrd
  have HPRE := Lib.hid hpre
  have HH1 := Lib.hid hh1
  have HQ1 := Lib.hid hq1
  have HQ0 := Lib.hid hq0
  have HMM := Lib.hid hm
  have HM3 := Lib.hid hm3
  have hrs2 : r.size ≤ 60000 := by omega
  clear ha hm hm3 hq1 hq0 hh1 hrs hrd hpre HL
  by_cases hlt : m < a
  · have HF := Lib.hid (show locSplit s.data.toList = none by rw [HL2.out, if_pos hlt])
    have d3 : decide (m < a) = true := by simpa using hlt
    have d4 : decide ((m : Int) < (a : Int)) = true := by simp; omega
    go_enter Tryz.func54, Tryz.ntmps54
    go_wp2_with fail
    refine (FA.out _).mono ?_
    rintro e w' ⟨rfl, rfl⟩
    go_wp2_with fail
    refine (FM.out _).mono ?_
    rintro e w' ⟨rfl, rfl⟩
    go_wp2_with fail
    exact ret4 Tryz.results54 rfl (RetV.mk (by rw [HF.out]; rfl) (Below.refl _ _))
  have d3 : decide (m < a) = false := by simp; omega
  have d4 : decide ((m : Int) < (a : Int)) = false := by simp; omega
  have hle : a ≤ m := by omega
  have HL3 := Lib.hid (show locSplit s.data.toList = _ from HL2.out.trans (if_neg hlt))
  clear HL2 hlt
  obtain ⟨h, hh⟩ : ∃ h, r.extract 0 a = h := ⟨_, rfl⟩
  obtain ⟨raw, hraw⟩ : ∃ raw, r.extract a m = raw := ⟨_, rfl⟩
  have hhd : h.data.toList = (cut1 47 r.data.toList).1 := by rw [← hh, Lib.extract_data, ← HH1.out]; simp
  have hrawd : raw.data.toList = (r.data.toList.take m).drop a := by rw [← hraw, Lib.extract_data, List.drop_take]
  have hhs : h.size ≤ 60000 := by rw [← size_len, hhd, ← HH1.out]; simp; omega
  have hraws : raw.size ≤ 60000 := by rw [← size_len, hrawd]; simp; omega
  rw [← hhd, ← hrawd] at HL3
  have HHD := Lib.hid hhd
  clear hhd hrawd
  have i1 : (a : Int) ≤ m := by omega
  have i2 : (m : Int) ≤ r.size := by omega
  have i3 : (0 : Int) ≤ a := by omega
  have i4 : (0 : Int) ≤ m := by omega
  have i5 : (a : Int) ≤ r.size := by omega
  by_cases hml : m < r.size
  · have d5 : decide (m < r.size) = true := by simpa using hml
    have d6 : decide ((m : Int) < (r.size : Int)) = true := by simp; omega
    obtain ⟨q, hq⟩ : ∃ q, r.extract (m + 1) r.size = q := ⟨_, rfl⟩
    have hqd : q.data.toList = (cut1 63 r.data.toList).2.1 := by
      rw [← hq, Lib.extract_data, List.take_of_length_le (by simp)]
      refine HQ1.out ?_
      rcases Bool.eq_false_or_eq_true (cut1 63 r.data.toList).2.2 with h | h
      · exact h
      · have := (HQ0.out h).1
        have hmm := HMM.out
        rw [this, size_len] at hmm; omega
    have hqs : q.size ≤ 60000 := by rw [← size_len, hqd]; have := (cut1_len 63 r.data.toList).2.1; rw [size_len] at this; omega
    rw [← hqd] at HL3
    have HL4 := HL3
    clear hqd HL3
    cases hd : pctDec raw.data.toList with
    | none =>
      have HF := Lib.hid (show locSplit s.data.toList = none by rw [HL4.out]; unfold backB; rw [hd])
      have HD := Lib.hid (decode_refN hd hraws)
      clear hd
      go_enter Tryz.func54, Tryz.ntmps54
      go_wp2_with fail
      refine (FA.out _).mono ?_
      rintro e w' ⟨rfl, rfl⟩
      go_wp2_with fail
      refine (FM.out _).mono ?_
      rintro e w' ⟨rfl, rfl⟩
      go_wp2_with fail
      go_quiet (fail)
      go_wp2_with fail
      refine (HD.out _).mono ?_
      rintro e w1 ⟨at', rfl, HB1⟩
      have HBx := below2 (below_drewN (Below.refl _ _) nq) HB1
      go_wp2_with fail
      exact ret4 Tryz.results54 rfl (RetV.mk (by rw [HF.out]; rfl) (HBx.alloc HBx.size _))
    | some d0 =>
      obtain ⟨d, rfl⟩ : ∃ d : ByteArray, d0 = d.data.toList := ⟨⟨d0.toArray⟩, rfl⟩
      have hds : d.size ≤ 60000 := by have := pctDec_le hd; rw [size_len, size_len] at this; omega
      have HD := Lib.hid (decode_refS hd hraws)
      have HL5 := Lib.hid (show locSplit s.data.toList = (match locBuild h.data.toList d.data.toList q.data.toList with | .error _ => none | .ok s' => if s' == s.data.toList then some (h.data.toList, d.data.toList, q.data.toList) else none) by rw [HL4.out]; unfold backB; rw [hd]; rfl)
      clear hd
      cases hb : locBuild h.data.toList d.data.toList q.data.toList with
      | error x =>
        have HF := Lib.hid (show locSplit s.data.toList = none by rw [HL5.out]; simp only [hb])
        have HBD := Lib.hid (build_refE hb hhs hds hqs)
        have x1 := (locBuild_err hb).1
        clear hb
        go_enter Tryz.func54, Tryz.ntmps54
        go_wp2_with fail
        refine (FA.out _).mono ?_
        rintro e w' ⟨rfl, rfl⟩
        go_wp2_with fail
        refine (FM.out _).mono ?_
        rintro e w' ⟨rfl, rfl⟩
        go_wp2_with fail
        go_quiet (fail)
        go_wp2_with fail
        refine (HD.out _).mono ?_
        rintro e w1 ⟨rfl, HB1⟩
        have HBx := below2 (below_drewN (Below.refl _ _) nq) HB1
        go_wp2_with fail
        refine (HBD.out _).mono ?_
        rintro e w2 ⟨rfl, HB2⟩
        go_wp2_with fail
        exact ret4 Tryz.results54 rfl (RetV.mk (by rw [HF.out]; rfl) (below2 (HBx.alloc HBx.size _) HB2))
      | ok t0 =>
        obtain ⟨t, rfl⟩ : ∃ t : ByteArray, t0 = t.data.toList := ⟨⟨t0.toArray⟩, rfl⟩
        have HBD := Lib.hid (build_refS hb hhs hds hqs)
        have hcat : (⟨#[104, 116, 116, 112, 58, 47, 47]⟩ ++ r : ByteArray).toList = s.data.toList := by
          rw [Lib.toList_data, HPRE.out]; simp [ByteArray.data_append, httpL]
        have HCAT := Lib.hid hcat
        by_cases hts : t.data.toList = s.data.toList
        · have HF := Lib.hid (show locSplit s.data.toList = some (h.data.toList, d.data.toList, q.data.toList) by rw [HL5.out, hb]; simp only; rw [if_pos (by rw [beq_iff_eq]; exact hts)])
          have x1 : (t.toList == (⟨#[104, 116, 116, 112, 58, 47, 47]⟩ ++ r : ByteArray).toList) = true := by rw [beq_iff_eq, Lib.toList_data, hts, HCAT.out]
          have x2 : t = (⟨#[104, 116, 116, 112, 58, 47, 47]⟩ ++ r : ByteArray) := bs_ext (by rw [hts, ← HCAT.out, Lib.toList_data])
          subst x2
          clear hb hts hcat x1
          go_enter Tryz.func54, Tryz.ntmps54
          go_wp2_with fail
          refine (FA.out _).mono ?_
          rintro e w' ⟨rfl, rfl⟩
          go_wp2_with fail
          refine (FM.out _).mono ?_
          rintro e w' ⟨rfl, rfl⟩
          go_wp2_with fail
          go_quiet (fail)
          go_wp2_with fail
          refine (HD.out _).mono ?_
          rintro e w1 ⟨rfl, HB1⟩
          have HBx := below2 (below_drewN (Below.refl _ _) nq) HB1
          go_wp2_with fail
          refine (HBD.out _).mono ?_
          rintro e w2 ⟨rfl, HB2⟩
          go_wp2_with fail
          exact ret4 Tryz.results54 rfl (RetV.mk (by rw [HF.out, vLoc]; simp only [S, bs_mk]; rfl) (below2 (HBx.alloc HBx.size _) HB2))
        · have HF := Lib.hid (show locSplit s.data.toList = none by rw [HL5.out, hb]; simp only; rw [if_neg (by rw [beq_iff_eq]; exact hts)])
          have x1 : (t.toList == (⟨#[104, 116, 116, 112, 58, 47, 47]⟩ ++ r : ByteArray).toList) = false := by rw [beq_eq_false_iff_ne, Lib.toList_data, HCAT.out]; exact hts
          have x2 : ¬ t = (⟨#[104, 116, 116, 112, 58, 47, 47]⟩ ++ r : ByteArray) := fun e => hts (by rw [← HCAT.out, ← e, Lib.toList_data])
          clear hb hts hcat
          go_enter Tryz.func54, Tryz.ntmps54
          go_wp2_with fail
          refine (FA.out _).mono ?_
          rintro e w' ⟨rfl, rfl⟩
          go_wp2_with fail
          refine (FM.out _).mono ?_
          rintro e w' ⟨rfl, rfl⟩
          go_wp2_with fail
          go_quiet (fail)
          go_wp2_with fail
          refine (HD.out _).mono ?_
          rintro e w1 ⟨rfl, HB1⟩
          have HBx := below2 (below_drewN (Below.refl _ _) nq) HB1
          go_wp2_with fail
          refine (HBD.out _).mono ?_
          rintro e w2 ⟨rfl, HB2⟩
          go_wp2_with fail
          exact ret4 Tryz.results54 rfl (RetV.mk (by rw [HF.out]; rfl) (below2 (HBx.alloc HBx.size _) HB2))
  · have d5 : decide (m < r.size) = false := by simpa using hml
    have d6 : decide ((m : Int) < (r.size : Int)) = false := by simp; omega
    obtain ⟨q, hq⟩ : ∃ q : ByteArray, ⟨#[]⟩ = q := ⟨_, rfl⟩
    have hqd : q.data.toList = (cut1 63 r.data.toList).2.1 := by
      rw [← hq]
      rcases Bool.eq_false_or_eq_true (cut1 63 r.data.toList).2.2 with h | h
      · have := HM3.out h; omega
      · exact (HQ0.out h).2.symm
    have hqs : q.size ≤ 60000 := by rw [← hq]; decide
    rw [← hqd] at HL3
    have HL4 := HL3
    clear hqd HL3
    subst hq
    cases hd : pctDec raw.data.toList with
    | none =>
      have HF := Lib.hid (show locSplit s.data.toList = none by rw [HL4.out]; unfold backB; rw [hd])
      have HD := Lib.hid (decode_refN hd hraws)
      clear hd
      go_enter Tryz.func54, Tryz.ntmps54
      go_wp2_with fail
      refine (FA.out _).mono ?_
      rintro e w' ⟨rfl, rfl⟩
      go_wp2_with fail
      refine (FM.out _).mono ?_
      rintro e w' ⟨rfl, rfl⟩
      go_wp2_with fail
      go_quiet (fail)
      go_wp2_with fail
      refine (HD.out _).mono ?_
      rintro e w1 ⟨at', rfl, HB1⟩
      have HBx := below2 (below_drewN (Below.refl _ _) nq) HB1
      go_wp2_with fail
      exact ret4 Tryz.results54 rfl (RetV.mk (by rw [HF.out]; rfl) (HBx.alloc HBx.size _))
    | some d0 =>
      obtain ⟨d, rfl⟩ : ∃ d : ByteArray, d0 = d.data.toList := ⟨⟨d0.toArray⟩, rfl⟩
      have hds : d.size ≤ 60000 := by have := pctDec_le hd; rw [size_len, size_len] at this; omega
      have HD := Lib.hid (decode_refS hd hraws)
      have HL5 := Lib.hid (show locSplit s.data.toList = (match locBuild h.data.toList d.data.toList (⟨#[]⟩ : ByteArray).data.toList with | .error _ => none | .ok s' => if s' == s.data.toList then some (h.data.toList, d.data.toList, (⟨#[]⟩ : ByteArray).data.toList) else none) by rw [HL4.out]; unfold backB; rw [hd]; rfl)
      clear hd
      cases hb : locBuild h.data.toList d.data.toList (⟨#[]⟩ : ByteArray).data.toList with
      | error x =>
        have HF := Lib.hid (show locSplit s.data.toList = none by rw [HL5.out]; simp only [hb])
        have HBD := Lib.hid (build_refE hb hhs hds hqs)
        have x1 := (locBuild_err hb).1
        clear hb
        go_enter Tryz.func54, Tryz.ntmps54
        go_wp2_with fail
        refine (FA.out _).mono ?_
        rintro e w' ⟨rfl, rfl⟩
        go_wp2_with fail
        refine (FM.out _).mono ?_
        rintro e w' ⟨rfl, rfl⟩
        go_wp2_with fail
        go_quiet (fail)
        go_wp2_with fail
        refine (HD.out _).mono ?_
        rintro e w1 ⟨rfl, HB1⟩
        have HBx := below2 (below_drewN (Below.refl _ _) nq) HB1
        go_wp2_with fail
        refine (HBD.out _).mono ?_
        rintro e w2 ⟨rfl, HB2⟩
        go_wp2_with fail
        exact ret4 Tryz.results54 rfl (RetV.mk (by rw [HF.out]; rfl) (below2 (HBx.alloc HBx.size _) HB2))
      | ok t0 =>
        obtain ⟨t, rfl⟩ : ∃ t : ByteArray, t0 = t.data.toList := ⟨⟨t0.toArray⟩, rfl⟩
        have HBD := Lib.hid (build_refS hb hhs hds hqs)
        have hcat : (⟨#[104, 116, 116, 112, 58, 47, 47]⟩ ++ r : ByteArray).toList = s.data.toList := by
          rw [Lib.toList_data, HPRE.out]; simp [ByteArray.data_append, httpL]
        have HCAT := Lib.hid hcat
        by_cases hts : t.data.toList = s.data.toList
        · have HF := Lib.hid (show locSplit s.data.toList = some (h.data.toList, d.data.toList, (⟨#[]⟩ : ByteArray).data.toList) by rw [HL5.out, hb]; simp only; rw [if_pos (by rw [beq_iff_eq]; exact hts)])
          have x1 : (t.toList == (⟨#[104, 116, 116, 112, 58, 47, 47]⟩ ++ r : ByteArray).toList) = true := by rw [beq_iff_eq, Lib.toList_data, hts, HCAT.out]
          have x2 : t = (⟨#[104, 116, 116, 112, 58, 47, 47]⟩ ++ r : ByteArray) := bs_ext (by rw [hts, ← HCAT.out, Lib.toList_data])
          subst x2
          clear hb hts hcat x1
          go_enter Tryz.func54, Tryz.ntmps54
          go_wp2_with fail
          refine (FA.out _).mono ?_
          rintro e w' ⟨rfl, rfl⟩
          go_wp2_with fail
          refine (FM.out _).mono ?_
          rintro e w' ⟨rfl, rfl⟩
          go_wp2_with fail
          go_quiet (fail)
          go_wp2_with fail
          refine (HD.out _).mono ?_
          rintro e w1 ⟨rfl, HB1⟩
          have HBx := below2 (below_drewN (Below.refl _ _) nq) HB1
          go_wp2_with fail
          refine (HBD.out _).mono ?_
          rintro e w2 ⟨rfl, HB2⟩
          go_wp2_with fail
          exact ret4 Tryz.results54 rfl (RetV.mk (by rw [HF.out, vLoc]; simp only [S, bs_mk]; rfl) (below2 (HBx.alloc HBx.size _) HB2))
        · have HF := Lib.hid (show locSplit s.data.toList = none by rw [HL5.out, hb]; simp only; rw [if_neg (by rw [beq_iff_eq]; exact hts)])
          have x1 : (t.toList == (⟨#[104, 116, 116, 112, 58, 47, 47]⟩ ++ r : ByteArray).toList) = false := by rw [beq_eq_false_iff_ne, Lib.toList_data, HCAT.out]; exact hts
          have x2 : ¬ t = (⟨#[104, 116, 116, 112, 58, 47, 47]⟩ ++ r : ByteArray) := fun e => hts (by rw [← HCAT.out, ← e, Lib.toList_data])
          clear hb hts hcat
          go_enter Tryz.func54, Tryz.ntmps54
          go_wp2_with fail
          refine (FA.out _).mono ?_
          rintro e w' ⟨rfl, rfl⟩
          go_wp2_with fail
          refine (FM.out _).mono ?_
          rintro e w' ⟨rfl, rfl⟩
          go_wp2_with fail
          go_quiet (fail)
          go_wp2_with fail
          refine (HD.out _).mono ?_
          rintro e w1 ⟨rfl, HB1⟩
          have HBx := below2 (below_drewN (Below.refl _ _) nq) HB1
          go_wp2_with fail
          refine (HBD.out _).mono ?_
          rintro e w2 ⟨rfl, HB2⟩
          go_wp2_with fail
          exact ret4 Tryz.results54 rfl (RetV.mk (by rw [HF.out]; rfl) (below2 (HBx.alloc HBx.size _) HB2))
end Go.Proofs.YteigjobliflkdaaGreatDoor
/- Walks: location's Split, Own; the reference's Own. -/
namespace Go.Proofs.YteigjobliflkdaaGreatDoor
open Go.RowKit

theorem indexByte_cut (c : UInt8) : ∀ l : List UInt8, Lib.indexByte l c = if (cut1 c l).2.2 then ((cut1 c l).1.length : Int) else -1
  | [] => rfl
  | b :: l => by
    have ih := indexByte_cut c l
    rw [Lib.indexByte, cut1]
    by_cases h : b = c
    · subst h; simp
    · rw [if_neg (by simpa using h), if_neg h, ih]
      cases hc : (cut1 c l).2.2
      · simp
      · simp only [if_true]
        rw [if_neg (by rw [beq_iff_eq]; omega)]
        simp
theorem index47 (s : ByteArray) (w : World) : Calls Tryz.prog 109 #[.string s, .int .u8 47] w fun e w' => e = .returned (.int .i64 (if (cut1 47 s.data.toList).2.2 then ((cut1 47 s.data.toList).1.length : Int) else -1)) ∧ w = w' := by
  rw [← indexByte_cut]
  exact (Tryz.strings_IndexByte s 47 w).mono fun _ _ h => ⟨h.1, h.2.symm⟩
theorem index47_no {s : ByteArray} (h : (cut1 47 s.data.toList).2.2 = false) (w : World) : Calls Tryz.prog 109 #[.string s, .int .u8 47] w fun e w' => e = .returned (.int .i64 (-1)) ∧ w = w' := by
  have := index47 s w; rw [h] at this; exact this
theorem index47_yes {s : ByteArray} {k : Nat} (h : (cut1 47 s.data.toList).2.2 = true) (hk : (cut1 47 s.data.toList).1.length = k) (w : World) : Calls Tryz.prog 109 #[.string s, .int .u8 47] w fun e w' => e = .returned (.int .i64 k) ∧ w = w' := by
  have := index47 s w; rw [h, hk] at this; exact this
theorem cutPrefix_no {s : ByteArray} (h : httpL.isPrefixOf s.data.toList = false) (w : World) : Calls Tryz.prog 108 #[.string s, .string ⟨#[104, 116, 116, 112, 58, 47, 47]⟩] w fun e w' => e = .returned (.tuple #[.string s, .bool false]) ∧ w = w' := by
  have := Tryz.strings_CutPrefix s ⟨#[104, 116, 116, 112, 58, 47, 47]⟩ w
  have hp : Lib.hasPrefix s.data.toList (⟨#[104, 116, 116, 112, 58, 47, 47]⟩ : ByteArray).data.toList = false := h
  unfold Lib.trimPrefix at this
  rw [hp] at this
  simp only [Bool.false_eq_true, if_false, bs_mk] at this
  exact this.mono fun _ _ h => ⟨h.1, h.2.symm⟩
theorem cutPrefix_yes {s r : ByteArray} (h : httpL.isPrefixOf s.data.toList = true) (hr : r.data.toList = s.data.toList.drop 7) (w : World) : Calls Tryz.prog 108 #[.string s, .string ⟨#[104, 116, 116, 112, 58, 47, 47]⟩] w fun e w' => e = .returned (.tuple #[.string r, .bool true]) ∧ w = w' := by
  have := Tryz.strings_CutPrefix s ⟨#[104, 116, 116, 112, 58, 47, 47]⟩ w
  have hp : Lib.hasPrefix s.data.toList (⟨#[104, 116, 116, 112, 58, 47, 47]⟩ : ByteArray).data.toList = true := h
  unfold Lib.trimPrefix at this
  rw [hp] at this
  simp only [if_true] at this
  rw [show s.data.toList.drop (⟨#[104, 116, 116, 112, 58, 47, 47]⟩ : ByteArray).data.toList.length = r.data.toList from hr.symm, bs_mk] at this
  exact this.mono fun _ _ h => ⟨h.1, h.2.symm⟩
theorem cut63_B {s a b : ByteArray} {m : Bool} (h : cut1 63 s.data.toList = (a.data.toList, b.data.toList, m)) (w : World) (hG : Good w) (hs : s.size ≤ 60000) :
    Calls Tryz.prog 83 #[.string s, .string ⟨#[63]⟩] w fun e w' => e = .returned (.tuple #[.string a, .string b, .bool m]) ∧ Below w.heap.size w w' := by
  have := cut_any 63 s w hG hs
  rw [h] at this
  simp only [bs_mk] at this
  exact this
theorem decode_N {s : ByteArray} (h : pctDec s.data.toList = none) (hs : s.size ≤ 60000) (w : World) :
    Calls Tryz.prog 110 #[.string s] w fun e w' => ∃ at' : Int, e = .returned (.tuple #[.string ⟨#[]⟩, .agg #[.int .i64 3, .int .i64 at']]) ∧ Below w.heap.size w w' := by
  have := decode_any s w hs; rw [h] at this; exact this
theorem decode_S {s d : ByteArray} (h : pctDec s.data.toList = some d.data.toList) (hs : s.size ≤ 60000) (w : World) :
    Calls Tryz.prog 110 #[.string s] w fun e w' => e = .returned (.tuple #[.string d, .agg #[.int .i64 0, .int .i64 0]]) ∧ Below w.heap.size w w' := by
  have := decode_any s w hs; rw [h] at this
  refine this.mono fun e w' h => ?_
  have h : e = .returned (.tuple #[.string ⟨d.data.toList.toArray⟩, .agg #[.int .i64 0, .int .i64 0]]) ∧ Below w.heap.size w w' := h
  rwa [bs_mk] at h
theorem build_E {h p q : ByteArray} {x : Int} (hb : locBuild h.data.toList p.data.toList q.data.toList = .error x) (hh : h.size ≤ 60000) (hp : p.size ≤ 60000) (hq : q.size ≤ 60000) (w : World) (hG : Good w) :
    Calls Tryz.prog 61 #[.string h, .string p, .string q] w fun e w' => e = .returned (.tuple #[.string ⟨#[]⟩, .int .i64 x]) ∧ Below w.heap.size w w' := by
  have := build_any h p q w hG hh hp hq; rw [hb] at this; exact this
theorem build_S {h p q t : ByteArray} (hb : locBuild h.data.toList p.data.toList q.data.toList = .ok t.data.toList) (hh : h.size ≤ 60000) (hp : p.size ≤ 60000) (hq : q.size ≤ 60000) (w : World) (hG : Good w) :
    Calls Tryz.prog 61 #[.string h, .string p, .string q] w fun e w' => e = .returned (.tuple #[.string t, .int .i64 0]) ∧ Below w.heap.size w w' := by
  have := build_any h p q w hG hh hp hq; rw [hb] at this
  have h2 : vStr (.ok t.data.toList) = .tuple #[.string t, .int .i64 0] := by show Value.tuple #[.string ⟨t.data.toList.toArray⟩, .int .i64 0] = _; rw [bs_mk]
  rw [h2] at this; exact this
theorem take_ext (s : ByteArray) (k : Nat) : (s.extract 0 k).data.toList = s.data.toList.take k := by rw [Lib.extract_data]; simp

set_option maxRecDepth 100000 in
set_option maxHeartbeats 8000000 in
theorem splitL_any (s : ByteArray) (w : World) (hG : Good w) (hs : s.size ≤ 50000) : Calls Tryz.prog 53 #[.string s] w (RetV (vLoc (locSplit s.data.toList)) w) := by
  cases hpre : httpL.isPrefixOf s.data.toList with
  | false =>
    have HF := Lib.hid (show locSplit s.data.toList = none by unfold locSplit; rw [if_pos hpre])
    have HP := Lib.hid (cutPrefix_no hpre)
    have HI := Lib.hid (index47 s)
    clear hpre
    generalize (if (cut1 47 s.data.toList).2.2 then ((cut1 47 s.data.toList).1.length : Int) else -1) = x at HI
    go_enter Tryz.func53, Tryz.ntmps53
    go_wp2_with fail
    refine (HP.out _).mono ?_
    rintro e w1 ⟨rfl, rfl⟩
    go_wp2_with fail
    refine (HI.out _).mono ?_
    rintro e w1 ⟨rfl, rfl⟩
    go_wp2_with fail
    exact ret4 Tryz.results53 rfl (RetV.mk (by rw [HF.out]; rfl) (Below.refl _ _))
  | true =>
  obtain ⟨r, hr⟩ : ∃ r : ByteArray, r.data.toList = s.data.toList.drop 7 := ⟨⟨(s.data.toList.drop 7).toArray⟩, rfl⟩
  have hrs : r.size ≤ s.size := by rw [← size_len, hr, List.length_drop, size_len]; omega
  have HP := Lib.hid (cutPrefix_yes hpre hr)
  cases hc : (cut1 47 r.data.toList).2.2 with
  | false =>
    have HF := Lib.hid (show locSplit s.data.toList = none by unfold locSplit; rw [if_neg (by rw [hpre]; decide)]; simp only; rw [← hr, if_pos hc])
    have HI := Lib.hid (index47_no hc)
    clear hpre hr hc
    go_enter Tryz.func53, Tryz.ntmps53
    go_wp2_with fail
    refine (HP.out _).mono ?_
    rintro e w1 ⟨rfl, rfl⟩
    go_wp2_with fail
    refine (HI.out _).mono ?_
    rintro e w1 ⟨rfl, rfl⟩
    go_wp2_with fail
    exact ret4 Tryz.results53 rfl (RetV.mk (by rw [HF.out]; rfl) (Below.refl _ _))
  | true =>
  obtain ⟨k, hk⟩ : ∃ k, (cut1 47 r.data.toList).1.length = k := ⟨_, rfl⟩
  have HI := Lib.hid (index47_yes hc hk)
  have hkr : k ≤ r.size := by have := (cut1_len 47 r.data.toList).1; rw [hk, size_len] at this; exact this
  have htk := cut1_take 47 r.data.toList
  have happ := cut1_app 47 r.data.toList hc
  rw [hk] at htk
  obtain ⟨h, hh⟩ : ∃ h, r.extract 0 k = h := ⟨_, rfl⟩
  obtain ⟨t, ht⟩ : ∃ t, r.extract k r.size = t := ⟨_, rfl⟩
  have hhl : h.data.toList = (cut1 47 r.data.toList).1 := by rw [← hh, take_ext, htk]
  have htl : t.data.toList = 47 :: (cut1 47 r.data.toList).2.1 := by
    rw [← ht, drop_bytes]
    conv => lhs; rw [happ]
    rw [List.drop_left' hk]
  have hhs : h.size ≤ r.size := by rw [← size_len, hhl]; have := (cut1_len 47 r.data.toList).1; rw [size_len] at this; exact this
  have hts : t.size ≤ r.size := by rw [← size_len, ← ht, drop_bytes, List.length_drop, size_len]; omega
  have HL := Lib.hid (show locSplit s.data.toList = if hostIs h.data.toList = false then none else backB s.data.toList h.data.toList (cut1 63 t.data.toList).1 (cut1 63 t.data.toList).2.1 by
    rw [locSplit_eq, if_neg (by rw [hpre]; decide), ← hr, if_neg (by rw [hc]; decide), ← hhl, ← htl])
  have b0 : (0 : Int) ≤ (k : Int) := by omega
  have b1 : (k : Int) ≤ (r.size : Int) := by omega
  have d0 : decide ((k : Int) < 0) = false := by simp
  clear hpre hr hc htk happ hhl htl hk
  cases hi : hostIs h.data.toList with
  | false =>
    have HF := Lib.hid (show locSplit s.data.toList = none by rw [HL.out, if_pos hi])
    have HS := Lib.hid (is_anyT hi)
    clear hi
    go_enter Tryz.func53, Tryz.ntmps53
    go_wp2_with fail
    refine (HP.out _).mono ?_
    rintro e w1 ⟨rfl, rfl⟩
    go_wp2_with fail
    refine (HI.out _).mono ?_
    rintro e w1 ⟨rfl, rfl⟩
    go_wp2_with fail
    refine (HS.out _ hG (by omega)).mono ?_
    rintro e w2 ⟨rfl, HB2⟩
    go_wp2_with fail
    exact ret4 Tryz.results53 rfl (RetV.mk (by rw [HF.out]; rfl) HB2)
  | true =>
  have HS := Lib.hid (is_anyT hi)
  obtain ⟨⟨la, lq, m⟩, hcut⟩ : ∃ x, cut1 63 t.data.toList = x := ⟨_, rfl⟩
  obtain ⟨a, rfl⟩ : ∃ a : ByteArray, a.data.toList = la := ⟨⟨la.toArray⟩, rfl⟩
  obtain ⟨q, rfl⟩ : ∃ a : ByteArray, a.data.toList = lq := ⟨⟨lq.toArray⟩, rfl⟩
  have HC := Lib.hid (cut63_B hcut)
  have hlen := cut1_len 63 t.data.toList
  rw [hcut] at hlen
  simp only at hlen
  rw [size_len, size_len, size_len] at hlen
  have has : a.size ≤ t.size := hlen.1
  have hqs : q.size ≤ t.size := hlen.2.1
  have HL2 := Lib.hid (show locSplit s.data.toList = backB s.data.toList h.data.toList a.data.toList q.data.toList by rw [HL.out, if_neg (by rw [hi]; decide), hcut])
  clear hlen hcut hi HL
  cases hd : pctDec a.data.toList with
  | none =>
    have HF := Lib.hid (show locSplit s.data.toList = none by rw [HL2.out]; unfold backB; rw [hd])
    have HD := Lib.hid (decode_N hd)
    clear hd
    go_enter Tryz.func53, Tryz.ntmps53
    go_wp2_with fail
    refine (HP.out _).mono ?_
    rintro e w1 ⟨rfl, rfl⟩
    go_wp2_with fail
    refine (HI.out _).mono ?_
    rintro e w1 ⟨rfl, rfl⟩
    go_wp2_with fail
    refine (HS.out _ hG (by omega)).mono ?_
    rintro e w2 ⟨rfl, HB2⟩
    have hG2 := hG.next HB2
    go_wp2_with fail
    refine (HC.out _ hG2 (by omega)).mono ?_
    rintro e w3 ⟨rfl, HB3⟩
    go_wp2_with fail
    refine (HD.out (by omega) _).mono ?_
    rintro e w4 ⟨x, rfl, HB4⟩
    go_wp2_with fail
    exact ret4 Tryz.results53 rfl (RetV.mk (by rw [HF.out]; rfl) (below2 (below2 (below2 HB2 HB3) HB4) (one_below _ _)))
  | some ld =>
  obtain ⟨d, rfl⟩ : ∃ d : ByteArray, d.data.toList = ld := ⟨⟨ld.toArray⟩, rfl⟩
  have HD := Lib.hid (decode_S hd)
  have hds : d.size ≤ a.size := by have := pctDec_le hd; rw [size_len, size_len] at this; exact this
  cases hb : locBuild h.data.toList d.data.toList q.data.toList with
  | error x =>
    have HF := Lib.hid (show locSplit s.data.toList = none by rw [HL2.out]; unfold backB; rw [hd]; simp only; rw [hb])
    have HX := Lib.hid (build_E hb)
    obtain ⟨x1, x2⟩ := locBuild_err hb
    clear hd hb
    go_enter Tryz.func53, Tryz.ntmps53
    go_wp2_with fail
    refine (HP.out _).mono ?_
    rintro e w1 ⟨rfl, rfl⟩
    go_wp2_with fail
    refine (HI.out _).mono ?_
    rintro e w1 ⟨rfl, rfl⟩
    go_wp2_with fail
    refine (HS.out _ hG (by omega)).mono ?_
    rintro e w2 ⟨rfl, HB2⟩
    have hG2 := hG.next HB2
    go_wp2_with fail
    refine (HC.out _ hG2 (by omega)).mono ?_
    rintro e w3 ⟨rfl, HB3⟩
    have hG3 := hG2.next HB3
    go_wp2_with fail
    refine (HD.out (by omega) _).mono ?_
    rintro e w4 ⟨rfl, HB4⟩
    have hG4 := (hG3.next HB4).next (one_below w4 (.cells #[.int .i64 0, .int .i64 0] 111))
    go_wp2_with fail
    refine (HX.out (by omega) (by omega) (by omega) _ hG4).mono ?_
    rintro e w5 ⟨rfl, HB5⟩
    go_wp2_with fail
    exact ret4 Tryz.results53 rfl (RetV.mk (by rw [HF.out]; rfl) (below2 (below2 (below2 (below2 HB2 HB3) HB4) (one_below _ _)) HB5))
  | ok lu =>
  obtain ⟨u, rfl⟩ : ∃ u : ByteArray, u.data.toList = lu := ⟨⟨lu.toArray⟩, rfl⟩
  have HX := Lib.hid (build_S hb)
  have HF0 := Lib.hid (show locSplit s.data.toList = if u.data.toList == s.data.toList then some (h.data.toList, d.data.toList, q.data.toList) else none by rw [HL2.out]; unfold backB; rw [hd]; simp only; rw [hb])
  by_cases hus : u.data.toList = s.data.toList
  · have HF := Lib.hid (show vLoc (locSplit s.data.toList) = .tuple #[.string h, .string d, .string q, .int .i64 0] by
      rw [HF0.out, if_pos (by rw [beq_iff_eq]; exact hus)]
      show Value.tuple #[S h.data.toList, S d.data.toList, S q.data.toList, .int .i64 0] = _
      rw [← S_of, ← S_of, ← S_of])
    have x1 : (u.toList == s.toList) = true := by rw [beq_iff_eq, Lib.toList_data, Lib.toList_data]; exact hus
    clear hd hb hus
    go_enter Tryz.func53, Tryz.ntmps53
    go_wp2_with fail
    refine (HP.out _).mono ?_
    rintro e w1 ⟨rfl, rfl⟩
    go_wp2_with fail
    refine (HI.out _).mono ?_
    rintro e w1 ⟨rfl, rfl⟩
    go_wp2_with fail
    refine (HS.out _ hG (by omega)).mono ?_
    rintro e w2 ⟨rfl, HB2⟩
    have hG2 := hG.next HB2
    go_wp2_with fail
    refine (HC.out _ hG2 (by omega)).mono ?_
    rintro e w3 ⟨rfl, HB3⟩
    have hG3 := hG2.next HB3
    go_wp2_with fail
    refine (HD.out (by omega) _).mono ?_
    rintro e w4 ⟨rfl, HB4⟩
    have hG4 := (hG3.next HB4).next (one_below w4 (.cells #[.int .i64 0, .int .i64 0] 111))
    go_wp2_with fail
    refine (HX.out (by omega) (by omega) (by omega) _ hG4).mono ?_
    rintro e w5 ⟨rfl, HB5⟩
    go_wp2_with fail
    exact ret4 Tryz.results53 rfl (RetV.mk (by rw [HF.out]; rfl) (below2 (below2 (below2 (below2 HB2 HB3) HB4) (one_below _ _)) HB5))
  · have HF := Lib.hid (show locSplit s.data.toList = none by rw [HF0.out, if_neg (by rw [beq_iff_eq]; exact hus)])
    have x1 : (u.toList == s.toList) = false := by rw [beq_eq_false_iff_ne, Lib.toList_data, Lib.toList_data]; exact hus
    clear hd hb hus
    go_enter Tryz.func53, Tryz.ntmps53
    go_wp2_with fail
    refine (HP.out _).mono ?_
    rintro e w1 ⟨rfl, rfl⟩
    go_wp2_with fail
    refine (HI.out _).mono ?_
    rintro e w1 ⟨rfl, rfl⟩
    go_wp2_with fail
    refine (HS.out _ hG (by omega)).mono ?_
    rintro e w2 ⟨rfl, HB2⟩
    have hG2 := hG.next HB2
    go_wp2_with fail
    refine (HC.out _ hG2 (by omega)).mono ?_
    rintro e w3 ⟨rfl, HB3⟩
    have hG3 := hG2.next HB3
    go_wp2_with fail
    refine (HD.out (by omega) _).mono ?_
    rintro e w4 ⟨rfl, HB4⟩
    have hG4 := (hG3.next HB4).next (one_below w4 (.cells #[.int .i64 0, .int .i64 0] 111))
    go_wp2_with fail
    refine (HX.out (by omega) (by omega) (by omega) _ hG4).mono ?_
    rintro e w5 ⟨rfl, HB5⟩
    go_wp2_with fail
    exact ret4 Tryz.results53 rfl (RetV.mk (by rw [HF.out]; rfl) (below2 (below2 (below2 (below2 HB2 HB3) HB4) (one_below _ _)) HB5))

theorem splitL_N {s : ByteArray} (h : locSplit s.data.toList = none) (w : World) (hG : Good w) (hs : s.size ≤ 50000) :
    Calls Tryz.prog 53 #[.string s] w fun e w' => e = .returned (.tuple #[.string ⟨#[]⟩, .string ⟨#[]⟩, .string ⟨#[]⟩, .int .i64 3]) ∧ Below w.heap.size w w' := by
  have := splitL_any s w hG hs; rw [h] at this; exact this
theorem vLoc_some {a b c : ByteArray} : vLoc (some (a.data.toList, b.data.toList, c.data.toList)) = .tuple #[.string a, .string b, .string c, .int .i64 0] := by
  show Value.tuple #[S a.data.toList, S b.data.toList, S c.data.toList, .int .i64 0] = _
  rw [← S_of, ← S_of, ← S_of]
theorem splitL_S {s a b c : ByteArray} (h : locSplit s.data.toList = some (a.data.toList, b.data.toList, c.data.toList)) (w : World) (hG : Good w) (hs : s.size ≤ 50000) :
    Calls Tryz.prog 53 #[.string s] w fun e w' => e = .returned (.tuple #[.string a, .string b, .string c, .int .i64 0]) ∧ Below w.heap.size w w' := by
  have := splitL_any s w hG hs; rw [h, vLoc_some] at this; exact this
theorem splitR_N {s : ByteArray} (h : locSplit s.data.toList = none) (w : World) (hs : s.size ≤ 50000) :
    Calls Tryz.prog 54 #[.string s] w fun e w' => e = .returned (.tuple #[.string ⟨#[]⟩, .string ⟨#[]⟩, .string ⟨#[]⟩, .int .i64 3]) ∧ Below w.heap.size w w' := by
  have := split_refL s w (by omega); rw [h] at this; exact this
theorem splitR_S {s a b c : ByteArray} (h : locSplit s.data.toList = some (a.data.toList, b.data.toList, c.data.toList)) (w : World) (hs : s.size ≤ 50000) :
    Calls Tryz.prog 54 #[.string s] w fun e w' => e = .returned (.tuple #[.string a, .string b, .string c, .int .i64 0]) ∧ Below w.heap.size w w' := by
  have := split_refL s w (by omega); rw [h, vLoc_some] at this; exact this

/-- Three texts of lists. -/
theorem loc_form (r : Option (List UInt8 × List UInt8 × List UInt8)) : r = none ∨ ∃ a b c : ByteArray, r = some (a.data.toList, b.data.toList, c.data.toList) := by
  rcases r with _ | ⟨a, b, c⟩
  · exact .inl rfl
  · exact .inr ⟨⟨a.toArray⟩, ⟨b.toArray⟩, ⟨c.toArray⟩, rfl⟩

set_option maxRecDepth 100000 in
set_option maxHeartbeats 1600000 in
theorem own_any (s n : ByteArray) (w : World) (hG : Good w) (hs : s.size ≤ 50000) (hn : n.size ≤ 50000) : Calls Tryz.prog 55 #[.string s, .string n] w (RetV (vBool (locOwn s.data.toList n.data.toList)) w) := by
  rcases loc_form (locSplit s.data.toList) with h | ⟨a, b, c, h⟩
  · have HF := Lib.hid (show locOwn s.data.toList n.data.toList = (false, 3) by unfold locOwn; rw [h])
    have HS := Lib.hid (splitL_N h)
    clear h
    go_enter Tryz.func55, Tryz.ntmps55
    go_wp2_with fail
    refine (HS.out _ hG hs).mono ?_
    rintro e w1 ⟨rfl, HB1⟩
    go_wp2_with fail
    go_ret2
    exact RetV.mk (by rw [HF.out]; rfl) HB1
  · have HS := Lib.hid (splitL_S h)
    cases hi : hostIs n.data.toList with
    | false =>
      have HF := Lib.hid (show locOwn s.data.toList n.data.toList = (false, 11) by unfold locOwn; rw [h]; simp [hi])
      have HI := Lib.hid (is_anyT hi)
      clear h hi
      go_enter Tryz.func55, Tryz.ntmps55
      go_wp2_with fail
      refine (HS.out _ hG hs).mono ?_
      rintro e w1 ⟨rfl, HB1⟩
      go_wp2_with fail
      refine (HI.out _ (hG.next HB1) (by omega)).mono ?_
      rintro e w2 ⟨rfl, HB2⟩
      go_wp2_with fail
      go_ret2
      exact RetV.mk (by rw [HF.out]; rfl) (below2 HB1 HB2)
    | true =>
      have HF := Lib.hid (show locOwn s.data.toList n.data.toList = (a.toList == n.toList, 0) by unfold locOwn; rw [h]; simp [hi, Lib.toList_data])
      have HI := Lib.hid (is_anyT hi)
      clear h hi
      go_enter Tryz.func55, Tryz.ntmps55
      go_wp2_with fail
      refine (HS.out _ hG hs).mono ?_
      rintro e w1 ⟨rfl, HB1⟩
      go_wp2_with fail
      refine (HI.out _ (hG.next HB1) (by omega)).mono ?_
      rintro e w2 ⟨rfl, HB2⟩
      go_wp2_with fail
      go_ret2
      exact RetV.mk (by rw [HF.out]; rfl) (below2 HB1 HB2)

set_option maxRecDepth 100000 in
set_option maxHeartbeats 1600000 in
theorem own_ref (s n : ByteArray) (w : World) (hs : s.size ≤ 50000) (hn : n.size ≤ 50000) : Calls Tryz.prog 56 #[.string s, .string n] w (RetV (vBool (locOwn s.data.toList n.data.toList)) w) := by
  rcases loc_form (locSplit s.data.toList) with h | ⟨a, b, c, h⟩
  · have HF := Lib.hid (show locOwn s.data.toList n.data.toList = (false, 3) by unfold locOwn; rw [h])
    have HS := Lib.hid (splitR_N h)
    clear h
    go_enter Tryz.func56, Tryz.ntmps56
    go_wp2_with fail
    refine (HS.out _ hs).mono ?_
    rintro e w1 ⟨rfl, HB1⟩
    go_wp2_with fail
    go_ret2
    exact RetV.mk (by rw [HF.out]; rfl) HB1
  · have HS := Lib.hid (splitR_S h)
    cases hi : hostIs n.data.toList with
    | false =>
      have HF := Lib.hid (show locOwn s.data.toList n.data.toList = (false, 11) by unfold locOwn; rw [h]; simp [hi])
      have HI := Lib.hid (is_refB hi)
      clear h hi
      go_enter Tryz.func56, Tryz.ntmps56
      go_wp2_with fail
      refine (HS.out _ hs).mono ?_
      rintro e w1 ⟨rfl, HB1⟩
      go_wp2_with fail
      refine (HI.out (by omega) _).mono ?_
      rintro e w2 ⟨rfl, HB2⟩
      go_wp2_with fail
      go_ret2
      exact RetV.mk (by rw [HF.out]; rfl) (below2 HB1 HB2)
    | true =>
      have HF := Lib.hid (show locOwn s.data.toList n.data.toList = (a.toList == n.toList, 0) by unfold locOwn; rw [h]; simp [hi, Lib.toList_data])
      have HI := Lib.hid (is_refB hi)
      clear h hi
      go_enter Tryz.func56, Tryz.ntmps56
      go_wp2_with fail
      refine (HS.out _ hs).mono ?_
      rintro e w1 ⟨rfl, HB1⟩
      go_wp2_with fail
      refine (HI.out (by omega) _).mono ?_
      rintro e w2 ⟨rfl, HB2⟩
      go_wp2_with fail
      go_ret2
      exact RetV.mk (by rw [HF.out]; rfl) (below2 HB1 HB2)
end Go.Proofs.YteigjobliflkdaaGreatDoor
