/- A Builder's methods. -/
import Derived.Test.YtdajdgjacajemaaGreatIrBld
import Derived.Test.YtdajdgjacajemaaGreatFwC
import Derived.Test.YtdajdgjacajemaaGreatIrDu
namespace Go.Proofs.YtdajdgjacajemaaGreat
open Go Fw
set_option linter.unusedSimpArgs false
set_option linter.unusedVariables false
set_option linter.unusedSectionVars false

abbrev ptrS (b tag : Nat) : Value := .pointer (some ⟨b, 0, spotOf tag⟩)
/-- The buffer: nil yet, or a row of bytes. -/
def BufR (H : Heap) (buf : Value) (l : List UInt8) (bb : Option Nat) : Prop :=
  (l = [] ∧ buf = .slice none 0 0 ∧ bb = none) ∨ ∃ i tg, bb = some i ∧ l ≠ [] ∧ buf = bV i tg l.length ∧ H[i]? = some ⟨tg, .byt T8 l⟩
/-- A Builder in an entry that holds it alone. -/
def Bd (H : Heap) (b tag TB : Nat) (l : List UInt8) (bb : Option Nat) : Prop :=
  ∃ adr buf, H[b]? = some ⟨tag, .cells false (uT TB) [adr, buf]⟩ ∧ (adr = .pointer none ∨ adr = ptrS b tag) ∧ BufR H buf l bb
structure BF (T : Tab) : Prop where
  cc : T 97 = some F_strings_Builder_copyCheck
  ws : T 67 = some F_strings_Builder_WriteString
  st : T 42 = some F_strings_Builder_String
theorem set_id {H : Heap} {b : Nat} {e : Entry} (h : H[b]? = some e) : H.set b e = H := by
  obtain ⟨h1, h2⟩ := List.getElem?_eq_some_iff.1 h
  rw [← h2, List.set_getElem_self]
section
variable {T : Tab} {H : Heap} {b tag TB : Nat}
theorem lk_s {tag' : Nat} {o : AObj} {off : Nat} (h : H[b]? = some ⟨tag, o⟩) : lk H ⟨b, off, spotOf tag⟩ = some ⟨tag, o⟩ := own_lk h
theorem ev_copyCheck (hT : T 97 = some F_strings_Builder_copyCheck) {adr buf : Value} (hb : H[b]? = some ⟨tag, .cells false (uT TB) [adr, buf]⟩) (ha : adr = .pointer none ∨ adr = ptrS b tag) (hTB : TBs.any (fun T => decide (uT TB = uT T)) = true) (hbuf : oneC buf = true) :
    Ev T 97 [ptrS b tag] H fun v h => v = .tuple #[] ∧ h = H.set b ⟨tag, .cells false (uT TB) [ptrS b tag, buf]⟩ := by
  have k1 := fun off => lk_s (off := off) (tag' := 0) hb
  rw [Ev_fn hT rfl]
  rcases ha with rfl | rfl
  · simp only [F_strings_Builder_copyCheck, fws, seval, cond_true, cond_false, if_true, if_false, unV, isNil, optI, iV, stepI, evalR, IntKind.bits, ini, fwh, fwi, spl, rdN, cellsAt, N_strings_Builder_copyCheck, xI, k1, hTB, tag_spot, Nat.beq_refl]
    exact ⟨trivial, trivial⟩
  · simp only [F_strings_Builder_copyCheck, fws, seval, cond_true, cond_false, if_true, if_false, unV, isNil, optI, iV, stepI, evalR, IntKind.bits, ini, fwh, fwi, spl, rdN, cellsAt, N_strings_Builder_copyCheck, xI, k1, hTB, tag_spot, Nat.beq_refl]
    exact ⟨trivial, (set_id hb).symm⟩
theorem BufR.one {buf : Value} {l : List UInt8} {bb : Option Nat} (h : BufR H buf l bb) : oneC buf = true := by
  rcases h with ⟨_, rfl, _⟩ | ⟨i, tg, _, _, rfl, _⟩ <;> rfl
theorem BufR.cells {buf : Value} {l : List UInt8} {bb : Option Nat} (h : BufR H buf l bb) : buf.cells = #[buf] := by
  rcases h with ⟨_, rfl, _⟩ | ⟨i, tg, _, _, rfl, _⟩ <;> rfl
theorem BufR.all {buf : Value} {l : List UInt8} {bb : Option Nat} (h : BufR H buf l bb) : oneAll buf = true := by
  simp [oneAll, h.cells, h.one]
/-- What stays, when a Builder has been written. -/
structure BFrame (H h : Heap) (b : Nat) (bb bb' : Option Nat) : Prop where
  len : H.length ≤ h.length
  same : ∀ q, q < H.length → q ≠ b → bb ≠ some q → h[q]? = H[q]?
  blk : bb' = bb ∨ (bb = none ∧ ∃ k, bb' = some k ∧ H.length ≤ k)
theorem BFrame.refl (H : Heap) (b : Nat) (bb : Option Nat) : BFrame H H b bb bb := ⟨Nat.le_refl _, fun _ _ _ _ => rfl, .inl rfl⟩
theorem BFrame.trans {H1 H2 H3 : Heap} {b : Nat} {b1 b2 b3 : Option Nat} (h : BFrame H1 H2 b b1 b2) (k : BFrame H2 H3 b b2 b3) : BFrame H1 H3 b b1 b3 := by
  refine ⟨Nat.le_trans h.len k.len, fun q hq h1 h2 => ?_, ?_⟩
  · rw [k.same q (Nat.lt_of_lt_of_le hq h.len) h1 ?_, h.same q hq h1 h2]
    rcases h.blk with e | ⟨_, b', e, h3⟩
    · rw [e]; exact h2
    · rw [e]; intro e'; cases e'; omega
  · rcases h.blk with e | ⟨h0, b', e, h3⟩
    · rcases k.blk with k1 | ⟨k0, b'', k2, k3⟩
      · exact .inl (k1.trans e)
      · exact .inr ⟨e.symm.trans k0, b'', k2, Nat.le_trans h.len k3⟩
    · rcases k.blk with k1 | ⟨k0, _, _, _⟩
      · exact .inr ⟨h0, b', k1.trans e, h3⟩
      · rw [e] at k0; cases k0
/-- Bytes are appended to the buffer. -/
theorem BufR.app {buf : Value} {l m : List UInt8} {bb : Option Nat} (h : BufR H buf l bb) (hl : l.length + m.length ≤ 140737488355328) :
    ∃ buf' H' bb', appBI H T8 buf m = some (buf', H') ∧ BufR H' buf' (l ++ m) bb' ∧ (H' = H ∨ (∃ e, H' = H ++ [e]) ∨ ∃ i e, bb = some i ∧ H' = H.set i e) ∧ (bb' = bb ∨ (bb = none ∧ bb' = some H.length)) := by
  rcases h with ⟨rfl, rfl, rfl⟩ | ⟨i, tg, rfl, hl0, rfl, hi⟩
  · cases m with
    | nil => exact ⟨.slice none 0 0, H, none, rfl, .inl ⟨rfl, rfl, rfl⟩, .inl rfl, .inl rfl⟩
    | cons a m =>
      refine ⟨bV H.length 1 (a :: m).length, H ++ [⟨1, .byt T8 (a :: m)⟩], some H.length, ?_, .inr ⟨H.length, 1, rfl, by simp, rfl, by simp⟩, .inr (.inl ⟨_, rfl⟩), .inr ⟨rfl, rfl⟩⟩
      have h1 : (a :: m).length ≤ 140737488355328 := by simp only [List.length_nil] at hl; omega
      simp only [appBI, List.isEmpty, Nat.beq_refl, Bool.and_self, cond_true, cond_false, if_pos h1]
  · have hlt := (List.getElem?_eq_some_iff.1 hi).1
    refine ⟨bV i (tg + 1) (l.length + m.length), H.set i ⟨tg + 1, .byt T8 (l ++ m)⟩, some i, ?_, .inr ⟨i, tg + 1, rfl, by simp [hl0], by simp, List.getElem?_set_self hlt⟩, .inr (.inr ⟨i, _, rfl, rfl⟩), .inl rfl⟩
    have hb : bVI (bV i tg l.length) = some (i, tg, l.length) := rfl
    simp only [appBI, hb, hi, Nat.beq_refl, Bool.and_self, cond_true, if_pos hl]
theorem srcOf_str {s : List UInt8} : srcOf H 1 (strV s) = some (byteE.cs s, s.length) := by
  simp only [srcOf, Nat.beq_refl, cond_true, bytesV_str, size_str]
theorem strOfS_bytes : ∀ l : List UInt8, strOfS (byteE.cs l) = some l
  | [] => rfl
  | b :: l => by
    rw [cs_cons, byteE_e]
    have h : (b.toNat : Int) = ((UInt8.ofNat (b.toNat : Int).toNat).toNat : Int) := by simp
    simp only [List.cons_append, List.nil_append, strOfS, strOfS_bytes l, Option.map_some, Int.toNat_natCast, UInt8.ofNat_toNat, if_true]
theorem lenI_strB {H : Heap} {l : List UInt8} : lenI H 0 (strV l) = some (.int .i64 l.length, H) := rfl
/-- WriteString. -/
theorem ev_WriteString (t : BF T) {l s : List UInt8} {bb : Option Nat} (hB : Bd H b tag TB l bb) (hTB : TBs.any (fun T => decide (uT TB = uT T)) = true) (hl : l.length + s.length ≤ 140737488355328) :
    Ev T 67 [ptrS b tag, strV s] H fun v h => v = .tuple #[.int .i64 s.length, .nilIface] ∧ ∃ bb', Bd h b tag TB (l ++ s) bb' ∧ BFrame H h b bb bb' := by
  obtain ⟨adr, buf, hb, ha, hr⟩ := hB
  have hlt := (List.getElem?_eq_some_iff.1 hb).1
  obtain ⟨H1, hH1⟩ : ∃ H1, H1 = H.set b ⟨tag, .cells false (uT TB) [ptrS b tag, buf]⟩ := ⟨_, rfl⟩
  have c0 := ev_copyCheck t.cc hb ha hTB hr.one
  rw [← hH1] at c0
  have hb1 : H1[b]? = some ⟨tag, .cells false (uT TB) [ptrS b tag, buf]⟩ := by rw [hH1]; exact List.getElem?_set_self hlt
  have hr1 : BufR H1 buf l bb := by
    rcases hr with h | ⟨i, tg, h1, h2, h3, h4⟩
    · exact .inl h
    · refine .inr ⟨i, tg, h1, h2, h3, ?_⟩
      rw [hH1, List.getElem?_set_ne (fun e => by subst e; rw [hb] at h4; cases h4)]
      exact h4
  have hlen1 : H1.length = H.length := by rw [hH1, List.length_set]
  obtain ⟨buf', H2, bb', a1, a2, a3, a4⟩ := hr1.app (m := s) hl
  have hne : ∀ i, bb = some i → i ≠ b := fun i hi e => by
    subst e
    rcases hr with ⟨_, _, h⟩ | ⟨i', tg, h1, _, _, h4⟩
    · rw [h] at hi; cases hi
    · rw [h1] at hi; cases hi; rw [hb] at h4; cases h4
  have hb2 : H2[b]? = some ⟨tag, .cells false (uT TB) [ptrS b tag, buf]⟩ := by
    rcases a3 with rfl | ⟨e, rfl⟩ | ⟨i, e, hi, rfl⟩
    · exact hb1
    · rw [List.getElem?_append_left (by omega)]; exact hb1
    · rw [List.getElem?_set_ne (hne i hi)]; exact hb1
  have hlen2 : H1.length ≤ H2.length := by
    rcases a3 with rfl | ⟨e, rfl⟩ | ⟨i, e, hi, rfl⟩ <;> simp
  have k1 := fun off => lk_s (off := off) (tag' := 0) hb1
  have k2 := fun off => lk_s (off := off) (tag' := 0) hb2
  have ob := a2.one
  have oc := a2.cells
  have oa := a2.all
  have hfr : BFrame H (H2.set b ⟨tag, .cells false (uT TB) [ptrS b tag, buf']⟩) b bb bb' := by
    refine ⟨by rw [List.length_set]; omega, fun q hq h1 h2 => ?_, ?_⟩
    · rw [List.getElem?_set_ne (fun e => h1 e.symm)]
      have hq1 : H1[q]? = H[q]? := by rw [hH1, List.getElem?_set_ne (fun e => h1 e.symm)]
      rcases a3 with rfl | ⟨e, rfl⟩ | ⟨i, e, hi, rfl⟩
      · exact hq1
      · rw [List.getElem?_append_left (by omega)]; exact hq1
      · rw [List.getElem?_set_ne (fun e => h2 (by rw [hi, e]))]; exact hq1
    · rcases a4 with h | ⟨h1, h2⟩
      · exact .inl h
      · exact .inr ⟨h1, _, h2, by omega⟩
  have hB2 : Bd (H2.set b ⟨tag, .cells false (uT TB) [ptrS b tag, buf']⟩) b tag TB (l ++ s) bb' := by
    refine ⟨ptrS b tag, buf', List.getElem?_set_self (by omega), .inr rfl, ?_⟩
    rcases a2 with h | ⟨i, tg, h1, h2, h3, h4⟩
    · exact .inl h
    · refine .inr ⟨i, tg, h1, h2, h3, ?_⟩
      rw [List.getElem?_set_ne (fun e => by subst e; rw [hb2] at h4; cases h4)]
      exact h4
  have a5 : srcOf H1 1 (strV s) = some (byteE.cs s, s.length) := srcOf_str
  have a6 := strOfS_bytes s
  rw [Ev_fn t.ws rfl]
  simp only [F_strings_Builder_WriteString, fws, seval, cond_true, cond_false, if_true, if_false, unV, isNil, optI, iV, stepI, evalR, IntKind.bits, ini, fwh, fwi, spl, rdN, cellsAt, N_strings_Builder_WriteString, xI, Ev_det c0, k1, k2, a5, a6, a1, ob, oc, oa, lenI_strB, tag_spot, Nat.beq_refl]
  exact ⟨trivial, bb', hB2, hfr⟩
/-- String. -/
theorem ev_String (t : BF T) {l : List UInt8} {bb : Option Nat} (hB : Bd H b tag TB l bb) (hl : l.length ≤ 140737488355328) :
    Ev T 42 [ptrS b tag] H fun v h => v = strV l ∧ H.length ≤ h.length ∧ ∀ q, bb ≠ some q → h[q]? = H[q]? := by
  obtain ⟨adr, buf, hb, ha, hr⟩ := hB
  have k1 := fun off => lk_s (off := off) (tag' := 0) hb
  rw [Ev_fn t.st rfl]
  rcases hr with ⟨rfl, rfl, rfl⟩ | ⟨i, tg, rfl, hl0, rfl, hi⟩
  · simp only [F_strings_Builder_String, fws, seval, cond_true, cond_false, if_true, if_false, unV, isNil, optI, iV, stepI, evalR, IntKind.bits, ini, fwh, fwi, spl, rdN, cellsAt, N_strings_Builder_String, xI, k1, tag_spot, Nat.beq_refl]
    exact ⟨trivial, Nat.le_refl _, fun _ _ => trivial⟩
  · have hbv : bVI (bV i tg l.length) = some (i, tg, l.length) := rfl
    have q1 : (0 < (l.length : Int)) := by have := List.length_pos_iff.2 hl0; omega
    have q2 : Nat.blt 0 l.length = true := by have := List.length_pos_iff.2 hl0; simp [Nat.blt]; omega
    have q3 : ((l.length : Int) ≤ 140737488355328) := by omega
    have k2 := fun off => lk_s (off := off) (tag' := 0) hi
    simp only [F_strings_Builder_String, fws, seval, cond_true, cond_false, if_true, if_false, unV, isNil, optI, iV, stepI, evalR, IntKind.bits, ini, fwh, fwi, spl, rdN, cellsAt, N_strings_Builder_String, xI, k1, k2, hbv, hi, q1, q2, q3, tag_spot, Nat.beq_refl, and_self]
    refine ⟨trivial, by simp, fun q hq => List.getElem?_set_ne (fun e => hq (by rw [e]))⟩
end
end Go.Proofs.YtdajdgjacajemaaGreat
/- WriteByte. -/
namespace Go.Proofs.YtdajdgjacajemaaGreat
open Go Fw
set_option linter.unusedSimpArgs false
set_option linter.unusedVariables false
set_option linter.unusedSectionVars false

section
variable {T : Tab} {H : Heap} {b tag TB : Nat}
/-- WriteByte. -/
theorem ev_WriteByte (t : BF T) (hw : T 66 = some F_strings_Builder_WriteByte) {l : List UInt8} {c : UInt8} {bb : Option Nat} (hB : Bd H b tag TB l bb) (hTB : TBs.any (fun T => decide (uT TB = uT T)) = true) (hl : l.length + 1 ≤ 140737488355328) :
    Ev T 66 [ptrS b tag, .int .u8 c.toNat] H fun v h => v = .nilIface ∧ ∃ bb', Bd h b tag TB (l ++ [c]) bb' ∧ BFrame H h b bb bb' := by
  obtain ⟨adr, buf, hb, ha, hr⟩ := hB
  have hlt := (List.getElem?_eq_some_iff.1 hb).1
  obtain ⟨H1, hH1⟩ : ∃ H1, H1 = H.set b ⟨tag, .cells false (uT TB) [ptrS b tag, buf]⟩ := ⟨_, rfl⟩
  have c0 := ev_copyCheck t.cc hb ha hTB hr.one
  rw [← hH1] at c0
  have hb1 : H1[b]? = some ⟨tag, .cells false (uT TB) [ptrS b tag, buf]⟩ := by rw [hH1]; exact List.getElem?_set_self hlt
  have hr1 : BufR H1 buf l bb := by
    rcases hr with h | ⟨i, tg, h1, h2, h3, h4⟩
    · exact .inl h
    · refine .inr ⟨i, tg, h1, h2, h3, ?_⟩
      rw [hH1, List.getElem?_set_ne (fun e => by subst e; rw [hb] at h4; cases h4)]
      exact h4
  have hlen1 : H1.length = H.length := by rw [hH1, List.length_set]
  obtain ⟨buf', H2, bb', a1, a2, a3, a4⟩ := hr1.app (m := [c]) hl
  have hne : ∀ i, bb = some i → i ≠ b := fun i hi e => by
    subst e
    rcases hr with ⟨_, _, h⟩ | ⟨i', tg, h1, _, _, h4⟩
    · rw [h] at hi; cases hi
    · rw [h1] at hi; cases hi; rw [hb] at h4; cases h4
  have hb2 : H2[b]? = some ⟨tag, .cells false (uT TB) [ptrS b tag, buf]⟩ := by
    rcases a3 with rfl | ⟨e, rfl⟩ | ⟨i, e, hi, rfl⟩
    · exact hb1
    · rw [List.getElem?_append_left (by omega)]; exact hb1
    · rw [List.getElem?_set_ne (hne i hi)]; exact hb1
  have hlen2 : H1.length ≤ H2.length := by
    rcases a3 with rfl | ⟨e, rfl⟩ | ⟨i, e, hi, rfl⟩ <;> simp
  have k1 := fun off => lk_s (off := off) (tag' := 0) hb1
  have k2 := fun off => lk_s (off := off) (tag' := 0) hb2
  have ob := a2.one
  have oc := a2.cells
  have oa := a2.all
  have hfr : BFrame H (H2.set b ⟨tag, .cells false (uT TB) [ptrS b tag, buf']⟩) b bb bb' := by
    refine ⟨by rw [List.length_set]; omega, fun q hq h1 h2 => ?_, ?_⟩
    · rw [List.getElem?_set_ne (fun e => h1 e.symm)]
      have hq1 : H1[q]? = H[q]? := by rw [hH1, List.getElem?_set_ne (fun e => h1 e.symm)]
      rcases a3 with rfl | ⟨e, rfl⟩ | ⟨i, e, hi, rfl⟩
      · exact hq1
      · rw [List.getElem?_append_left (by omega)]; exact hq1
      · rw [List.getElem?_set_ne (fun e => h2 (by rw [hi, e]))]; exact hq1
    · rcases a4 with h | ⟨h1, h2⟩
      · exact .inl h
      · exact .inr ⟨h1, _, h2, by omega⟩
  have hB2 : Bd (H2.set b ⟨tag, .cells false (uT TB) [ptrS b tag, buf']⟩) b tag TB (l ++ [c]) bb' := by
    refine ⟨ptrS b tag, buf', List.getElem?_set_self (by omega), .inr rfl, ?_⟩
    rcases a2 with h | ⟨i, tg, h1, h2, h3, h4⟩
    · exact .inl h
    · refine .inr ⟨i, tg, h1, h2, h3, ?_⟩
      rw [List.getElem?_set_ne (fun e => by subst e; rw [hb2] at h4; cases h4)]
      exact h4
  have a5 : srcOf H1 1 (immV 1 [.int .u8 (c.toNat : Int)]) = some ([.int .u8 (c.toNat : Int)], 1) := rfl
  have a6 : strOfS [.int .u8 (c.toNat : Int)] = some [c] := strOfS_bytes [c]
  rw [Ev_fn hw rfl]
  simp only [F_strings_Builder_WriteByte, fws, seval, cond_true, cond_false, if_true, if_false, unV, isNil, optI, iV, stepI, evalR, IntKind.bits, ini, fwh, fwi, spl, rdN, cellsAt, N_strings_Builder_WriteByte, fillL, zr, xI, Ev_det c0, k1, k2, a5, a6, a1, ob, oc, oa, tag_spot, Nat.beq_refl]

  exact ⟨trivial, bb', hB2, hfr⟩
end
end Go.Proofs.YtdajdgjacajemaaGreat
/- Numbers as texts, in the bases 16 and 10. -/
namespace Go.Proofs.YtdajdgjacajemaaGreat
open Go Fw
set_option linter.unusedSimpArgs false
set_option linter.unusedVariables false
set_option linter.unusedSectionVars false

abbrev hexT : List UInt8 := [48, 49, 50, 51, 52, 53, 54, 55, 56, 57, 97, 98, 99, 100, 101, 102]
def hexC (d : Nat) : UInt8 := hexT.getD d 0
def hexD : Nat → Nat → List UInt8
  | 0, _ => []
  | f + 1, n => if n < 16 then [hexC n] else hexD f (n / 16) ++ [hexC (n % 16)]
theorem hexD_ne {f n : Nat} : hexD (f + 1) n ≠ [] := by rw [hexD]; split <;> simp
theorem hexD_len : ∀ (f n : Nat), (hexD f n).length ≤ f
  | 0, n => Nat.le_refl 0
  | f + 1, n => by
    rw [hexD]
    split
    · simp
    · have := hexD_len f (n / 16)
      simp; omega
/-- No zero ahead of others. -/
def noZ (l : List UInt8) : Prop := l.head? = some 48 → l.length = 1
theorem hex_set {k : Nat} {acc : List UInt8} {cs : List Value} (h : cs = List.replicate (k + 1) (.int .u8 0) ++ byteE.cs acc) (c : UInt8) : k + 1 ≤ cs.length ∧ cs.set k (.int .u8 c.toNat) = List.replicate k (.int .u8 0) ++ byteE.cs (c :: acc) := by
  subst h
  refine ⟨by simp, ?_⟩
  rw [List.replicate_succ', List.append_assoc, List.set_append_right _ _ (by simp)]
  simp [cs_cons, byteE_e]
theorem loop_num_Hex {T : Tab} : ∀ (f n k : Nat) (acc : List UInt8) (cs : List Value) (env : Env), n < 16 ^ (f + 1) → k + 1 + acc.length = 18 → f ≤ k → n < 18446744073709551616 → cs = List.replicate (k + 1) (.int .u8 0) ++ byteE.cs acc → env 0 = .int .u64 n → env 3 = .pointer (some ⟨0, 0, none⟩) → env 4 = .int .i64 (k + 1 : Nat) →
    W T (.loop F_num_Hexl0) env [⟨0, .cells false 1 cs⟩] fun x e h => x = .exit 0 ∧ e 3 = .pointer (some ⟨0, 0, none⟩) ∧ ∃ k' cs', k' + (hexD (f + 1) n ++ acc).length = 18 ∧ e 4 = .int .i64 (k' : Nat) ∧ h = [⟨0, .cells false 1 cs'⟩] ∧ cs' = List.replicate k' (.int .u8 0) ++ byteE.cs (hexD (f + 1) n ++ acc) := by
  intro f
  induction f with
  | zero =>
    intro n k acc cs env hn hk hf hn2 hcs v0 v3 v4
    have w1 : IntKind.i64.wrap (((k + 1 : Nat) : Int) - 1) = (k : Int) := by rw [wrapI64 (by omega) (by omega)]; omega
    have b1 : Go.bits .and .u64 (n : Int) 15 = ((n % 16 : Nat) : Int) := by
      rw [show (15 : Int) = ((15 : Nat) : Int) from rfl, (bits_u64 hn2 (by decide)).1, Nat.and_two_pow_sub_one_eq_mod n 4]
    have b2 : (n : Int).fdiv 16 = ((n / 16 : Nat) : Int) := shrN (k := 4)
    have hm : ((n % 16 : Nat) : Int) < 16 := by omega
    have hm0 : (0 : Int) ≤ ((n % 16 : Nat) : Int) := by omega
    have hk0 : (0 : Int) ≤ (k : Int) := by omega
    have hk18 : (k : Int) < 18 := by omega
    have hz : decide (((n / 16 : Nat) : Int) = 0) = true := by simp; omega
    obtain ⟨s1, s2⟩ := hex_set hcs (hexC (n % 16))
    have hD : hexD 1 n = [hexC (n % 16)] := by rw [hexD, if_pos (by omega), Nat.mod_eq_of_lt (by omega)]
    unfold hexC at s2
    rw [w_loop]
    simp only [fws, seval, cond_true, cond_false, if_true, if_false, unV, isNil, optI, iV, stepI, evalR, IntKind.bits, ini, fwh, lk, cellsAt, tagOf, spotOf, rdN, spl, fillL, zr, fwi, N_num_Hex, v0, v3, v4, w1, b1, b2, hm, hm0, hk0, hk18, and_self, Nat.mul_one, s1, hz]
    refine ⟨trivial, trivial, k, _, ?_, rfl, rfl, ?_⟩
    · rw [hD]; simp; omega
    · rw [s2, hD]; rfl
  | succ f ih =>
    intro n k acc cs env hn hk hf hn2 hcs v0 v3 v4
    have w1 : IntKind.i64.wrap (((k + 1 : Nat) : Int) - 1) = (k : Int) := by rw [wrapI64 (by omega) (by omega)]; omega
    have b1 : Go.bits .and .u64 (n : Int) 15 = ((n % 16 : Nat) : Int) := by
      rw [show (15 : Int) = ((15 : Nat) : Int) from rfl, (bits_u64 hn2 (by decide)).1, Nat.and_two_pow_sub_one_eq_mod n 4]
    have b2 : (n : Int).fdiv 16 = ((n / 16 : Nat) : Int) := shrN (k := 4)
    have hm : ((n % 16 : Nat) : Int) < 16 := by omega
    have hm0 : (0 : Int) ≤ ((n % 16 : Nat) : Int) := by omega
    have hk0 : (0 : Int) ≤ (k : Int) := by omega
    have hk18 : (k : Int) < 18 := by omega
    obtain ⟨s1, s2⟩ := hex_set hcs (hexC (n % 16))
    unfold hexC at s2
    rw [w_loop]
    by_cases h16 : n < 16
    · have hz : decide (((n / 16 : Nat) : Int) = 0) = true := by simp; omega
      have hD : hexD (f + 1 + 1) n = [hexC (n % 16)] := by rw [hexD, if_pos h16, Nat.mod_eq_of_lt h16]
      simp only [fws, seval, cond_true, cond_false, if_true, if_false, unV, isNil, optI, iV, stepI, evalR, IntKind.bits, ini, fwh, lk, cellsAt, tagOf, spotOf, rdN, spl, fillL, zr, fwi, N_num_Hex, v0, v3, v4, w1, b1, b2, hm, hm0, hk0, hk18, and_self, Nat.mul_one, s1, hz]
      refine ⟨trivial, trivial, k, _, ?_, rfl, rfl, ?_⟩
      · rw [hD]; simp; omega
      · rw [s2, hD]; rfl
    · have hz : decide (((n / 16 : Nat) : Int) = 0) = false := by simp; omega
      have hD : hexD (f + 1 + 1) n = hexD (f + 1) (n / 16) ++ [hexC (n % 16)] := by rw [hexD, if_neg h16]
      have hp : 16 ^ (f + 1 + 1) = 16 ^ (f + 1) * 16 := Nat.pow_succ ..
      obtain ⟨k2, rfl⟩ : ∃ k2, k = k2 + 1 := ⟨k - 1, by omega⟩
      simp only [fws, seval, cond_true, cond_false, if_true, if_false, unV, isNil, optI, iV, stepI, evalR, IntKind.bits, ini, fwh, lk, cellsAt, tagOf, spotOf, rdN, spl, fillL, zr, fwi, N_num_Hex, v0, v3, v4, w1, b1, b2, hm, hm0, hk0, hk18, and_self, Nat.mul_one, s1, hz]
      refine W.mono (ih (n / 16) k2 (hexC (n % 16) :: acc) _ _ (by omega) (by simp; omega) (by omega) (by omega) s2 ?_ ?_ ?_) fun x e h ⟨g1, g2, k', cs', g3, g4, g5, g6⟩ => ?_
      · (first | (simp only [fws, seval, cond_true, cond_false, if_true, if_false, unV, isNil, optI, iV, stepI, evalR, IntKind.bits, ini, *]; done) | (simp only [fws, seval, cond_true, cond_false, if_true, if_false, unV, isNil, optI, iV, stepI, evalR, IntKind.bits, ini]; rfl))
      · (first | (simp only [fws, seval, cond_true, cond_false, if_true, if_false, unV, isNil, optI, iV, stepI, evalR, IntKind.bits, ini, *]; done) | (simp only [fws, seval, cond_true, cond_false, if_true, if_false, unV, isNil, optI, iV, stepI, evalR, IntKind.bits, ini]; rfl))
      · (first | (simp only [fws, seval, cond_true, cond_false, if_true, if_false, unV, isNil, optI, iV, stepI, evalR, IntKind.bits, ini, *]; done) | (simp only [fws, seval, cond_true, cond_false, if_true, if_false, unV, isNil, optI, iV, stepI, evalR, IntKind.bits, ini]; rfl))
      rw [hD]
      exact ⟨g1, g2, k', cs', by simp at g3 ⊢; omega, g4, g5, by rw [g6, List.append_assoc]; rfl⟩
theorem f_num_Hex {T : Tab} (h : T 46 = some F_num_Hex) {n : Nat} (hn : n < 18446744073709551616) : FnV T 46 [.int .u64 n] (strV (48 :: 120 :: hexD 16 n)) := by
  refine FnV_of rfl ?_
  rw [Ev_fn h rfl]
  simp only [F_num_Hex, fws, seval, cond_true, cond_false, if_true, if_false, unV, isNil, optI, iV, stepI, evalR, IntKind.bits, ini, fwi, N_num_Hex]
  refine W.mono (loop_num_Hex 15 n 17 [] _ _ (by omega) rfl (by omega) hn rfl ?_ ?_ ?_) fun x e h ⟨g1, g2, k', cs', g3, g4, g5, g6⟩ => ?_
  · (first | (simp only [fws, seval, cond_true, cond_false, if_true, if_false, unV, isNil, optI, iV, stepI, evalR, IntKind.bits, ini, *]; done) | (simp only [fws, seval, cond_true, cond_false, if_true, if_false, unV, isNil, optI, iV, stepI, evalR, IntKind.bits, ini]; rfl))
  · (first | (simp only [fws, seval, cond_true, cond_false, if_true, if_false, unV, isNil, optI, iV, stepI, evalR, IntKind.bits, ini, *]; done) | (simp only [fws, seval, cond_true, cond_false, if_true, if_false, unV, isNil, optI, iV, stepI, evalR, IntKind.bits, ini]; rfl))
  · (first | (simp only [fws, seval, cond_true, cond_false, if_true, if_false, unV, isNil, optI, iV, stepI, evalR, IntKind.bits, ini, *]; done) | (simp only [fws, seval, cond_true, cond_false, if_true, if_false, unV, isNil, optI, iV, stepI, evalR, IntKind.bits, ini]; rfl))
  subst g1; subst g5
  simp only [List.append_nil, Nat.reduceAdd] at g3 g6
  have hcl : cs'.length = 18 := by rw [g6, List.length_append, List.length_replicate, cs_length, byteE_u]; omega
  have hb2 : b2sI [⟨0, .cells false 1 cs'⟩] (.slice (some ⟨0, k', none⟩) (18 - k') (18 - k')) = some (strV (hexD 16 n), [⟨0, .cells false 1 cs'⟩]) := by
    have h1 : cellsAt [⟨0, .cells false 1 cs'⟩] ⟨0, k', none⟩ = some (cs'.drop k') := rfl
    have h2 : cs'.drop k' = byteE.cs (hexD 16 n) := by rw [g6, List.drop_left' (by simp)]
    have h3 : 18 - k' = (hexD 16 n).length * byteE.u := by rw [byteE_u]; omega
    simp only [b2sI, h1, h2, h3, rdN_cs rfl, Option.bind_some, strOf_bytes, Option.map_some]
  have hsz : 2 + (hexD 16 n).length ≤ 9223372036854775807 := by omega
  have hap : (⟨#[48, 120]⟩ : ByteArray) ++ (⟨(hexD 16 n).toArray⟩ : ByteArray) = ⟨(48 :: 120 :: hexD 16 n).toArray⟩ := by
    apply ByteArray.ext
    rw [ByteArray.data_append]
    simp
  have hk0 : (0 : Int) ≤ (k' : Int) := by omega
  have hk18 : (k' : Int) ≤ 18 := by omega
  simp only [fws, seval, cond_true, cond_false, if_true, if_false, unV, isNil, optI, iV, stepI, evalR, IntKind.bits, ini, fwh, lk, cellsAt, tagOf, spotOf, rdN, spl, fillL, zr, fwi, N_num_Hex, g2, g4, hk0, hk18, and_self, Nat.mul_one, hcl, hb2, hsz, hap]
  rfl
theorem str_app (a b : List UInt8) : (⟨a.toArray⟩ : ByteArray) ++ (⟨b.toArray⟩ : ByteArray) = ⟨(a ++ b).toArray⟩ := by
  apply ByteArray.ext
  rw [ByteArray.data_append]
  simp
theorem hex_ext {d : Nat} (h : d < 16) : (⟨#[48, 49, 50, 51, 52, 53, 54, 55, 56, 57, 97, 98, 99, 100, 101, 102]⟩ : ByteArray).extract d (d + 1) = ⟨[hexC d].toArray⟩ := by
  have : ((List.range 16).all fun d => decide ((⟨#[48, 49, 50, 51, 52, 53, 54, 55, 56, 57, 97, 98, 99, 100, 101, 102]⟩ : ByteArray).extract d (d + 1) = ⟨[hexC d].toArray⟩)) = true := by kernel_rfl
  exact of_decide_eq_true (List.all_eq_true.1 this d (by simpa using h))
theorem loop_ref01_Hex {T : Tab} : ∀ (f n : Nat) (acc : List UInt8) (env : Env), n < 16 ^ f → (acc = [] → 1 ≤ f) → f + acc.length ≤ 100 → n < 18446744073709551616 → env 0 = .int .u64 n → env 3 = strV hexT → env 4 = strV acc →
    W T (.loop F_ref01_Hexl0) env [] fun x e h => x = .exit 0 ∧ h = [] ∧ e 4 = strV (if n = 0 ∧ acc ≠ [] then acc else hexD f n ++ acc) := by
  intro f
  induction f with
  | zero =>
    intro n acc env hn ha hl hn2 v0 v3 v4
    simp at hn
    subst hn
    cases acc with
    | nil => have := ha rfl; omega
    | cons c acc =>
      have hs : strEq ⟨(c :: acc).toArray⟩ ⟨#[]⟩ = false := rfl
      have v0 : env 0 = .int .u64 0 := v0
      rw [w_loop, if_pos ⟨rfl, by simp⟩]
      simp only [fws, seval, cond_true, cond_false, if_true, if_false, unV, isNil, optI, iV, stepI, evalR, IntKind.bits, ini, N_ref01_Hex, v0, v3, v4, hs, and_self]
  | succ f ih =>
    intro n acc env hn ha hl hn2 v0 v3 v4
    have hp : 16 ^ (f + 1) = 16 ^ f * 16 := Nat.pow_succ ..
    rw [w_loop]
    by_cases hdone : n = 0 ∧ acc ≠ []
    · obtain ⟨rfl, hne⟩ := hdone
      have hs : strEq ⟨acc.toArray⟩ ⟨#[]⟩ = false := by
        cases acc with
        | nil => exact absurd rfl hne
        | cons => rfl
      have v0 : env 0 = .int .u64 0 := v0
      rw [if_pos ⟨rfl, hne⟩]
      simp only [fws, seval, cond_true, cond_false, if_true, if_false, unV, isNil, optI, iV, stepI, evalR, IntKind.bits, ini, N_ref01_Hex, v0, v3, v4, hs, and_self]
    · rw [if_neg hdone]
      have w1 : (n : Int).tmod 16 = ((n % 16 : Nat) : Int) := by rw [tmodN (by omega)]; rfl
      have w2 : IntKind.u64.wrap (((n % 16 : Nat) : Int) + 1) = ((n % 16 + 1 : Nat) : Int) := by rw [wrap_u64]; omega
      have w3 : IntKind.u64.wrap ((n : Int).tdiv 16) = ((n / 16 : Nat) : Int) := by rw [tdivN (by omega), wrap_u64]; omega
      have h0 : (0 : Int) ≤ ((n % 16 : Nat) : Int) := by omega
      have h1 : ((n % 16 : Nat) : Int) ≤ ((n % 16 + 1 : Nat) : Int) := by omega
      have h2 : ((n % 16 + 1 : Nat) : Int) ≤ ((hexT.length : Nat) : Int) := by show _ ≤ (16 : Int); omega
      have hx := hex_ext (Nat.mod_lt n (show 16 > 0 by decide))
      have hsz : [hexC (n % 16)].length + acc.length ≤ 9223372036854775807 := by simp; omega
      have hap := str_app [hexC (n % 16)] acc
      have fin : ∀ env' : Env, env' 0 = .int .u64 (n / 16 : Nat) → env' 3 = strV hexT → env' 4 = strV (hexC (n % 16) :: acc) →
          W T (.loop F_ref01_Hexl0) env' [] fun x e h => x = .exit 0 ∧ h = [] ∧ e 4 = strV (hexD (f + 1) n ++ acc) := fun env' u0 u3 u4 => by
        refine W.mono (ih (n / 16) (hexC (n % 16) :: acc) env' (by omega) (by simp) (by simp; omega) (by omega) u0 u3 u4) fun x e h ⟨g1, g2, g3⟩ => ⟨g1, g2, ?_⟩
        rw [g3]
        by_cases h16 : n < 16
        · rw [if_pos ⟨by omega, by simp⟩, hexD, if_pos h16, Nat.mod_eq_of_lt h16]; rfl
        · rw [if_neg (by omega), hexD, if_neg h16, List.append_assoc]; rfl
      by_cases hn0 : n = 0
      · have hac : acc = [] := by
          cases acc with
          | nil => rfl
          | cons => exact absurd ⟨hn0, by simp⟩ hdone
        subst hac
        have hq : ¬ ((0 : Int) < (n : Int)) := by omega
        have hs : strEq ⟨([] : List UInt8).toArray⟩ ⟨#[]⟩ = true := rfl
        simp only [fws, seval, cond_true, cond_false, if_true, if_false, unV, isNil, optI, iV, stepI, evalR, IntKind.bits, ini, fwi, N_ref01_Hex, v0, v3, v4, hq, hs, w1, w2, w3, h0, h1, h2, and_self, hx, hsz, hap]
        refine fin _ ?_ ?_ ?_
        all_goals (first | (simp only [fws, seval, cond_true, cond_false, if_true, if_false, unV, isNil, optI, iV, stepI, evalR, IntKind.bits, ini, *]; done) | (simp only [fws, seval, cond_true, cond_false, if_true, if_false, unV, isNil, optI, iV, stepI, evalR, IntKind.bits, ini]; rfl))
      · have hq : ((0 : Int) < (n : Int)) := by omega
        simp only [fws, seval, cond_true, cond_false, if_true, if_false, unV, isNil, optI, iV, stepI, evalR, IntKind.bits, ini, fwi, N_ref01_Hex, v0, v3, v4, hq, w1, w2, w3, h0, h1, h2, and_self, hx, hsz, hap]
        refine fin _ ?_ ?_ ?_
        all_goals (first | (simp only [fws, seval, cond_true, cond_false, if_true, if_false, unV, isNil, optI, iV, stepI, evalR, IntKind.bits, ini, *]; done) | (simp only [fws, seval, cond_true, cond_false, if_true, if_false, unV, isNil, optI, iV, stepI, evalR, IntKind.bits, ini]; rfl))
theorem f_ref01_Hex {T : Tab} (h : T 69 = some F_ref01_Hex) {n : Nat} (hn : n < 18446744073709551616) : FnV T 69 [.int .u64 n] (strV (48 :: 120 :: hexD 16 n)) := by
  refine FnV_of rfl ?_
  rw [Ev_fn h rfl]
  have hl := hexD_len 16 n
  simp only [F_ref01_Hex, fws, seval, cond_true, cond_false, if_true, if_false, unV, isNil, optI, iV, stepI, evalR, IntKind.bits, ini, fwi, N_ref01_Hex]
  refine W.mono (loop_ref01_Hex 16 n [] _ (by omega) (by decide) (by decide) hn ?_ ?_ ?_) fun x e h ⟨g1, g2, g3⟩ => ?_
  · (first | (simp only [fws, seval, cond_true, cond_false, if_true, if_false, unV, isNil, optI, iV, stepI, evalR, IntKind.bits, ini, *]; done) | (simp only [fws, seval, cond_true, cond_false, if_true, if_false, unV, isNil, optI, iV, stepI, evalR, IntKind.bits, ini]; rfl))
  · (first | (simp only [fws, seval, cond_true, cond_false, if_true, if_false, unV, isNil, optI, iV, stepI, evalR, IntKind.bits, ini, *]; done) | (simp only [fws, seval, cond_true, cond_false, if_true, if_false, unV, isNil, optI, iV, stepI, evalR, IntKind.bits, ini]; rfl))
  · (first | (simp only [fws, seval, cond_true, cond_false, if_true, if_false, unV, isNil, optI, iV, stepI, evalR, IntKind.bits, ini, *]; done) | (simp only [fws, seval, cond_true, cond_false, if_true, if_false, unV, isNil, optI, iV, stepI, evalR, IntKind.bits, ini]; rfl))
  subst g1; subst g2
  rw [if_neg (by simp), List.append_nil] at g3
  have hsz : [(48 : UInt8), 120].length + (hexD 16 n).length ≤ 9223372036854775807 := by simp; omega
  have hap := str_app [48, 120] (hexD 16 n)
  simp only [fws, seval, cond_true, cond_false, if_true, if_false, unV, isNil, optI, iV, stepI, evalR, IntKind.bits, ini, fwi, N_ref01_Hex, g3, hsz, hap]
  rfl
theorem ne_str {l : List UInt8} (h : l ≠ []) : strEq ⟨l.toArray⟩ ⟨#[]⟩ = false := by
  show strEq ⟨l.toArray⟩ ⟨([] : List UInt8).toArray⟩ = false
  rw [strEq_str]; exact decide_eq_false h
theorem nil_str : strEq ⟨([] : List UInt8).toArray⟩ ⟨#[]⟩ = true := rfl
/-! ### digits -/
def dgC (n : Nat) : UInt8 := UInt8.ofNat (48 + n % 10)
def dgF : Nat → Nat → List UInt8 → List UInt8
  | 0, _, s => s
  | k + 1, n, s => if n = 0 then s else dgF k (n / 10) (dgC n :: s)
def textF (n : Int) : List UInt8 := if n ≤ 0 then [48] else dgF 20 n.toNat []
theorem dgF_len : ∀ (k n : Nat) (s : List UInt8), (dgF k n s).length ≤ s.length + k
  | 0, n, s => Nat.le_refl _
  | k + 1, n, s => by
    simp only [dgF]
    split
    · omega
    · have := dgF_len k (n / 10) (dgC n :: s)
      simp only [List.length_cons] at this
      omega
theorem textF_len (n : Int) : (textF n).length ≤ 20 := by
  unfold textF
  split
  · decide
  · have := dgF_len 20 n.toNat []
    simpa using this
section
variable {T : Tab}
theorem dg_val (n : Nat) : IntKind.u8.wrap (48 + ((n % 10 : Nat) : Int)) = ((dgC n).toNat : Int) := by
  have h : n % 10 < 10 := Nat.mod_lt _ (by decide)
  rw [wrap_u8]
  unfold dgC
  rw [UInt8.toNat_ofNat']
  omega
theorem loop_dgA : ∀ (k n : Nat) (s : List UInt8) (H : Heap) (env : Env), n < 10 ^ k → k ≤ 20 → n ≤ 9223372036854775807 → s ≠ [] ∨ 0 < n → s.length + k ≤ 1000 → env 0 = .int .i64 n → env 3 = strV s →
    W T (.loop F_num_Textl0) env H fun x e h => x = .exit 0 ∧ h = H ∧ e 3 = strV (dgF k n s) := by
  intro k
  induction k with
  | zero =>
    intro n s H env hn hk hb hs hl e0 e3
    have hn0 : n = 0 := by simpa using hn
    subst hn0
    have hs' : s ≠ [] := hs.resolve_right (by omega)
    have q : ¬ ((0 : Int) < ((0 : Nat) : Int)) := by decide
    have b0 := ne_str hs'
    rw [w_loop]
    simp only [fws, seval, cond_true, cond_false, if_true, if_false, unV, isNil, optI, iV, stepI, evalR, IntKind.bits, ini, fwi, N_num_Text, e0, e3, q, b0]
    exact ⟨trivial, trivial, rfl⟩
  | succ k ih =>
    intro n s H env hn hk hb hs hl e0 e3
    by_cases h0 : n = 0
    · subst h0
      have hs' : s ≠ [] := hs.resolve_right (by omega)
      have q : ¬ ((0 : Int) < ((0 : Nat) : Int)) := by decide
      have b0 := ne_str hs'
      rw [w_loop]
      simp only [fws, seval, cond_true, cond_false, if_true, if_false, unV, isNil, optI, iV, stepI, evalR, IntKind.bits, ini, fwi, N_num_Text, e0, e3, q, b0]
      exact ⟨trivial, trivial, rfl⟩
    · have q : ((0 : Int) < (n : Int)) := by omega
      have m1 : ((n : Int).tmod 10) = ((n % 10 : Nat) : Int) := by rw [tmodN (by omega)]; rfl
      have d1 : ((n : Int).tdiv 10) = ((n / 10 : Nat) : Int) := by rw [tdivN (by omega)]; rfl
      have w1 : IntKind.i64.wrap (48 + ((n % 10 : Nat) : Int)) = 48 + ((n % 10 : Nat) : Int) := by rw [wrapI64 (by omega) (by omega)]
      have w2 : IntKind.i64.wrap ((n / 10 : Nat) : Int) = ((n / 10 : Nat) : Int) := by rw [wrapI64 (by omega) (by omega)]
      have w3 := dg_val n
      have z1 : 1 + s.length ≤ 9223372036854775807 := by omega
      have hb2 : ∀ H, b2sI H (immV 1 [.int .u8 ((dgC n).toNat : Int)]) = some (strV [dgC n], H) := fun H => b2sI_imm (l := [dgC n])
      have t10 : ¬ ((10 : Int) = 0) := by decide
      rw [w_loop]
      simp only [fws, seval, cond_true, cond_false, if_true, if_false, unV, isNil, optI, iV, stepI, evalR, IntKind.bits, ini, fwh, lk, cellsAt, tagOf, spotOf, rdN, spl, fillL, zr, fwi, N_num_Text, e0, e3, q, m1, d1, w1, w2, w3, z1, hb2, t10]
      refine W.mono (ih (n / 10) (dgC n :: s) H _ (by rw [Nat.pow_succ] at hn; omega) (by omega) (by omega) (.inl (by simp)) (by simp only [List.length_cons]; omega) ?_ ?_) fun x e h ⟨r1, r2, r3⟩ => ⟨r1, r2, ?_⟩
      · (first | assumption | rfl)
      · (first | assumption | rfl)
      · rw [r3]
        simp only [dgF, if_neg h0]
theorem loop_dgB : ∀ (k n : Nat) (s : List UInt8) (H : Heap) (env : Env), n < 10 ^ k → k ≤ 20 → n ≤ 9223372036854775807 → s.length + k ≤ 1000 → env 0 = .int .i64 n → env 3 = strV s →
    W T (.loop F_ref01_Textl0) env H fun x e h => x = .exit 0 ∧ h = H ∧ e 3 = strV (dgF k n s) := by
  intro k
  induction k with
  | zero =>
    intro n s H env hn hk hb hl e0 e3
    have hn0 : n = 0 := by simpa using hn
    subst hn0
    have q : ¬ ((0 : Int) < ((0 : Nat) : Int)) := by decide
    rw [w_loop]
    simp only [fws, seval, cond_true, cond_false, if_true, if_false, unV, isNil, optI, iV, stepI, evalR, IntKind.bits, ini, fwi, N_ref01_Text, e0, e3, q]
    exact ⟨trivial, trivial, rfl⟩
  | succ k ih =>
    intro n s H env hn hk hb hl e0 e3
    by_cases h0 : n = 0
    · subst h0
      have q : ¬ ((0 : Int) < ((0 : Nat) : Int)) := by decide
      rw [w_loop]
      simp only [fws, seval, cond_true, cond_false, if_true, if_false, unV, isNil, optI, iV, stepI, evalR, IntKind.bits, ini, fwi, N_ref01_Text, e0, e3, q]
      exact ⟨trivial, trivial, rfl⟩
    · have q : ((0 : Int) < (n : Int)) := by omega
      have m1 : ((n : Int).tmod 10) = ((n % 10 : Nat) : Int) := by rw [tmodN (by omega)]; rfl
      have d1 : ((n : Int).tdiv 10) = ((n / 10 : Nat) : Int) := by rw [tdivN (by omega)]; rfl
      have w1 : IntKind.i64.wrap (48 + ((n % 10 : Nat) : Int)) = 48 + ((n % 10 : Nat) : Int) := by rw [wrapI64 (by omega) (by omega)]
      have w2 : IntKind.i64.wrap ((n / 10 : Nat) : Int) = ((n / 10 : Nat) : Int) := by rw [wrapI64 (by omega) (by omega)]
      have w3 := dg_val n
      have z1 : 1 + s.length ≤ 9223372036854775807 := by omega
      have hb2 : ∀ H, b2sI H (immV 1 [.int .u8 ((dgC n).toNat : Int)]) = some (strV [dgC n], H) := fun H => b2sI_imm (l := [dgC n])
      have t10 : ¬ ((10 : Int) = 0) := by decide
      rw [w_loop]
      simp only [fws, seval, cond_true, cond_false, if_true, if_false, unV, isNil, optI, iV, stepI, evalR, IntKind.bits, ini, fwh, lk, cellsAt, tagOf, spotOf, rdN, spl, fillL, zr, fwi, N_ref01_Text, e0, e3, q, m1, d1, w1, w2, w3, z1, hb2, t10]
      refine W.mono (ih (n / 10) (dgC n :: s) H _ (by rw [Nat.pow_succ] at hn; omega) (by omega) (by omega) (by simp only [List.length_cons]; omega) ?_ ?_) fun x e h ⟨r1, r2, r3⟩ => ⟨r1, r2, ?_⟩
      · (first | assumption | rfl)
      · (first | assumption | rfl)
      · rw [r3]
        simp only [dgF, if_neg h0]
theorem f_text (h : T 49 = some F_num_Text) (n : Int) (h1 : n ≤ 9223372036854775807) : FnV T 49 [.int .i64 n] (strV (textF n)) := by
  refine FnV_of rfl ?_
  rw [Ev_fn h rfl]
  unfold textF
  by_cases h0 : n ≤ 0
  · rw [if_pos h0]
    have q : (if (0 : Int) > n then (0 : Int) else n) = 0 := by split <;> omega
    have q1 : ¬ ((0 : Int) < 0) := by decide
    have w1 : IntKind.i64.wrap (48 : Int) = 48 := by decide
    have w2 : IntKind.u8.wrap (48 : Int) = 48 := by decide
    have m1 : ((0 : Int).tmod 10) = 0 := rfl
    have d1 : ((0 : Int).tdiv 10) = 0 := rfl
    have w3 : IntKind.i64.wrap (0 : Int) = 0 := by decide
    have b0 : strEq ⟨#[48]⟩ ⟨#[]⟩ = false := rfl
    have hb2 : ∀ H, b2sI H (immV 1 [.int .u8 48]) = some (strV [48], H) := fun H => b2sI_imm (l := [48])
    have t10 : ¬ ((10 : Int) = 0) := by decide
    simp only [F_num_Text, fws, seval, cond_true, cond_false, if_true, if_false, unV, isNil, optI, iV, stepI, evalR, IntKind.bits, ini, fwh, lk, cellsAt, tagOf, spotOf, rdN, spl, fillL, zr, fwi, F_num_Textr0b, F_num_Textr0_W, F_num_Textr1b, F_num_Textr1_W, F_num_Textr2b, F_num_Textr2_W, F_num_Textr3b, F_num_Textr3_W, F_num_Textr3_g2, F_num_Textr5b, F_num_Textr5_W, F_num_Textr4b, F_num_Textr4_W, F_num_Textl0b, F_num_Textr6b, F_num_Textr6_W, F_num_Textcb, F_num_Textc_W, q]
    rw [w_loop]
    simp only [fws, seval, cond_true, cond_false, if_true, if_false, unV, isNil, optI, iV, stepI, evalR, IntKind.bits, ini, fwh, lk, cellsAt, tagOf, spotOf, rdN, spl, fillL, zr, fwi, N_num_Text, q1, w1, w2, w3, m1, d1, b0, hb2, t10, nil_str]
    rw [w_loop]
    simp only [fws, seval, cond_true, cond_false, if_true, if_false, unV, isNil, optI, iV, stepI, evalR, IntKind.bits, ini, fwh, lk, cellsAt, tagOf, spotOf, rdN, spl, fillL, zr, fwi, N_num_Text, q1, w1, w2, w3, m1, d1, b0, hb2, t10, nil_str]
    rfl
  · rw [if_neg h0]
    have q : (if (0 : Int) > n then (0 : Int) else n) = ((n.toNat : Nat) : Int) := by split <;> omega
    simp only [F_num_Text, fws, seval, cond_true, cond_false, if_true, if_false, unV, isNil, optI, iV, stepI, evalR, IntKind.bits, ini, fwh, lk, cellsAt, tagOf, spotOf, rdN, spl, fillL, zr, fwi, F_num_Textr0b, F_num_Textr0_W, F_num_Textr1b, F_num_Textr1_W, F_num_Textr2b, F_num_Textr2_W, F_num_Textr3b, F_num_Textr3_W, F_num_Textr3_g2, F_num_Textr5b, F_num_Textr5_W, F_num_Textr4b, F_num_Textr4_W, F_num_Textl0b, F_num_Textr6b, F_num_Textr6_W, F_num_Textcb, F_num_Textc_W, q]
    refine W.mono (loop_dgA 20 n.toNat [] [] _ (by have : (10 : Nat) ^ 20 = 100000000000000000000 := by decide
                                                   omega) (Nat.le_refl _) (by omega) (.inr (by omega)) (by decide) ?_ ?_) fun x e h ⟨r1, r2, r3⟩ => ?_
    · (first | assumption | rfl)
    · (first | assumption | rfl)
    · subst r1 r2
      simp only [fws, seval, cond_true, cond_false, if_true, if_false, unV, isNil, optI, iV, stepI, evalR, IntKind.bits, ini, N_num_Text, r3]
      rfl
theorem f_rtext (h : T 43 = some F_ref01_Text) (n : Int) (h1 : n ≤ 9223372036854775807) : FnV T 43 [.int .i64 n] (strV (textF n)) := by
  refine FnV_of rfl ?_
  rw [Ev_fn h rfl]
  unfold textF
  by_cases h0 : n ≤ 0
  · rw [if_pos h0]
    simp only [F_ref01_Text, fws, seval, cond_true, cond_false, if_true, if_false, unV, isNil, optI, iV, stepI, evalR, IntKind.bits, ini, fwh, lk, cellsAt, tagOf, spotOf, rdN, spl, fillL, zr, fwi, F_ref01_Textr0b, F_ref01_Textr0_W, F_ref01_Textr1b, F_ref01_Textr1_W, F_ref01_Textr2b, F_ref01_Textr2_W, F_ref01_Textr3b, F_ref01_Textr3_W, F_ref01_Textr4b, F_ref01_Textr4_W, F_ref01_Textr5b, F_ref01_Textr5_W, F_ref01_Textr6b, F_ref01_Textr6_W, F_ref01_Textl0b, F_ref01_Textr7b, F_ref01_Textr7_W, F_ref01_Textcb, F_ref01_Textc_W, h0]
    rfl
  · rw [if_neg h0]
    have q : n = ((n.toNat : Nat) : Int) := by omega
    simp only [F_ref01_Text, fws, seval, cond_true, cond_false, if_true, if_false, unV, isNil, optI, iV, stepI, evalR, IntKind.bits, ini, fwh, lk, cellsAt, tagOf, spotOf, rdN, spl, fillL, zr, fwi, F_ref01_Textr0b, F_ref01_Textr0_W, F_ref01_Textr1b, F_ref01_Textr1_W, F_ref01_Textr2b, F_ref01_Textr2_W, F_ref01_Textr3b, F_ref01_Textr3_W, F_ref01_Textr4b, F_ref01_Textr4_W, F_ref01_Textr5b, F_ref01_Textr5_W, F_ref01_Textr6b, F_ref01_Textr6_W, F_ref01_Textl0b, F_ref01_Textr7b, F_ref01_Textr7_W, F_ref01_Textcb, F_ref01_Textc_W, h0]
    refine W.mono (loop_dgB 20 n.toNat [] [] _ (by have : (10 : Nat) ^ 20 = 100000000000000000000 := by decide
                                                   omega) (Nat.le_refl _) (by omega) (by decide) ?_ ?_) fun x e h ⟨r1, r2, r3⟩ => ?_
    · rw [← q]; (first | assumption | rfl)
    · (first | assumption | rfl)
    · subst r1 r2
      simp only [fws, seval, cond_true, cond_false, if_true, if_false, unV, isNil, optI, iV, stepI, evalR, IntKind.bits, ini, N_ref01_Text, r3]
      rfl
/-! ### the place of a sign -/
end
end Go.Proofs.YtdajdgjacajemaaGreat
/- Lines of pieces: the writer's and the document's. -/
namespace Go.Proofs.YtdajdgjacajemaaGreat
open Go Fw
set_option linter.unusedSimpArgs false
set_option linter.unusedVariables false
set_option linter.unusedSectionVars false

/-- Pieces with a blank between, those that are empty left out; no blank ahead of the first one. -/
def lnB : Bool → List (List UInt8) → List UInt8
  | _, [] => []
  | f, p :: ps => if p = [] then lnB f ps else (bif f then p else 32 :: p) ++ lnB false ps
def lineM (ps : List (List UInt8)) : List UInt8 := lnB true ps ++ [10]
theorem lnB_nil {f : Bool} : lnB f [] = [] := rfl
theorem lnB_e {f : Bool} {ps : List (List UInt8)} : lnB f ([] :: ps) = lnB f ps := by rw [lnB, if_pos rfl]
theorem lnB_t {p : List UInt8} {ps : List (List UInt8)} (h : p ≠ []) : lnB true (p :: ps) = p ++ lnB false ps := by rw [lnB, if_neg h]; rfl
theorem lnB_f {p : List UInt8} {ps : List (List UInt8)} (h : p ≠ []) : lnB false (p :: ps) = 32 :: p ++ lnB false ps := by rw [lnB, if_neg h]; rfl
theorem drop_at {α : Type} {L r : List α} {i : Nat} {c : α} (h : L.drop i = c :: r) : ∃ hi : i < L.length, L[i] = c ∧ L.drop (i + 1) = r := by
  have hi : i < L.length := by
    rcases Nat.lt_or_ge i L.length with q | q
    · exact q
    · rw [List.drop_of_length_le q] at h; cases h
  rw [List.drop_eq_getElem_cons hi] at h
  cases h
  exact ⟨hi, rfl, rfl⟩
theorem drop_end {α : Type} {L : List α} {i : Nat} (h : L.drop i = []) : L.length ≤ i := List.drop_eq_nil_iff.1 h
theorem ld_str {l : List (List UInt8)} {i : Nat} (h : i < l.length) (H : Heap) : loadI H (atI strE l i) = some (strV l[i], H) := by
  rw [at_cons h]; rfl
structure LnF (T : Tab) : Prop where
  bf : BF T
  wb : T 66 = some F_strings_Builder_WriteByte
  ln : T 39 = some F_dump_writer_line
  rl : T 47 = some F_ref32_line
abbrev TW : Nat := 84
theorem hTW : TBs.any (fun T => decide (uT TW = uT T)) = true := by decide
section
variable {T : Tab}
theorem loop_line (t : LnF T) {b tag : Nat} {P : List (List UInt8)} (hP : P.length ≤ 1000) : ∀ (r : List (List UInt8)) (i : Nat) (f : Bool) (l : List UInt8) (bb : Option Nat) (H : Heap) (env : Env), P.drop i = r → Bd H b tag TW l bb → l.length + (lnB f r).length ≤ 140737488355328 →
    env 0 = ptrS b tag → env 4 = .bool f → env 7 = imm strE P → env 8 = .int .i64 P.length → env 9 = .int .i64 i →
    W T (.loop F_dump_writer_linel0) env H fun x e h => x = .exit 0 ∧ e 0 = ptrS b tag ∧ ∃ bb', Bd h b tag TW (l ++ lnB f r) bb' ∧ BFrame H h b bb bb' := by
  intro r
  induction r with
  | nil =>
    intro i f l bb H env hr hB hl e0 e4 e7 e8 e9
    have hi := drop_end hr
    have q : ¬ ((i : Int) < P.length) := by omega
    rw [w_loop]
    simp only [fws, seval, cond_true, cond_false, if_true, if_false, unV, isNil, optI, iV, stepI, evalR, IntKind.bits, ini, fwi, N_dump_writer_line, e8, e9, q]
    exact ⟨trivial, e0, bb, by rw [lnB_nil, List.append_nil]; exact hB, BFrame.refl ..⟩
  | cons p ps ih =>
    intro i f l bb H env hr hB hl e0 e4 e7 e8 e9
    obtain ⟨hi, rfl, hr2⟩ := drop_at hr
    have q : ((i : Int) < P.length) := by omega
    have hxx := fun H => ix_at (E := strE) (l := P) (n := 1) rfl hi .i64 H
    have hld := fun H => ld_str hi H
    have w2 : IntKind.i64.wrap ((i : Int) + 1) = ((i + 1 : Nat) : Int) := by rw [wrapI64 (by omega) (by omega)]; rfl
    rw [w_loop]
    by_cases h0 : P[i] = []
    · have b0 : strEq ⟨(P[i]).toArray⟩ ⟨#[]⟩ = true := by rw [h0]; rfl
      rw [h0, lnB_e] at hl ⊢
      simp only [fws, seval, cond_true, cond_false, if_true, if_false, unV, isNil, optI, iV, stepI, evalR, IntKind.bits, ini, fwi, N_dump_writer_line, e0, e4, e7, e8, e9, q, hxx, hld, b0, w2]
      refine ih (i + 1) f l bb H _ hr2 hB hl ?_ ?_ ?_ ?_ ?_
      all_goals (first | assumption | rfl)
    · have b0 := ne_str h0
      cases f with
      | true =>
        rw [lnB_t h0] at hl ⊢
        rw [List.length_append] at hl
        have cw := ev_WriteString t.bf (s := P[i]) hB hTW (by omega)
        simp only [fws, seval, cond_true, cond_false, if_true, if_false, unV, isNil, optI, iV, stepI, evalR, IntKind.bits, ini, fwi, N_dump_writer_line, e0, e4, e7, e8, e9, q, hxx, hld, b0, w2, Bool.not_true]
        refine cw.mono fun v h ⟨hv, bb', hB', hF⟩ => ?_
        subst hv
        simp only [fws, seval, cond_true, cond_false, if_true, if_false, unV, isNil, optI, iV, stepI, evalR, IntKind.bits, ini, fwi, N_dump_writer_line, e0, e4, e7, e8, e9, w2]
        refine W.mono (ih (i + 1) false (l ++ P[i]) bb' h _ hr2 hB' (by rw [List.length_append]; omega) ?_ ?_ ?_ ?_ ?_) fun x e h' ⟨g1, g2, bb2, g3, g4⟩ => ⟨g1, g2, bb2, by rw [← List.append_assoc]; exact g3, hF.trans g4⟩
        all_goals (first | assumption | rfl)
      | false =>
        rw [lnB_f h0] at hl ⊢
        rw [List.length_append, List.length_cons] at hl
        have cb := ev_WriteByte (c := 32) t.bf t.wb hB hTW (by omega)
        simp only [fws, seval, cond_true, cond_false, if_true, if_false, unV, isNil, optI, iV, stepI, evalR, IntKind.bits, ini, fwi, N_dump_writer_line, e0, e4, e7, e8, e9, q, hxx, hld, b0, w2, Bool.not_false]
        refine cb.mono fun v h0' ⟨hv, bb0, hB0, hF0⟩ => ?_
        subst hv
        have cw := ev_WriteString t.bf (s := P[i]) hB0 hTW (by rw [List.length_append, List.length_cons]; simp only [List.length_nil]; omega)
        simp only [fws, seval, cond_true, cond_false, if_true, if_false, unV, isNil, optI, iV, stepI, evalR, IntKind.bits, ini, fwi, N_dump_writer_line, e0, e4, e7, e8, e9, w2]
        refine cw.mono fun v h ⟨hv, bb', hB', hF⟩ => ?_
        subst hv
        simp only [fws, seval, cond_true, cond_false, if_true, if_false, unV, isNil, optI, iV, stepI, evalR, IntKind.bits, ini, fwi, N_dump_writer_line, e0, e4, e7, e8, e9, w2]
        refine W.mono (ih (i + 1) false ((l ++ [32]) ++ P[i]) bb' h _ hr2 hB' (by simp only [List.length_append, List.length_cons, List.length_nil]; omega) ?_ ?_ ?_ ?_ ?_) fun x e h' ⟨g1, g2, bb2, g3, g4⟩ => ⟨g1, g2, bb2, by simpa using g3, (hF0.trans hF).trans g4⟩
        all_goals (first | assumption | rfl)
/-- The writer's line. -/
theorem ev_line (t : LnF T) {b tag : Nat} {P : List (List UInt8)} (hP : P.length ≤ 1000) {l : List UInt8} {bb : Option Nat} {H : Heap} (hB : Bd H b tag TW l bb) (hl : l.length + (lineM P).length ≤ 140737488355328) :
    Ev T 39 [ptrS b tag, imm strE P] H fun v h => v = .tuple #[] ∧ ∃ bb', Bd h b tag TW (l ++ lineM P) bb' ∧ BFrame H h b bb bb' := by
  unfold lineM at hl ⊢
  rw [List.length_append, List.length_cons, List.length_nil] at hl
  rw [Ev_fn t.ln rfl]
  simp only [F_dump_writer_line, fws, seval, cond_true, cond_false, if_true, if_false, unV, isNil, optI, iV, stepI, evalR, IntKind.bits, ini, fwi, F_dump_writer_liner0b, F_dump_writer_liner0_W, F_dump_writer_liner1b, F_dump_writer_liner1_W, F_dump_writer_liner2b, F_dump_writer_liner2_W, F_dump_writer_liner3b, F_dump_writer_liner3_W, F_dump_writer_liner4b, F_dump_writer_liner4_W, F_dump_writer_liner5b, F_dump_writer_liner5_W, F_dump_writer_liner6b, F_dump_writer_liner6_W, F_dump_writer_liner7b, F_dump_writer_liner7_W, F_dump_writer_liner8b, F_dump_writer_liner8_W, F_dump_writer_liner9b, F_dump_writer_liner9_W, F_dump_writer_linel0b, F_dump_writer_liner10b, F_dump_writer_liner10_W, F_dump_writer_linecb, F_dump_writer_linec_W]
  refine W.mono (loop_line t hP P 0 true l bb H _ rfl hB (by omega) ?_ ?_ ?_ ?_ ?_) fun x e h ⟨g1, g2, bb', g3, g4⟩ => ?_
  · (first | assumption | rfl)
  · (first | assumption | rfl)
  · (first | assumption | rfl)
  · (first | assumption | rfl)
  · (first | assumption | rfl)
  subst g1
  have cb := ev_WriteByte (c := 10) t.bf t.wb g3 hTW (by rw [List.length_append]; omega)
  simp only [fws, seval, cond_true, cond_false, if_true, if_false, unV, isNil, optI, iV, stepI, evalR, IntKind.bits, ini, fwi, N_dump_writer_line, g2]
  refine cb.mono fun v h ⟨hv, bb2, hB2, hF2⟩ => ?_
  subst hv
  simp only [fws, seval, cond_true, cond_false, if_true, if_false, unV, isNil, optI, iV, stepI, evalR, IntKind.bits, ini, fwi, N_dump_writer_line]
  exact ⟨trivial, bb2, by rw [← List.append_assoc]; exact hB2, g4.trans hF2⟩
theorem lnB_one {f : Bool} {p : List UInt8} {ps : List (List UInt8)} : lnB f (p :: ps) = (if p = [] then [] else (bif f then p else 32 :: p)) ++ lnB (f && decide (p = [])) ps := by
  rw [lnB]
  by_cases h : p = []
  · rw [if_pos h, if_pos h]; simp [h]
  · rw [if_neg h, if_neg h]; simp [h]
theorem loop_rline {P : List (List UInt8)} (hP : P.length ≤ 1000) : ∀ (r : List (List UInt8)) (i : Nat) (l : List UInt8) (env : Env) (H : Heap), P.drop i = r → l.length + (lnB (decide (l = [])) r).length ≤ 140737488355328 →
    env 0 = imm strE P → env 3 = strV l → env 4 = .int .i64 i →
    W T (.loop F_ref32_linel0) env H fun x e h => x = .exit 0 ∧ h = H ∧ e 3 = strV (l ++ lnB (decide (l = [])) r) := by
  intro r
  induction r with
  | nil =>
    intro i l env H hr hl e0 e3 e4
    have hi := drop_end hr
    have q : ¬ ((i : Int) < P.length) := by omega
    rw [w_loop]
    simp only [fws, seval, cond_true, cond_false, if_true, if_false, unV, isNil, optI, iV, stepI, evalR, IntKind.bits, ini, fwi, N_ref32_line, e0, e4, q]
    exact ⟨trivial, trivial, by rw [lnB_nil, List.append_nil]; exact e3⟩
  | cons p ps ih =>
    intro i l env H hr hl e0 e3 e4
    obtain ⟨hi, rfl, hr2⟩ := drop_at hr
    have q : ((i : Int) < P.length) := by omega
    have hxx := fun H => ix_at (E := strE) (l := P) (n := 1) rfl hi .i64 H
    have hld := fun H => ld_str hi H
    have w2 : IntKind.i64.wrap ((i : Int) + 1) = ((i + 1 : Nat) : Int) := by rw [wrapI64 (by omega) (by omega)]; rfl
    rw [w_loop]
    by_cases h0 : P[i] = []
    · have b0 : strEq ⟨(P[i]).toArray⟩ ⟨#[]⟩ = true := by rw [h0]; rfl
      rw [h0, lnB_e] at hl ⊢
      have z : l.length + 0 ≤ 9223372036854775807 := by omega
      have z1 : l.length ≤ 9223372036854775807 := by omega
      simp only [fws, seval, cond_true, cond_false, if_true, if_false, unV, isNil, optI, iV, stepI, evalR, IntKind.bits, ini, fwi, N_ref32_line, e0, e3, e4, q, hxx, hld, b0, w2, Bool.not_true, h0, List.length_nil, z, z1, append_str, List.append_nil]
      refine ih (i + 1) l _ H hr2 hl ?_ ?_ ?_
      all_goals (first | assumption | rfl)
    · have b0 := ne_str h0
      by_cases hn : l = []
      · subst hn
        have b1 : strEq ⟨([] : List UInt8).toArray⟩ ⟨#[]⟩ = true := rfl
        have hd : decide (([] : List UInt8) = []) = true := rfl
        rw [hd, lnB_t h0] at hl ⊢
        rw [List.length_append] at hl
        have z : ([] : List UInt8).length + P[i].length ≤ 9223372036854775807 := by simp only [List.length_nil] at hl ⊢; omega
        simp only [fws, seval, cond_true, cond_false, if_true, if_false, unV, isNil, optI, iV, stepI, evalR, IntKind.bits, ini, N_ref32_line, e0, e3, e4, lenI_imm, q, hxx, hld, b0, b1, w2, Bool.not_true, Bool.not_false, size_str, z, append_str, List.nil_append]
        have hd2 : decide (P[i] = []) = false := decide_eq_false h0
        refine W.mono (ih (i + 1) (P[i]) _ H hr2 (by rw [hd2]; simp only [List.length_nil] at hl; omega) ?_ ?_ ?_) fun x e h ⟨g1, g2, g3⟩ => ⟨g1, g2, by rw [g3, hd2]⟩
        all_goals (first | assumption | rfl)
      · have b1 := ne_str hn
        have hd : decide (l = []) = false := decide_eq_false hn
        rw [hd, lnB_f h0] at hl ⊢
        rw [List.length_append, List.length_cons] at hl
        have z : l.length + 1 ≤ 9223372036854775807 := by omega
        have z2 : (l ++ [32]).length + P[i].length ≤ 9223372036854775807 := by simp only [List.length_append, List.length_cons, List.length_nil]; omega
        have z3 : l.length + (1 + P[i].length) ≤ 9223372036854775807 := by omega
        have sp : (⟨l.toArray⟩ : ByteArray) ++ ⟨#[32]⟩ = ⟨(l ++ [32]).toArray⟩ := append_str (m := [32])
        have sz : (⟨#[32]⟩ : ByteArray).size = 1 := rfl
        simp only [fws, seval, cond_true, cond_false, if_true, if_false, unV, isNil, optI, iV, stepI, evalR, IntKind.bits, ini, N_ref32_line, e0, e3, e4, lenI_imm, q, hxx, hld, b0, b1, w2, Bool.not_true, Bool.not_false, size_str, sz, z, z2, sp, append_str]
        have hd2 : decide ((l ++ [32]) ++ P[i] = []) = false := decide_eq_false (by simp)
        refine W.mono (ih (i + 1) ((l ++ [32]) ++ P[i]) _ H hr2 (by rw [hd2]; simp only [List.length_append, List.length_cons, List.length_nil]; omega) ?_ ?_ ?_) fun x e h ⟨g1, g2, g3⟩ => ⟨g1, g2, by rw [g3, hd2]; simp⟩
        all_goals (first | assumption | rfl)
/-- The document's line. -/
theorem f_rline (t : LnF T) {P : List (List UInt8)} (hP : P.length ≤ 1000) (hl : (lineM P).length ≤ 140737488355328) : FnV T 47 [imm strE P] (strV (lineM P)) := by
  unfold lineM at hl ⊢
  rw [List.length_append, List.length_cons, List.length_nil] at hl
  refine FnV_of (by simp [pure_agg, pure_tup, pure_int, pure_bool, pure_string, pure_slN, pure_ptrN, pure_mapN, pure_imm, pure_immN, bltN, byteE_d, intE_d, boolE_d, strE_d]) ?_
  rw [Ev_fn t.rl rfl]
  simp only [F_ref32_line, fws, seval, cond_true, cond_false, if_true, if_false, unV, isNil, optI, iV, stepI, evalR, IntKind.bits, ini, fwi, F_ref32_liner0b, F_ref32_liner0_W, F_ref32_liner1b, F_ref32_liner1_W, F_ref32_liner2b, F_ref32_liner2_W, F_ref32_liner3b, F_ref32_liner3_W, F_ref32_liner5b, F_ref32_liner5_W, F_ref32_liner5_g5, F_ref32_liner6b, F_ref32_liner6_W, F_ref32_liner7b, F_ref32_liner7_W, F_ref32_liner4b, F_ref32_liner4_W, F_ref32_linel0b, F_ref32_liner8b, F_ref32_liner8_W, F_ref32_linecb, F_ref32_linec_W]
  refine W.mono (loop_rline hP P 0 [] _ [] rfl (by simpa using (by omega : (lnB true P).length ≤ 140737488355328)) ?_ ?_ ?_) fun x e h ⟨g1, g2, g3⟩ => ?_
  · (first | assumption | rfl)
  · (first | assumption | rfl)
  · (first | assumption | rfl)
  subst g1 g2
  have z : (lnB true P).length + 1 ≤ 9223372036854775807 := by omega
  have sp : (⟨(lnB true P).toArray⟩ : ByteArray) ++ ⟨#[10]⟩ = ⟨(lnB true P ++ [10]).toArray⟩ := append_str (m := [10])
  have sz : (⟨#[10]⟩ : ByteArray).size = 1 := rfl
  have g3 : e 3 = strV (lnB true P) := g3
  simp only [fws, seval, cond_true, cond_false, if_true, if_false, unV, isNil, optI, iV, stepI, evalR, IntKind.bits, ini, N_ref32_line, g3, size_str, sz, z, sp]
  rfl
end
end Go.Proofs.YtdajdgjacajemaaGreat
