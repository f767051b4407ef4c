/- A Builder's methods. -/
import Derived.Test.YtbhoaiacnoiocaaDoorIrBld
import Derived.Test.YtbhoaiacnoiocaaDoorFwC
import Derived.Test.YtbhoaiacnoiocaaDoorDE
import Derived.Test.YtbhoaiacnoiocaaDoorIrCe
namespace Go.Proofs.YtbhoaiacnoiocaaDoor
open Go Fw
set_option linter.unusedSimpArgs false
set_option linter.unusedVariables false
set_option linter.unusedSectionVars false

abbrev ptrS (b tag : Nat) : Value := .pointer (some ⟨b, 0, spotOf tag⟩)
/-- The buffer: nil yet, or a row of bytes. -/
def BufR (H : Heap) (buf : Value) (l : List UInt8) (bb : Option Nat) : Prop :=
  (l = [] ∧ buf = .slice none 0 0 ∧ bb = none) ∨ ∃ i tg, bb = some i ∧ l ≠ [] ∧ buf = bV i tg l.length ∧ H[i]? = some ⟨tg, .byt T8 l⟩
/-- A Builder in an entry that holds it alone. -/
def Bd (H : Heap) (b tag TB : Nat) (l : List UInt8) (bb : Option Nat) : Prop :=
  ∃ adr buf, H[b]? = some ⟨tag, .cells false (uT TB) [adr, buf]⟩ ∧ (adr = .pointer none ∨ adr = ptrS b tag) ∧ BufR H buf l bb
structure BF (T : Tab) : Prop where
  cc : T 37 = some F_strings_Builder_copyCheck
  ws : T 20 = some F_strings_Builder_WriteString
  st : T 21 = some F_strings_Builder_String
theorem set_id {H : Heap} {b : Nat} {e : Entry} (h : H[b]? = some e) : H.set b e = H := by
  obtain ⟨h1, h2⟩ := List.getElem?_eq_some_iff.1 h
  rw [← h2, List.set_getElem_self]
section
variable {T : Tab} {H : Heap} {b tag TB : Nat}
theorem lk_s {tag' : Nat} {o : AObj} {off : Nat} (h : H[b]? = some ⟨tag, o⟩) : lk H ⟨b, off, spotOf tag⟩ = some ⟨tag, o⟩ := own_lk h
theorem ev_copyCheck (hT : T 37 = some F_strings_Builder_copyCheck) {adr buf : Value} (hb : H[b]? = some ⟨tag, .cells false (uT TB) [adr, buf]⟩) (ha : adr = .pointer none ∨ adr = ptrS b tag) (hTB : TBs.any (fun T => decide (uT TB = uT T)) = true) (hbuf : oneC buf = true) :
    Ev T 37 [ptrS b tag] H fun v h => v = .tuple #[] ∧ h = H.set b ⟨tag, .cells false (uT TB) [ptrS b tag, buf]⟩ := by
  have k1 := fun off => lk_s (off := off) (tag' := 0) hb
  rw [Ev_fn hT rfl]
  rcases ha with rfl | rfl
  · simp only [F_strings_Builder_copyCheck, fws, cond_true, cond_false, if_true, if_false, unV, isNil, optI, iV, stepI, evalR, reduceIte, reduceCtorEq, Nat.reduceEqDiff, Int.reduceLT, Int.reduceLE, Int.reduceToNat, Nat.reduceLT, Nat.reduceLeDiff, Int.reduceEq, Int.reduceNeg, IntKind.bits, Nat.reduceAdd, Nat.reduceMul, Nat.reducePow, Int.reducePow, ini, fwh, fwi, spl, rdN, cellsAt, F_strings_Builder_copyCheckr0_W, F_strings_Builder_copyCheckr1_W, F_strings_Builder_copyCheckr2_W, F_strings_Builder_copyCheckc_W, xI, k1, hTB, tag_spot, Nat.beq_refl]
    exact ⟨trivial, trivial⟩
  · simp only [F_strings_Builder_copyCheck, fws, cond_true, cond_false, if_true, if_false, unV, isNil, optI, iV, stepI, evalR, reduceIte, reduceCtorEq, Nat.reduceEqDiff, Int.reduceLT, Int.reduceLE, Int.reduceToNat, Nat.reduceLT, Nat.reduceLeDiff, Int.reduceEq, Int.reduceNeg, IntKind.bits, Nat.reduceAdd, Nat.reduceMul, Nat.reducePow, Int.reducePow, ini, fwh, fwi, spl, rdN, cellsAt, F_strings_Builder_copyCheckr0_W, F_strings_Builder_copyCheckr1_W, F_strings_Builder_copyCheckr2_W, F_strings_Builder_copyCheckc_W, xI, k1, hTB, tag_spot, Nat.beq_refl]
    exact ⟨trivial, (set_id hb).symm⟩
theorem BufR.one {buf : Value} {l : List UInt8} {bb : Option Nat} (h : BufR H buf l bb) : oneC buf = true := by
  rcases h with ⟨_, rfl, _⟩ | ⟨i, tg, _, _, rfl, _⟩ <;> rfl
theorem BufR.cells {buf : Value} {l : List UInt8} {bb : Option Nat} (h : BufR H buf l bb) : buf.cells = #[buf] := by
  rcases h with ⟨_, rfl, _⟩ | ⟨i, tg, _, _, rfl, _⟩ <;> rfl
theorem BufR.all {buf : Value} {l : List UInt8} {bb : Option Nat} (h : BufR H buf l bb) : oneAll buf = true := by
  simp [oneAll, h.cells, h.one]
/-- What stays, when a Builder has been written. -/
structure BFrame (H h : Heap) (b : Nat) (bb bb' : Option Nat) : Prop where
  len : H.length ≤ h.length
  same : ∀ q, q < H.length → q ≠ b → bb ≠ some q → h[q]? = H[q]?
  blk : bb' = bb ∨ (bb = none ∧ ∃ k, bb' = some k ∧ H.length ≤ k)
theorem BFrame.refl (H : Heap) (b : Nat) (bb : Option Nat) : BFrame H H b bb bb := ⟨Nat.le_refl _, fun _ _ _ _ => rfl, .inl rfl⟩
theorem BFrame.trans {H1 H2 H3 : Heap} {b : Nat} {b1 b2 b3 : Option Nat} (h : BFrame H1 H2 b b1 b2) (k : BFrame H2 H3 b b2 b3) : BFrame H1 H3 b b1 b3 := by
  refine ⟨Nat.le_trans h.len k.len, fun q hq h1 h2 => ?_, ?_⟩
  · rw [k.same q (Nat.lt_of_lt_of_le hq h.len) h1 ?_, h.same q hq h1 h2]
    rcases h.blk with e | ⟨_, b', e, h3⟩
    · rw [e]; exact h2
    · rw [e]; intro e'; cases e'; omega
  · rcases h.blk with e | ⟨h0, b', e, h3⟩
    · rcases k.blk with k1 | ⟨k0, b'', k2, k3⟩
      · exact .inl (k1.trans e)
      · exact .inr ⟨e.symm.trans k0, b'', k2, Nat.le_trans h.len k3⟩
    · rcases k.blk with k1 | ⟨k0, _, _, _⟩
      · exact .inr ⟨h0, b', k1.trans e, h3⟩
      · rw [e] at k0; cases k0
/-- Bytes are appended to the buffer. -/
theorem BufR.app {buf : Value} {l m : List UInt8} {bb : Option Nat} (h : BufR H buf l bb) (hl : l.length + m.length ≤ 140737488355328) :
    ∃ buf' H' bb', appBI H T8 buf m = some (buf', H') ∧ BufR H' buf' (l ++ m) bb' ∧ (H' = H ∨ (∃ e, H' = H ++ [e]) ∨ ∃ i e, bb = some i ∧ H' = H.set i e) ∧ (bb' = bb ∨ (bb = none ∧ bb' = some H.length)) := by
  rcases h with ⟨rfl, rfl, rfl⟩ | ⟨i, tg, rfl, hl0, rfl, hi⟩
  · cases m with
    | nil => exact ⟨.slice none 0 0, H, none, rfl, .inl ⟨rfl, rfl, rfl⟩, .inl rfl, .inl rfl⟩
    | cons a m =>
      refine ⟨bV H.length 1 (a :: m).length, H ++ [⟨1, .byt T8 (a :: m)⟩], some H.length, ?_, .inr ⟨H.length, 1, rfl, by simp, rfl, by simp⟩, .inr (.inl ⟨_, rfl⟩), .inr ⟨rfl, rfl⟩⟩
      have h1 : (a :: m).length ≤ 140737488355328 := by simp only [List.length_nil] at hl; omega
      simp only [appBI, List.isEmpty, Nat.beq_refl, Bool.and_self, cond_true, cond_false, if_pos h1]
  · have hlt := (List.getElem?_eq_some_iff.1 hi).1
    refine ⟨bV i (tg + 1) (l.length + m.length), H.set i ⟨tg + 1, .byt T8 (l ++ m)⟩, some i, ?_, .inr ⟨i, tg + 1, rfl, by simp [hl0], by simp, List.getElem?_set_self hlt⟩, .inr (.inr ⟨i, _, rfl, rfl⟩), .inl rfl⟩
    have hb : bVI (bV i tg l.length) = some (i, tg, l.length) := rfl
    simp only [appBI, hb, hi, Nat.beq_refl, Bool.and_self, cond_true, if_pos hl]
theorem srcOf_str {s : List UInt8} : srcOf H 1 (strV s) = some (byteE.cs s, s.length) := by
  simp only [srcOf, Nat.beq_refl, cond_true, bytesV_str, size_str]
theorem strOfS_bytes : ∀ l : List UInt8, strOfS (byteE.cs l) = some l
  | [] => rfl
  | b :: l => by
    rw [cs_cons, byteE_e]
    have h : (b.toNat : Int) = ((UInt8.ofNat (b.toNat : Int).toNat).toNat : Int) := by simp
    simp only [List.cons_append, List.nil_append, strOfS, strOfS_bytes l, Option.map_some, Int.toNat_natCast, UInt8.ofNat_toNat, if_true]
theorem lenI_strB {H : Heap} {l : List UInt8} : lenI H 0 (strV l) = some (.int .i64 l.length, H) := rfl
/-- WriteString. -/
theorem ev_WriteString (t : BF T) {l s : List UInt8} {bb : Option Nat} (hB : Bd H b tag TB l bb) (hTB : TBs.any (fun T => decide (uT TB = uT T)) = true) (hl : l.length + s.length ≤ 140737488355328) :
    Ev T 20 [ptrS b tag, strV s] H fun v h => v = .tuple #[.int .i64 s.length, .nilIface] ∧ ∃ bb', Bd h b tag TB (l ++ s) bb' ∧ BFrame H h b bb bb' := by
  obtain ⟨adr, buf, hb, ha, hr⟩ := hB
  have hlt := (List.getElem?_eq_some_iff.1 hb).1
  obtain ⟨H1, hH1⟩ : ∃ H1, H1 = H.set b ⟨tag, .cells false (uT TB) [ptrS b tag, buf]⟩ := ⟨_, rfl⟩
  have c0 := ev_copyCheck t.cc hb ha hTB hr.one
  rw [← hH1] at c0
  have hb1 : H1[b]? = some ⟨tag, .cells false (uT TB) [ptrS b tag, buf]⟩ := by rw [hH1]; exact List.getElem?_set_self hlt
  have hr1 : BufR H1 buf l bb := by
    rcases hr with h | ⟨i, tg, h1, h2, h3, h4⟩
    · exact .inl h
    · refine .inr ⟨i, tg, h1, h2, h3, ?_⟩
      rw [hH1, List.getElem?_set_ne (fun e => by subst e; rw [hb] at h4; cases h4)]
      exact h4
  have hlen1 : H1.length = H.length := by rw [hH1, List.length_set]
  obtain ⟨buf', H2, bb', a1, a2, a3, a4⟩ := hr1.app (m := s) hl
  have hne : ∀ i, bb = some i → i ≠ b := fun i hi e => by
    subst e
    rcases hr with ⟨_, _, h⟩ | ⟨i', tg, h1, _, _, h4⟩
    · rw [h] at hi; cases hi
    · rw [h1] at hi; cases hi; rw [hb] at h4; cases h4
  have hb2 : H2[b]? = some ⟨tag, .cells false (uT TB) [ptrS b tag, buf]⟩ := by
    rcases a3 with rfl | ⟨e, rfl⟩ | ⟨i, e, hi, rfl⟩
    · exact hb1
    · rw [List.getElem?_append_left (by omega)]; exact hb1
    · rw [List.getElem?_set_ne (hne i hi)]; exact hb1
  have hlen2 : H1.length ≤ H2.length := by
    rcases a3 with rfl | ⟨e, rfl⟩ | ⟨i, e, hi, rfl⟩ <;> simp
  have k1 := fun off => lk_s (off := off) (tag' := 0) hb1
  have k2 := fun off => lk_s (off := off) (tag' := 0) hb2
  have ob := a2.one
  have oc := a2.cells
  have oa := a2.all
  have hfr : BFrame H (H2.set b ⟨tag, .cells false (uT TB) [ptrS b tag, buf']⟩) b bb bb' := by
    refine ⟨by rw [List.length_set]; omega, fun q hq h1 h2 => ?_, ?_⟩
    · rw [List.getElem?_set_ne (fun e => h1 e.symm)]
      have hq1 : H1[q]? = H[q]? := by rw [hH1, List.getElem?_set_ne (fun e => h1 e.symm)]
      rcases a3 with rfl | ⟨e, rfl⟩ | ⟨i, e, hi, rfl⟩
      · exact hq1
      · rw [List.getElem?_append_left (by omega)]; exact hq1
      · rw [List.getElem?_set_ne (fun e => h2 (by rw [hi, e]))]; exact hq1
    · rcases a4 with h | ⟨h1, h2⟩
      · exact .inl h
      · exact .inr ⟨h1, _, h2, by omega⟩
  have hB2 : Bd (H2.set b ⟨tag, .cells false (uT TB) [ptrS b tag, buf']⟩) b tag TB (l ++ s) bb' := by
    refine ⟨ptrS b tag, buf', List.getElem?_set_self (by omega), .inr rfl, ?_⟩
    rcases a2 with h | ⟨i, tg, h1, h2, h3, h4⟩
    · exact .inl h
    · refine .inr ⟨i, tg, h1, h2, h3, ?_⟩
      rw [List.getElem?_set_ne (fun e => by subst e; rw [hb2] at h4; cases h4)]
      exact h4
  have a5 : srcOf H1 1 (strV s) = some (byteE.cs s, s.length) := srcOf_str
  have a6 := strOfS_bytes s
  rw [Ev_fn t.ws rfl]
  simp only [F_strings_Builder_WriteString, fws, cond_true, cond_false, if_true, if_false, unV, isNil, optI, iV, stepI, evalR, reduceIte, reduceCtorEq, Nat.reduceEqDiff, Int.reduceLT, Int.reduceLE, Int.reduceToNat, Nat.reduceLT, Nat.reduceLeDiff, Int.reduceEq, Int.reduceNeg, IntKind.bits, Nat.reduceAdd, Nat.reduceMul, Nat.reducePow, Int.reducePow, ini, fwh, fwi, spl, rdN, cellsAt, F_strings_Builder_WriteStringr0_W, F_strings_Builder_WriteStringr1_W, F_strings_Builder_WriteStringr2_W, F_strings_Builder_WriteStringr3_W, F_strings_Builder_WriteStringc_W, xI, Ev_det c0, k1, k2, a5, a6, a1, ob, oc, oa, lenI_strB, tag_spot, Nat.beq_refl]
  exact ⟨trivial, bb', hB2, hfr⟩
/-- String. -/
theorem ev_String (t : BF T) {l : List UInt8} {bb : Option Nat} (hB : Bd H b tag TB l bb) (hl : l.length ≤ 140737488355328) :
    Ev T 21 [ptrS b tag] H fun v h => v = strV l ∧ H.length ≤ h.length ∧ ∀ q, bb ≠ some q → h[q]? = H[q]? := by
  obtain ⟨adr, buf, hb, ha, hr⟩ := hB
  have k1 := fun off => lk_s (off := off) (tag' := 0) hb
  rw [Ev_fn t.st rfl]
  rcases hr with ⟨rfl, rfl, rfl⟩ | ⟨i, tg, rfl, hl0, rfl, hi⟩
  · simp only [F_strings_Builder_String, fws, cond_true, cond_false, if_true, if_false, unV, isNil, optI, iV, stepI, evalR, reduceIte, reduceCtorEq, Nat.reduceEqDiff, Int.reduceLT, Int.reduceLE, Int.reduceToNat, Nat.reduceLT, Nat.reduceLeDiff, Int.reduceEq, Int.reduceNeg, IntKind.bits, Nat.reduceAdd, Nat.reduceMul, Nat.reducePow, Int.reducePow, ini, fwh, fwi, spl, rdN, cellsAt, F_strings_Builder_Stringr0_W, F_strings_Builder_Stringr1_W, F_strings_Builder_Stringc_W, xI, k1, tag_spot, Nat.beq_refl]
    exact ⟨trivial, Nat.le_refl _, fun _ _ => trivial⟩
  · have hbv : bVI (bV i tg l.length) = some (i, tg, l.length) := rfl
    have q1 : (0 < (l.length : Int)) := by have := List.length_pos_iff.2 hl0; omega
    have q2 : Nat.blt 0 l.length = true := by have := List.length_pos_iff.2 hl0; simp [Nat.blt]; omega
    have q3 : ((l.length : Int) ≤ 140737488355328) := by omega
    have k2 := fun off => lk_s (off := off) (tag' := 0) hi
    simp only [F_strings_Builder_String, fws, cond_true, cond_false, if_true, if_false, unV, isNil, optI, iV, stepI, evalR, reduceIte, reduceCtorEq, Nat.reduceEqDiff, Int.reduceLT, Int.reduceLE, Int.reduceToNat, Nat.reduceLT, Nat.reduceLeDiff, Int.reduceEq, Int.reduceNeg, IntKind.bits, Nat.reduceAdd, Nat.reduceMul, Nat.reducePow, Int.reducePow, ini, fwh, fwi, spl, rdN, cellsAt, F_strings_Builder_Stringr0_W, F_strings_Builder_Stringr1_W, F_strings_Builder_Stringc_W, xI, k1, k2, hbv, hi, q1, q2, q3, tag_spot, Nat.beq_refl, and_self]
    refine ⟨trivial, by simp, fun q hq => List.getElem?_set_ne (fun e => hq (by rw [e]))⟩
end
end Go.Proofs.YtbhoaiacnoiocaaDoor
/- Placeholders, plain; digits; a cut at two signs. -/
namespace Go.Proofs.YtbhoaiacnoiocaaDoor
open Go Fw
set_option linter.unusedSimpArgs false
set_option linter.unusedVariables false
set_option linter.unusedSectionVars false

abbrev opL : List UInt8 := [36, 123]
abbrev libN : List UInt8 := [76, 73, 66]
abbrev levN : List UInt8 := [76, 69, 86, 69, 76]
abbrev lib64 : List UInt8 := [108, 105, 98, 54, 52]
/-- What stands between the placeholder's brackets, and what behind them. -/
def nmX (t : List UInt8) : List UInt8 := t.takeWhile (· != 125)
def bhX (t : List UInt8) : List UInt8 := t.drop ((nmX t).length + 1)
theorem bhX_len (t : List UInt8) : (bhX t).length ≤ t.length := by unfold bhX; rw [List.length_drop]; omega
/-- The text without placeholders, or none. -/
def exM (tx : List UInt8) : List UInt8 → Option (List UInt8)
  | [] => some []
  | c :: r =>
    if c = 36 ∧ r.head? = some 123 then
      if 125 ∈ r.drop 1 then
        if nmX (r.drop 1) = libN then (exM tx (bhX (r.drop 1))).map (lib64 ++ ·)
        else if nmX (r.drop 1) = levN then (exM tx (bhX (r.drop 1))).map (tx ++ ·)
        else none
      else none
    else (exM tx r).map (c :: ·)
termination_by l => l.length
decreasing_by
  all_goals simp only [List.length_cons]
  · have := bhX_len (r.drop 1); rw [List.length_drop] at this; omega
  · have := bhX_len (r.drop 1); rw [List.length_drop] at this; omega
  · omega
def cut2 : List UInt8 → Option (List UInt8 × List UInt8)
  | [] => none
  | c :: r => if c = 36 ∧ r.head? = some 123 then some ([], r.drop 1) else (cut2 r).map fun x => (c :: x.1, x.2)
theorem pre2 (c : UInt8) (r : List UInt8) : opL.isPrefixOf (c :: r) = decide (c = 36 ∧ r.head? = some 123) := by
  cases r with
  | nil => simp [List.isPrefixOf]
  | cons d r =>
    simp only [List.isPrefixOf, Bool.and_true, List.head?_cons, Option.some.injEq]
    by_cases h1 : c = 36
    · by_cases h2 : d = 123
      · simp [h1, h2]
      · have : ((123 : UInt8) == d) = false := by simp; exact fun e => h2 e.symm
        simp [h1, h2, this]
    · have : ((36 : UInt8) == c) = false := by simp; exact fun e => h1 e.symm
      simp [h1, this]
theorem cut2_no : ∀ {l : List UInt8}, cut2 l = none → Go.Lib.index l opL = -1
  | [], _ => rfl
  | c :: r, h => by
    simp only [cut2] at h
    split at h
    · cases h
    · rename_i hc
      have ih := cut2_no (l := r) (by simpa using h)
      unfold Go.Lib.index
      rw [pre2, decide_eq_false hc, ih]
      rfl
theorem cut2_yes : ∀ {l a b : List UInt8}, cut2 l = some (a, b) → Go.Lib.index l opL = a.length ∧ l = a ++ 36 :: 123 :: b
  | [], a, b, h => by cases h
  | c :: r, a, b, h => by
    simp only [cut2] at h
    split at h
    · rename_i hc
      cases h
      refine ⟨?_, ?_⟩
      · unfold Go.Lib.index
        rw [pre2, decide_eq_true hc]; rfl
      · obtain ⟨rfl, h2⟩ := hc
        cases r with
        | nil => cases h2
        | cons d r => cases h2; rfl
    · rename_i hc
      obtain ⟨x, h1, h2⟩ := Option.map_eq_some_iff.1 h
      cases h2
      obtain ⟨i1, i2⟩ := cut2_yes (l := r) (a := x.1) (b := x.2) h1
      refine ⟨?_, by rw [i2]; rfl⟩
      unfold Go.Lib.index
      rw [pre2, decide_eq_false hc, i1]
      have h3 : (((x.1.length : Nat) : Int) == -1) = false := by
        simp
      simp only [h3, Bool.false_eq_true, if_false, List.length_cons]
      omega
theorem exM_no {tx : List UInt8} : ∀ {l : List UInt8}, cut2 l = none → exM tx l = some l
  | [], _ => by rw [exM]
  | c :: r, h => by
    simp only [cut2] at h
    split at h
    · cases h
    · rename_i hc
      rw [exM, if_neg hc, exM_no (l := r) (by simpa using h)]
      rfl
theorem exM_yes {tx : List UInt8} : ∀ {l a b : List UInt8}, cut2 l = some (a, b) → exM tx l = (exM tx (36 :: 123 :: b)).map (a ++ ·)
  | [], a, b, h => by cases h
  | c :: r, a, b, h => by
    simp only [cut2] at h
    split at h
    · rename_i hc
      cases h
      obtain ⟨rfl, h2⟩ := hc
      cases r with
      | nil => cases h2
      | cons d r =>
        cases h2
        simp only [List.drop_succ_cons, List.drop_zero, List.nil_append]
        cases exM tx (36 :: 123 :: r) <;> rfl
    · rename_i hc
      obtain ⟨x, h1, h2⟩ := Option.map_eq_some_iff.1 h
      cases h2
      rw [exM, if_neg hc, exM_yes (l := r) (a := x.1) (b := x.2) h1, Option.map_map]
      rfl
theorem exM_op {tx b : List UInt8} : exM tx (36 :: 123 :: b) = if 125 ∈ b then if nmX b = libN then (exM tx (bhX b)).map (lib64 ++ ·) else if nmX b = levN then (exM tx (bhX b)).map (tx ++ ·) else none else none := by
  rw [exM, if_pos ⟨rfl, rfl⟩]
  rfl
theorem exM_len {tx : List UInt8} (ht : tx.length ≤ 20) : ∀ (n : Nat) (l v : List UInt8), l.length ≤ n → exM tx l = some v → v.length ≤ l.length * 20
  | n, [], v, _, h => by rw [exM] at h; cases h; simp
  | 0, c :: r, v, hn, h => by simp at hn
  | n + 1, c :: r, v, hn, h => by
    simp only [List.length_cons] at hn
    rw [exM] at h
    have hb := bhX_len (r.drop 1)
    rw [List.length_drop] at hb
    split at h
    · rename_i hc
      have hr : 1 ≤ r.length := by
        cases r with
        | nil => cases hc.2
        | cons => simp
      split at h
      · split at h
        · obtain ⟨u, h1, rfl⟩ := Option.map_eq_some_iff.1 h
          have := exM_len ht n _ u (by omega) h1
          simp only [List.length_append, List.length_cons, List.length_nil]
          omega
        · split at h
          · obtain ⟨u, h1, rfl⟩ := Option.map_eq_some_iff.1 h
            have := exM_len ht n _ u (by omega) h1
            simp only [List.length_append, List.length_cons]
            omega
          · cases h
      · cases h
    · obtain ⟨u, h1, rfl⟩ := Option.map_eq_some_iff.1 h
      have := exM_len ht n _ u (by omega) h1
      simp only [List.length_cons]
      omega
/-! ### digits -/
def dgC (n : Nat) : UInt8 := UInt8.ofNat (48 + n % 10)
def dgF : Nat → Nat → List UInt8 → List UInt8
  | 0, _, s => s
  | k + 1, n, s => if n = 0 then s else dgF k (n / 10) (dgC n :: s)
def textF (n : Int) : List UInt8 := if n ≤ 0 then [48] else dgF 20 n.toNat []
theorem dgF_len : ∀ (k n : Nat) (s : List UInt8), (dgF k n s).length ≤ s.length + k
  | 0, n, s => Nat.le_refl _
  | k + 1, n, s => by
    simp only [dgF]
    split
    · omega
    · have := dgF_len k (n / 10) (dgC n :: s)
      simp only [List.length_cons] at this
      omega
theorem textF_len (n : Int) : (textF n).length ≤ 20 := by
  unfold textF
  split
  · decide
  · have := dgF_len 20 n.toNat []
    simpa using this
end Go.Proofs.YtbhoaiacnoiocaaDoor
/- Texts of numbers; a cut at two signs; the place of a sign. -/
namespace Go.Proofs.YtbhoaiacnoiocaaDoor
open Go Fw
set_option linter.unusedSimpArgs false
set_option linter.unusedVariables false
set_option linter.unusedSectionVars false

section
variable {T : Tab}
theorem dg_val (n : Nat) : IntKind.u8.wrap (48 + ((n % 10 : Nat) : Int)) = ((dgC n).toNat : Int) := by
  have h : n % 10 < 10 := Nat.mod_lt _ (by decide)
  rw [wrap_u8]
  unfold dgC
  rw [UInt8.toNat_ofNat']
  omega
theorem loop_dgA : ∀ (k n : Nat) (s : List UInt8) (H : Heap) (env : Env), n < 10 ^ k → k ≤ 20 → n ≤ 9223372036854775807 → s ≠ [] ∨ 0 < n → s.length + k ≤ 1000 → env 0 = .int .i64 n → env 3 = strV s →
    W T (.loop F_num_Textl0) env H fun x e h => x = .exit 0 ∧ h = H ∧ e 3 = strV (dgF k n s) := by
  intro k
  induction k with
  | zero =>
    intro n s H env hn hk hb hs hl e0 e3
    have hn0 : n = 0 := by simpa using hn
    subst hn0
    have hs' : s ≠ [] := hs.resolve_right (by omega)
    have q : ¬ ((0 : Int) < ((0 : Nat) : Int)) := by decide
    have b0 := ne_str hs'
    rw [w_loop]
    simp only [fws, cond_true, cond_false, if_true, if_false, unV, isNil, optI, iV, stepI, evalR, reduceIte, reduceCtorEq, Nat.reduceEqDiff, Int.reduceLT, Int.reduceLE, Int.reduceToNat, Nat.reduceLT, Nat.reduceLeDiff, Int.reduceEq, Int.reduceNeg, IntKind.bits, Nat.reduceAdd, Nat.reduceMul, Nat.reducePow, Int.reducePow, ini, fwi, F_num_Textr0_W, F_num_Textr1_W, F_num_Textr2_W, F_num_Textr3_W, F_num_Textr3_g2, F_num_Textr5_W, F_num_Textr4_W, F_num_Textl0_W, F_num_Textr6_W, F_num_Textc_W, e0, e3, q, b0]
    exact ⟨trivial, trivial, rfl⟩
  | succ k ih =>
    intro n s H env hn hk hb hs hl e0 e3
    by_cases h0 : n = 0
    · subst h0
      have hs' : s ≠ [] := hs.resolve_right (by omega)
      have q : ¬ ((0 : Int) < ((0 : Nat) : Int)) := by decide
      have b0 := ne_str hs'
      rw [w_loop]
      simp only [fws, cond_true, cond_false, if_true, if_false, unV, isNil, optI, iV, stepI, evalR, reduceIte, reduceCtorEq, Nat.reduceEqDiff, Int.reduceLT, Int.reduceLE, Int.reduceToNat, Nat.reduceLT, Nat.reduceLeDiff, Int.reduceEq, Int.reduceNeg, IntKind.bits, Nat.reduceAdd, Nat.reduceMul, Nat.reducePow, Int.reducePow, ini, fwi, F_num_Textr0_W, F_num_Textr1_W, F_num_Textr2_W, F_num_Textr3_W, F_num_Textr3_g2, F_num_Textr5_W, F_num_Textr4_W, F_num_Textl0_W, F_num_Textr6_W, F_num_Textc_W, e0, e3, q, b0]
      exact ⟨trivial, trivial, rfl⟩
    · have q : ((0 : Int) < (n : Int)) := by omega
      have m1 : ((n : Int).tmod 10) = ((n % 10 : Nat) : Int) := by rw [tmodN (by omega)]; rfl
      have d1 : ((n : Int).tdiv 10) = ((n / 10 : Nat) : Int) := by rw [tdivN (by omega)]; rfl
      have w1 : IntKind.i64.wrap (48 + ((n % 10 : Nat) : Int)) = 48 + ((n % 10 : Nat) : Int) := by rw [wrapI64 (by omega) (by omega)]
      have w2 : IntKind.i64.wrap ((n / 10 : Nat) : Int) = ((n / 10 : Nat) : Int) := by rw [wrapI64 (by omega) (by omega)]
      have w3 := dg_val n
      have z1 : 1 + s.length ≤ 9223372036854775807 := by omega
      have hb2 : ∀ H, b2sI H (immV 1 [.int .u8 ((dgC n).toNat : Int)]) = some (strV [dgC n], H) := fun H => b2sI_imm (l := [dgC n])
      have t10 : ¬ ((10 : Int) = 0) := by decide
      rw [w_loop]
      simp only [fws, cond_true, cond_false, if_true, if_false, unV, isNil, optI, iV, stepI, evalR, reduceIte, reduceCtorEq, Nat.reduceEqDiff, Int.reduceLT, Int.reduceLE, Int.reduceToNat, Nat.reduceLT, Nat.reduceLeDiff, Int.reduceEq, Int.reduceNeg, IntKind.bits, Nat.reduceAdd, Nat.reduceMul, Nat.reducePow, Int.reducePow, ini, fwh, lk, cellsAt, tagOf, spotOf, rdN, spl, fillL, zr, fwi, F_num_Textr0_W, F_num_Textr1_W, F_num_Textr2_W, F_num_Textr3_W, F_num_Textr3_g2, F_num_Textr5_W, F_num_Textr4_W, F_num_Textl0_W, F_num_Textr6_W, F_num_Textc_W, e0, e3, q, m1, d1, w1, w2, w3, z1, hb2, t10]
      refine W.mono (ih (n / 10) (dgC n :: s) H _ (by rw [Nat.pow_succ] at hn; omega) (by omega) (by omega) (.inl (by simp)) (by simp only [List.length_cons]; omega) ?_ ?_) fun x e h ⟨r1, r2, r3⟩ => ⟨r1, r2, ?_⟩
      · (first | assumption | rfl)
      · (first | assumption | rfl)
      · rw [r3]
        simp only [dgF, if_neg h0]
theorem loop_dgB : ∀ (k n : Nat) (s : List UInt8) (H : Heap) (env : Env), n < 10 ^ k → k ≤ 20 → n ≤ 9223372036854775807 → s.length + k ≤ 1000 → env 0 = .int .i64 n → env 3 = strV s →
    W T (.loop F_ref01_Textl0) env H fun x e h => x = .exit 0 ∧ h = H ∧ e 3 = strV (dgF k n s) := by
  intro k
  induction k with
  | zero =>
    intro n s H env hn hk hb hl e0 e3
    have hn0 : n = 0 := by simpa using hn
    subst hn0
    have q : ¬ ((0 : Int) < ((0 : Nat) : Int)) := by decide
    rw [w_loop]
    simp only [fws, cond_true, cond_false, if_true, if_false, unV, isNil, optI, iV, stepI, evalR, reduceIte, reduceCtorEq, Nat.reduceEqDiff, Int.reduceLT, Int.reduceLE, Int.reduceToNat, Nat.reduceLT, Nat.reduceLeDiff, Int.reduceEq, Int.reduceNeg, IntKind.bits, Nat.reduceAdd, Nat.reduceMul, Nat.reducePow, Int.reducePow, ini, fwi, F_ref01_Textr0_W, F_ref01_Textr1_W, F_ref01_Textr2_W, F_ref01_Textr3_W, F_ref01_Textr4_W, F_ref01_Textr5_W, F_ref01_Textr6_W, F_ref01_Textl0_W, F_ref01_Textr7_W, F_ref01_Textc_W, e0, e3, q]
    exact ⟨trivial, trivial, rfl⟩
  | succ k ih =>
    intro n s H env hn hk hb hl e0 e3
    by_cases h0 : n = 0
    · subst h0
      have q : ¬ ((0 : Int) < ((0 : Nat) : Int)) := by decide
      rw [w_loop]
      simp only [fws, cond_true, cond_false, if_true, if_false, unV, isNil, optI, iV, stepI, evalR, reduceIte, reduceCtorEq, Nat.reduceEqDiff, Int.reduceLT, Int.reduceLE, Int.reduceToNat, Nat.reduceLT, Nat.reduceLeDiff, Int.reduceEq, Int.reduceNeg, IntKind.bits, Nat.reduceAdd, Nat.reduceMul, Nat.reducePow, Int.reducePow, ini, fwi, F_ref01_Textr0_W, F_ref01_Textr1_W, F_ref01_Textr2_W, F_ref01_Textr3_W, F_ref01_Textr4_W, F_ref01_Textr5_W, F_ref01_Textr6_W, F_ref01_Textl0_W, F_ref01_Textr7_W, F_ref01_Textc_W, e0, e3, q]
      exact ⟨trivial, trivial, rfl⟩
    · have q : ((0 : Int) < (n : Int)) := by omega
      have m1 : ((n : Int).tmod 10) = ((n % 10 : Nat) : Int) := by rw [tmodN (by omega)]; rfl
      have d1 : ((n : Int).tdiv 10) = ((n / 10 : Nat) : Int) := by rw [tdivN (by omega)]; rfl
      have w1 : IntKind.i64.wrap (48 + ((n % 10 : Nat) : Int)) = 48 + ((n % 10 : Nat) : Int) := by rw [wrapI64 (by omega) (by omega)]
      have w2 : IntKind.i64.wrap ((n / 10 : Nat) : Int) = ((n / 10 : Nat) : Int) := by rw [wrapI64 (by omega) (by omega)]
      have w3 := dg_val n
      have z1 : 1 + s.length ≤ 9223372036854775807 := by omega
      have hb2 : ∀ H, b2sI H (immV 1 [.int .u8 ((dgC n).toNat : Int)]) = some (strV [dgC n], H) := fun H => b2sI_imm (l := [dgC n])
      have t10 : ¬ ((10 : Int) = 0) := by decide
      rw [w_loop]
      simp only [fws, cond_true, cond_false, if_true, if_false, unV, isNil, optI, iV, stepI, evalR, reduceIte, reduceCtorEq, Nat.reduceEqDiff, Int.reduceLT, Int.reduceLE, Int.reduceToNat, Nat.reduceLT, Nat.reduceLeDiff, Int.reduceEq, Int.reduceNeg, IntKind.bits, Nat.reduceAdd, Nat.reduceMul, Nat.reducePow, Int.reducePow, ini, fwh, lk, cellsAt, tagOf, spotOf, rdN, spl, fillL, zr, fwi, F_ref01_Textr0_W, F_ref01_Textr1_W, F_ref01_Textr2_W, F_ref01_Textr3_W, F_ref01_Textr4_W, F_ref01_Textr5_W, F_ref01_Textr6_W, F_ref01_Textl0_W, F_ref01_Textr7_W, F_ref01_Textc_W, e0, e3, q, m1, d1, w1, w2, w3, z1, hb2, t10]
      refine W.mono (ih (n / 10) (dgC n :: s) H _ (by rw [Nat.pow_succ] at hn; omega) (by omega) (by omega) (by simp only [List.length_cons]; omega) ?_ ?_) fun x e h ⟨r1, r2, r3⟩ => ⟨r1, r2, ?_⟩
      · (first | assumption | rfl)
      · (first | assumption | rfl)
      · rw [r3]
        simp only [dgF, if_neg h0]
theorem f_text (h : T 22 = some F_num_Text) (n : Int) (h1 : n ≤ 9223372036854775807) : FnV T 22 [.int .i64 n] (strV (textF n)) := by
  refine FnV_of rfl ?_
  rw [Ev_fn h rfl]
  unfold textF
  by_cases h0 : n ≤ 0
  · rw [if_pos h0]
    have q : (if (0 : Int) > n then (0 : Int) else n) = 0 := by split <;> omega
    have q1 : ¬ ((0 : Int) < 0) := by decide
    have w1 : IntKind.i64.wrap ((48 : Int) + 0) = 48 := by decide
    have w2 : IntKind.u8.wrap (48 : Int) = 48 := by decide
    have m1 : ((0 : Int).tmod 10) = 0 := rfl
    have d1 : ((0 : Int).tdiv 10) = 0 := rfl
    have w3 : IntKind.i64.wrap (0 : Int) = 0 := by decide
    have b0 : strEq ⟨#[48]⟩ ⟨#[]⟩ = false := rfl
    have hb2 : ∀ H, b2sI H (immV 1 [.int .u8 48]) = some (strV [48], H) := fun H => b2sI_imm (l := [48])
    have t10 : ¬ ((10 : Int) = 0) := by decide
    simp only [F_num_Text, fws, cond_true, cond_false, if_true, if_false, unV, isNil, optI, iV, stepI, evalR, reduceIte, reduceCtorEq, Nat.reduceEqDiff, Int.reduceLT, Int.reduceLE, Int.reduceToNat, Nat.reduceLT, Nat.reduceLeDiff, Int.reduceEq, Int.reduceNeg, IntKind.bits, Nat.reduceAdd, Nat.reduceMul, Nat.reducePow, Int.reducePow, ini, fwh, lk, cellsAt, tagOf, spotOf, rdN, spl, fillL, zr, fwi, F_num_Textr0_W, F_num_Textr1_W, F_num_Textr2_W, F_num_Textr3_W, F_num_Textr3_g2, F_num_Textr5_W, F_num_Textr4_W, F_num_Textr6_W, F_num_Textc_W, q]
    rw [w_loop]
    simp only [fws, cond_true, cond_false, if_true, if_false, unV, isNil, optI, iV, stepI, evalR, reduceIte, reduceCtorEq, Nat.reduceEqDiff, Int.reduceLT, Int.reduceLE, Int.reduceToNat, Nat.reduceLT, Nat.reduceLeDiff, Int.reduceEq, Int.reduceNeg, IntKind.bits, Nat.reduceAdd, Nat.reduceMul, Nat.reducePow, Int.reducePow, ini, fwh, lk, cellsAt, tagOf, spotOf, rdN, spl, fillL, zr, fwi, F_num_Textr0_W, F_num_Textr1_W, F_num_Textr2_W, F_num_Textr3_W, F_num_Textr3_g2, F_num_Textr5_W, F_num_Textr4_W, F_num_Textl0_W, F_num_Textr6_W, F_num_Textc_W, q1, w1, w2, w3, m1, d1, b0, hb2, t10, nil_str]
    rw [w_loop]
    simp only [fws, cond_true, cond_false, if_true, if_false, unV, isNil, optI, iV, stepI, evalR, reduceIte, reduceCtorEq, Nat.reduceEqDiff, Int.reduceLT, Int.reduceLE, Int.reduceToNat, Nat.reduceLT, Nat.reduceLeDiff, Int.reduceEq, Int.reduceNeg, IntKind.bits, Nat.reduceAdd, Nat.reduceMul, Nat.reducePow, Int.reducePow, ini, fwh, lk, cellsAt, tagOf, spotOf, rdN, spl, fillL, zr, fwi, F_num_Textr0_W, F_num_Textr1_W, F_num_Textr2_W, F_num_Textr3_W, F_num_Textr3_g2, F_num_Textr5_W, F_num_Textr4_W, F_num_Textl0_W, F_num_Textr6_W, F_num_Textc_W, q1, w1, w2, w3, m1, d1, b0, hb2, t10, nil_str]
    rfl
  · rw [if_neg h0]
    have q : (if (0 : Int) > n then (0 : Int) else n) = ((n.toNat : Nat) : Int) := by split <;> omega
    simp only [F_num_Text, fws, cond_true, cond_false, if_true, if_false, unV, isNil, optI, iV, stepI, evalR, reduceIte, reduceCtorEq, Nat.reduceEqDiff, Int.reduceLT, Int.reduceLE, Int.reduceToNat, Nat.reduceLT, Nat.reduceLeDiff, Int.reduceEq, Int.reduceNeg, IntKind.bits, Nat.reduceAdd, Nat.reduceMul, Nat.reducePow, Int.reducePow, ini, fwh, lk, cellsAt, tagOf, spotOf, rdN, spl, fillL, zr, fwi, F_num_Textr0_W, F_num_Textr1_W, F_num_Textr2_W, F_num_Textr3_W, F_num_Textr3_g2, F_num_Textr5_W, F_num_Textr4_W, F_num_Textr6_W, F_num_Textc_W, q]
    refine W.mono (loop_dgA 20 n.toNat [] [] _ (by have : (10 : Nat) ^ 20 = 100000000000000000000 := by decide
                                                   omega) (Nat.le_refl _) (by omega) (.inr (by omega)) (by decide) ?_ ?_) fun x e h ⟨r1, r2, r3⟩ => ?_
    · (first | assumption | rfl)
    · (first | assumption | rfl)
    · subst r1 r2
      simp only [fws, cond_true, cond_false, if_true, if_false, unV, isNil, optI, iV, stepI, evalR, reduceIte, reduceCtorEq, Nat.reduceEqDiff, Int.reduceLT, Int.reduceLE, Int.reduceToNat, Nat.reduceLT, Nat.reduceLeDiff, Int.reduceEq, Int.reduceNeg, IntKind.bits, Nat.reduceAdd, Nat.reduceMul, Nat.reducePow, Int.reducePow, ini, F_num_Textr0_W, F_num_Textr1_W, F_num_Textr2_W, F_num_Textr3_W, F_num_Textr3_g2, F_num_Textr5_W, F_num_Textr4_W, F_num_Textl0_W, F_num_Textr6_W, F_num_Textc_W, r3]
      rfl
theorem f_rtext (h : T 24 = some F_ref01_Text) (n : Int) (h1 : n ≤ 9223372036854775807) : FnV T 24 [.int .i64 n] (strV (textF n)) := by
  refine FnV_of rfl ?_
  rw [Ev_fn h rfl]
  unfold textF
  by_cases h0 : n ≤ 0
  · rw [if_pos h0]
    simp only [F_ref01_Text, fws, cond_true, cond_false, if_true, if_false, unV, isNil, optI, iV, stepI, evalR, reduceIte, reduceCtorEq, Nat.reduceEqDiff, Int.reduceLT, Int.reduceLE, Int.reduceToNat, Nat.reduceLT, Nat.reduceLeDiff, Int.reduceEq, Int.reduceNeg, IntKind.bits, Nat.reduceAdd, Nat.reduceMul, Nat.reducePow, Int.reducePow, ini, fwh, lk, cellsAt, tagOf, spotOf, rdN, spl, fillL, zr, fwi, F_ref01_Textr0_W, F_ref01_Textr1_W, F_ref01_Textr2_W, F_ref01_Textr3_W, F_ref01_Textr4_W, F_ref01_Textr5_W, F_ref01_Textr6_W, F_ref01_Textr7_W, F_ref01_Textc_W, h0]
    rfl
  · rw [if_neg h0]
    have q : n = ((n.toNat : Nat) : Int) := by omega
    simp only [F_ref01_Text, fws, cond_true, cond_false, if_true, if_false, unV, isNil, optI, iV, stepI, evalR, reduceIte, reduceCtorEq, Nat.reduceEqDiff, Int.reduceLT, Int.reduceLE, Int.reduceToNat, Nat.reduceLT, Nat.reduceLeDiff, Int.reduceEq, Int.reduceNeg, IntKind.bits, Nat.reduceAdd, Nat.reduceMul, Nat.reducePow, Int.reducePow, ini, fwh, lk, cellsAt, tagOf, spotOf, rdN, spl, fillL, zr, fwi, F_ref01_Textr0_W, F_ref01_Textr1_W, F_ref01_Textr2_W, F_ref01_Textr3_W, F_ref01_Textr4_W, F_ref01_Textr5_W, F_ref01_Textr6_W, F_ref01_Textr7_W, F_ref01_Textc_W, h0]
    refine W.mono (loop_dgB 20 n.toNat [] [] _ (by have : (10 : Nat) ^ 20 = 100000000000000000000 := by decide
                                                   omega) (Nat.le_refl _) (by omega) (by decide) ?_ ?_) fun x e h ⟨r1, r2, r3⟩ => ?_
    · rw [← q]; (first | assumption | rfl)
    · (first | assumption | rfl)
    · subst r1 r2
      simp only [fws, cond_true, cond_false, if_true, if_false, unV, isNil, optI, iV, stepI, evalR, reduceIte, reduceCtorEq, Nat.reduceEqDiff, Int.reduceLT, Int.reduceLE, Int.reduceToNat, Nat.reduceLT, Nat.reduceLeDiff, Int.reduceEq, Int.reduceNeg, IntKind.bits, Nat.reduceAdd, Nat.reduceMul, Nat.reducePow, Int.reducePow, ini, F_ref01_Textr0_W, F_ref01_Textr1_W, F_ref01_Textr2_W, F_ref01_Textr3_W, F_ref01_Textr4_W, F_ref01_Textr5_W, F_ref01_Textr6_W, F_ref01_Textl0_W, F_ref01_Textr7_W, F_ref01_Textc_W, r3]
      rfl
/-! ### the place of a sign -/
theorem loop_find (l : List UInt8) (c : UInt8) (hl : l.length ≤ 100000000) : ∀ (k i : Nat) (env : Env) (H : Heap), i + k = l.length → c ∉ l.take i → env 0 = strV l → env 1 = .int .u8 c.toNat → env 5 = .int .i64 i →
    W T (.loop F_ref18_findl0) env H fun x e h => (x = .ret ∧ e 4 = .int .i64 (idxB l c)) ∨ (x = .exit 0 ∧ idxB l c = -1) := by
  intro k
  induction k with
  | zero =>
    intro i env H hi hn e0 e1 e5
    have hil : i = l.length := by omega
    subst hil
    rw [List.take_length] at hn
    have q : ¬ ((l.length : Int) < l.length) := by omega
    rw [w_loop]
    simp only [fws, cond_true, cond_false, if_true, if_false, unV, isNil, optI, iV, stepI, evalR, reduceIte, reduceCtorEq, Nat.reduceEqDiff, Int.reduceLT, Int.reduceLE, Int.reduceToNat, Nat.reduceLT, Nat.reduceLeDiff, Int.reduceEq, Int.reduceNeg, IntKind.bits, Nat.reduceAdd, Nat.reduceMul, Nat.reducePow, Int.reducePow, ini, fwi, F_ref18_findr0_W, F_ref18_findr1_W, F_ref18_findr2_W, F_ref18_findr4_W, F_ref18_findr5_W, F_ref18_findr3_W, F_ref18_findl0_W, F_ref18_findr6_W, F_ref18_findc_W, e0, e1, e5, lenI_str, q]
    exact .inr ⟨trivial, idxB_no hn⟩
  | succ k ih =>
    intro i env H hi hn e0 e1 e5
    have hix : i < l.length := by omega
    have q1 : ((i : Int) < l.length) := by omega
    have q4 : (0 : Int) ≤ i := by omega
    have hg : l.getD i 0 = l[i] := getD_at hix
    have w2 : IntKind.i64.wrap ((i : Int) + 1) = ((i + 1 : Nat) : Int) := by rw [wrapI64 (by omega) (by omega)]; rfl
    rw [w_loop]
    by_cases hc : l[i] = c
    · have d2 : decide (((l[i]).toNat : Int) = c.toNat) = true := decide_eq_true (by rw [hc])
      simp only [fws, cond_true, cond_false, if_true, if_false, unV, isNil, optI, iV, stepI, evalR, reduceIte, reduceCtorEq, Nat.reduceEqDiff, Int.reduceLT, Int.reduceLE, Int.reduceToNat, Nat.reduceLT, Nat.reduceLeDiff, Int.reduceEq, Int.reduceNeg, IntKind.bits, Nat.reduceAdd, Nat.reduceMul, Nat.reducePow, Int.reducePow, ini, fwi, F_ref18_findr0_W, F_ref18_findr1_W, F_ref18_findr2_W, F_ref18_findr4_W, F_ref18_findr5_W, F_ref18_findr3_W, F_ref18_findl0_W, F_ref18_findr6_W, F_ref18_findc_W, e0, e1, e5, lenI_str, q1, q4, hg, d2, and_self]
      refine .inl ⟨trivial, ?_⟩
      have hm : c ∈ l := by rw [← hc]; exact List.getElem_mem hix
      obtain ⟨i1, _, _⟩ := idxB_yes hm
      have ht : l.takeWhile (· != c) = l.take i := by
        conv => lhs; rw [← List.take_append_drop i l, List.drop_eq_getElem_cons hix, hc]
        exact tw_hit hn
      rw [i1, ht, List.length_take, Nat.min_eq_left (by omega)]
    · have d2 : decide (((l[i]).toNat : Int) = c.toNat) = false := decide_eq_false fun h => hc (UInt8.toNat_inj.1 (by omega))
      simp only [fws, cond_true, cond_false, if_true, if_false, unV, isNil, optI, iV, stepI, evalR, reduceIte, reduceCtorEq, Nat.reduceEqDiff, Int.reduceLT, Int.reduceLE, Int.reduceToNat, Nat.reduceLT, Nat.reduceLeDiff, Int.reduceEq, Int.reduceNeg, IntKind.bits, Nat.reduceAdd, Nat.reduceMul, Nat.reducePow, Int.reducePow, ini, fwi, F_ref18_findr0_W, F_ref18_findr1_W, F_ref18_findr2_W, F_ref18_findr4_W, F_ref18_findr5_W, F_ref18_findr3_W, F_ref18_findl0_W, F_ref18_findr6_W, F_ref18_findc_W, e0, e1, e5, lenI_str, q1, q4, hg, d2, and_self, w2]
      refine ih (i + 1) _ H (by omega) ?_ ?_ ?_ ?_
      · rw [List.take_add_one, List.getElem?_eq_getElem hix, List.mem_append]
        simp only [Option.toList_some, List.mem_singleton, not_or]
        exact ⟨hn, fun h => hc h.symm⟩
      all_goals (first | assumption | rfl)
theorem f_find (h : T 23 = some F_ref18_find) (l : List UInt8) (hl : l.length ≤ 100000000) (c : UInt8) : FnV T 23 [strV l, .int .u8 c.toNat] (.int .i64 (idxB l c)) := by
  refine FnV_of rfl ?_
  rw [Ev_fn h rfl]
  simp only [F_ref18_find, fws, cond_true, cond_false, if_true, if_false, unV, isNil, optI, iV, stepI, evalR, reduceIte, reduceCtorEq, Nat.reduceEqDiff, Int.reduceLT, Int.reduceLE, Int.reduceToNat, Nat.reduceLT, Nat.reduceLeDiff, Int.reduceEq, Int.reduceNeg, IntKind.bits, Nat.reduceAdd, Nat.reduceMul, Nat.reducePow, Int.reducePow, ini, fwh, lk, cellsAt, tagOf, spotOf, rdN, spl, fillL, zr, fwi, F_ref18_findr0_W, F_ref18_findr1_W, F_ref18_findr2_W, F_ref18_findr4_W, F_ref18_findr5_W, F_ref18_findr3_W, F_ref18_findr6_W, F_ref18_findc_W]
  refine W.mono (loop_find l c hl l.length 0 _ [] (Nat.zero_add _) (by simp) ?_ ?_ ?_) fun x e h hq => ?_
  all_goals try (first | assumption | rfl)
  rcases hq with ⟨rfl, e4⟩ | ⟨rfl, hq⟩
  · simp only [fws, cond_true, cond_false, if_true, if_false, unV, isNil, optI, iV, stepI, evalR, reduceIte, reduceCtorEq, Nat.reduceEqDiff, Int.reduceLT, Int.reduceLE, Int.reduceToNat, Nat.reduceLT, Nat.reduceLeDiff, Int.reduceEq, Int.reduceNeg, IntKind.bits, Nat.reduceAdd, Nat.reduceMul, Nat.reducePow, Int.reducePow, ini, F_ref18_findr0_W, F_ref18_findr1_W, F_ref18_findr2_W, F_ref18_findr4_W, F_ref18_findr5_W, F_ref18_findr3_W, F_ref18_findl0_W, F_ref18_findr6_W, F_ref18_findc_W, e4]
    rfl
  · simp only [fws, cond_true, cond_false, if_true, if_false, unV, isNil, optI, iV, stepI, evalR, reduceIte, reduceCtorEq, Nat.reduceEqDiff, Int.reduceLT, Int.reduceLE, Int.reduceToNat, Nat.reduceLT, Nat.reduceLeDiff, Int.reduceEq, Int.reduceNeg, IntKind.bits, Nat.reduceAdd, Nat.reduceMul, Nat.reducePow, Int.reducePow, ini, F_ref18_findr0_W, F_ref18_findr1_W, F_ref18_findr2_W, F_ref18_findr4_W, F_ref18_findr5_W, F_ref18_findr3_W, F_ref18_findl0_W, F_ref18_findr6_W, F_ref18_findc_W, hq]
    rfl
/-! ### a cut at two signs -/
def cut2V (l : List UInt8) : Value := match cut2 l with
  | some (a, b) => .tuple #[strV a, strV b, .bool true]
  | none => .tuple #[strV l, strV [], .bool false]
theorem f_index2 (t : LF T) (l : List UInt8) (hl : l.length ≤ 100000000) : FnV T 41 [strV l, strV opL] (.int .i64 (Go.Lib.index l opL)) := by
  refine FnV_nat rfl t.index ?_ rfl
  rw [t.nat]
  have hb : Nat.blt l.length 4294967281 = true := by simp [Nat.blt]; omega
  show (bif Nat.blt l.length 4294967281 then some (Value.int .i64 (Go.Lib.index l opL)) else none) = _
  rw [hb]; rfl
theorem f_cut20 (t : LF T) (l : List UInt8) (hl : l.length ≤ 100000000) : FnV T 26 [strV l, strV opL] (cut2V l) := by
  refine FnV_of rfl ?_
  rw [Ev_fn t.cut0 rfl]
  have c1 := f_index2 t l hl
  unfold cut2V
  cases hc : cut2 l with
  | some x =>
    obtain ⟨a, b⟩ := x
    obtain ⟨i1, i2⟩ := cut2_yes hc
    rw [i1] at c1
    have hlen : l.length = a.length + (b.length + 2) := by rw [i2]; simp
    have q1 : (0 : Int) ≤ (a.length : Nat) := by omega
    have w1 : IntKind.i64.wrap ((a.length : Int) + 2) = ((a.length + 2 : Nat) : Int) := by rw [wrapI64 (by omega) (by omega)]; rfl
    have q2 : (a.length : Int) ≤ (l.length : Int) := by omega
    have q3 : ((a.length + 2 : Nat) : Int) ≤ (l.length : Int) := by omega
    have q4 : (0 : Int) ≤ ((a.length + 2 : Nat) : Int) := by omega
    have tk : l.take a.length = a := by rw [i2]; simp
    have td : (l.drop (a.length + 2)).take (l.length - (a.length + 2)) = b := by
      have : l.drop (a.length + 2) = b := by
        conv => lhs; rw [i2]
        rw [List.drop_append, List.drop_of_length_le (by omega)]
        have : a.length + 2 - a.length = 2 := by omega
        rw [this]
        rfl
      rw [this, List.take_of_length_le (by omega)]
    simp only [F_internal_stringslite_Cut, fws, cond_true, cond_false, if_true, if_false, unV, isNil, optI, iV, stepI, evalR, reduceIte, reduceCtorEq, Nat.reduceEqDiff, Int.reduceLT, Int.reduceLE, Int.reduceToNat, Nat.reduceLT, Nat.reduceLeDiff, Int.reduceEq, Int.reduceNeg, IntKind.bits, Nat.reduceAdd, Nat.reduceMul, Nat.reducePow, Int.reducePow, ini, fwh, lk, cellsAt, tagOf, spotOf, rdN, spl, fillL, zr, fwi, F_internal_stringslite_Cutr0_W, F_internal_stringslite_Cutr1_W, F_internal_stringslite_Cutr2_W, F_internal_stringslite_Cutr3_W, F_internal_stringslite_Cutr4_W, F_internal_stringslite_Cutc_W, CC_of c1, q1, w1, lenI_str, q2, q3, q4, true_and, and_self, Nat.sub_zero, tk, td, Int.le_refl]
    rfl
  | none =>
    rw [cut2_no hc] at c1
    have q1 : ¬ (0 : Int) ≤ -1 := by decide
    simp only [F_internal_stringslite_Cut, fws, cond_true, cond_false, if_true, if_false, unV, isNil, optI, iV, stepI, evalR, reduceIte, reduceCtorEq, Nat.reduceEqDiff, Int.reduceLT, Int.reduceLE, Int.reduceToNat, Nat.reduceLT, Nat.reduceLeDiff, Int.reduceEq, Int.reduceNeg, IntKind.bits, Nat.reduceAdd, Nat.reduceMul, Nat.reducePow, Int.reducePow, ini, fwh, lk, cellsAt, tagOf, spotOf, rdN, spl, fillL, zr, fwi, F_internal_stringslite_Cutr0_W, F_internal_stringslite_Cutr1_W, F_internal_stringslite_Cutr2_W, F_internal_stringslite_Cutr3_W, F_internal_stringslite_Cutr4_W, F_internal_stringslite_Cutc_W, CC_of c1, q1]
    rfl
theorem f_cut2 (t : LF T) (l : List UInt8) (hl : l.length ≤ 100000000) : FnV T 15 [strV l, strV opL] (cut2V l) := by
  refine FnV_of rfl ?_
  rw [Ev_fn t.cut rfl]
  have c1 := f_cut20 t l hl
  unfold cut2V at c1 ⊢
  cases hc : cut2 l with
  | some x =>
    obtain ⟨a, b⟩ := x
    rw [hc] at c1
    simp only [F_strings_Cut, fws, cond_true, cond_false, if_true, if_false, unV, isNil, optI, iV, stepI, evalR, reduceIte, reduceCtorEq, Nat.reduceEqDiff, Int.reduceLT, Int.reduceLE, Int.reduceToNat, Nat.reduceLT, Nat.reduceLeDiff, Int.reduceEq, Int.reduceNeg, IntKind.bits, Nat.reduceAdd, Nat.reduceMul, Nat.reducePow, Int.reducePow, ini, fwh, lk, cellsAt, tagOf, spotOf, rdN, spl, fillL, zr, fwi, F_strings_Cutr0_W, F_strings_Cutr1_W, F_strings_Cutc_W, CC_of c1]
    rfl
  | none =>
    rw [hc] at c1
    simp only [F_strings_Cut, fws, cond_true, cond_false, if_true, if_false, unV, isNil, optI, iV, stepI, evalR, reduceIte, reduceCtorEq, Nat.reduceEqDiff, Int.reduceLT, Int.reduceLE, Int.reduceToNat, Nat.reduceLT, Nat.reduceLeDiff, Int.reduceEq, Int.reduceNeg, IntKind.bits, Nat.reduceAdd, Nat.reduceMul, Nat.reducePow, Int.reducePow, ini, fwh, lk, cellsAt, tagOf, spotOf, rdN, spl, fillL, zr, fwi, F_strings_Cutr0_W, F_strings_Cutr1_W, F_strings_Cutc_W, CC_of c1]
    rfl
end
end Go.Proofs.YtbhoaiacnoiocaaDoor
/- The program's Expand. -/
namespace Go.Proofs.YtbhoaiacnoiocaaDoor
open Go Fw
set_option linter.unusedSimpArgs false
set_option linter.unusedVariables false
set_option linter.unusedSectionVars false

section
variable {T : Tab}
def exV : Option (List UInt8) → Value
  | some v => .tuple #[strV v, .int .i64 0]
  | none => .tuple #[strV [], .int .i64 192]
structure EF (T : Tab) : Prop where
  lf : LF T
  bf : BF T
  text : T 22 = some F_num_Text
  exp : T 12 = some F_conf_Expand
theorem bhX_le (r : List UInt8) : (bhX r).length ≤ r.length := bhX_len r
theorem cutV_125 {b : List UInt8} : cutV b 125 = if 125 ∈ b then .tuple #[strV (nmX b), strV (bhX b), .bool true] else .tuple #[strV b, strV [], .bool false] := rfl
def EPost (o : Option (List UInt8)) : Post := fun x e h => x = .ret ∧ e 4 = strV (match o with | some v => v | none => []) ∧ e 5 = .int .i64 (match o with | some _ => 0 | none => 192)
theorem ex_none (t : EF T) {l acc : List UInt8} {H : Heap} {env : Env} {bb : Option Nat} (hc : cut2 l = none) (hl : l.length ≤ 4096) (ha : acc.length ≤ 1000000) (hB : Bd H 0 0 60 acc bb) (e0 : env 0 = strV l) (e6 : env 6 = ptrS 0 0) :
    W T (.loop F_conf_Expandl0) env H (Kp (EPost (some (acc ++ l)))) := by
  have hTB : TBs.any (fun T => decide (uT 60 = uT T)) = true := by decide
  have c1 := f_cut2 t.lf l (by omega)
  unfold cut2V at c1
  rw [hc] at c1
  simp only [] at c1
  have cw := ev_WriteString t.bf (s := l) hB hTB (by omega)
  rw [w_loop]
  simp only [fws, cond_true, cond_false, if_true, if_false, unV, isNil, optI, iV, stepI, evalR, reduceIte, reduceCtorEq, Nat.reduceEqDiff, Int.reduceLT, Int.reduceLE, Int.reduceToNat, Nat.reduceLT, Nat.reduceLeDiff, Int.reduceEq, Int.reduceNeg, IntKind.bits, Nat.reduceAdd, Nat.reduceMul, Nat.reducePow, Int.reducePow, ini, fwh, lk, cellsAt, tagOf, spotOf, rdN, spl, fillL, zr, fwi, F_conf_Expandr0_W, F_conf_Expandr1_W, F_conf_Expandr2_W, F_conf_Expandr3_W, F_conf_Expandr4_W, F_conf_Expandr5_W, F_conf_Expandr6_W, F_conf_Expandr8_W, F_conf_Expandr8_g1, F_conf_Expandr9_W, F_conf_Expandr10_W, F_conf_Expandr10_g1, F_conf_Expandr11_W, F_conf_Expandr7_W, F_conf_Expandr12_W, F_conf_Expandl0_W, F_conf_Expandc_W, e0, e6, CC_of c1]
  refine cw.mono fun v h ⟨hv, bb', hB', hF⟩ => ?_
  subst hv
  simp only [fws, cond_true, cond_false, if_true, if_false, unV, isNil, optI, iV, stepI, evalR, reduceIte, reduceCtorEq, Nat.reduceEqDiff, Int.reduceLT, Int.reduceLE, Int.reduceToNat, Nat.reduceLT, Nat.reduceLeDiff, Int.reduceEq, Int.reduceNeg, IntKind.bits, Nat.reduceAdd, Nat.reduceMul, Nat.reducePow, Int.reducePow, ini, fwh, lk, cellsAt, tagOf, spotOf, rdN, spl, fillL, zr, fwi, F_conf_Expandr0_W, F_conf_Expandr1_W, F_conf_Expandr2_W, F_conf_Expandr3_W, F_conf_Expandr4_W, F_conf_Expandr5_W, F_conf_Expandr6_W, F_conf_Expandr8_W, F_conf_Expandr8_g1, F_conf_Expandr9_W, F_conf_Expandr10_W, F_conf_Expandr10_g1, F_conf_Expandr11_W, F_conf_Expandr7_W, F_conf_Expandr12_W, F_conf_Expandl0_W, F_conf_Expandc_W, e6]
  have cs := ev_String t.bf hB' (by rw [List.length_append]; omega)
  refine cs.mono fun v h' ⟨hv, _⟩ => ?_
  subst hv
  simp only [fws, cond_true, cond_false, if_true, if_false, unV, isNil, optI, iV, stepI, evalR, reduceIte, reduceCtorEq, Nat.reduceEqDiff, Int.reduceLT, Int.reduceLE, Int.reduceToNat, Nat.reduceLT, Nat.reduceLeDiff, Int.reduceEq, Int.reduceNeg, IntKind.bits, Nat.reduceAdd, Nat.reduceMul, Nat.reducePow, Int.reducePow, ini, fwh, lk, cellsAt, tagOf, spotOf, rdN, spl, fillL, zr, fwi, F_conf_Expandr0_W, F_conf_Expandr1_W, F_conf_Expandr2_W, F_conf_Expandr3_W, F_conf_Expandr4_W, F_conf_Expandr5_W, F_conf_Expandr6_W, F_conf_Expandr8_W, F_conf_Expandr8_g1, F_conf_Expandr9_W, F_conf_Expandr10_W, F_conf_Expandr10_g1, F_conf_Expandr11_W, F_conf_Expandr7_W, F_conf_Expandr12_W, F_conf_Expandl0_W, F_conf_Expandc_W]
  exact ⟨rfl, rfl, rfl⟩
theorem loop_Ex (t : EF T) (lev : Int) (hlev : lev ≤ 9223372036854775807) : ∀ (n : Nat) (l acc : List UInt8) (H : Heap) (env : Env) (bb : Option Nat), l.length ≤ n → n ≤ 4096 → acc.length + l.length * 20 ≤ 900000 → Bd H 0 0 60 acc bb →
    env 0 = strV l → env 1 = .int .i64 lev → env 6 = ptrS 0 0 → W T (.loop F_conf_Expandl0) env H (Kp (EPost ((exM (textF lev) l).map (acc ++ ·)))) := by
  have hTB : TBs.any (fun T => decide (uT 60 = uT T)) = true := by decide
  have htl := textF_len lev
  have ct := f_text t.text lev hlev
  intro n
  induction n with
  | zero =>
    intro l acc H env bb hl hn ha hB e0 e1 e6
    have hl0 : l = [] := List.eq_nil_of_length_eq_zero (by omega)
    subst hl0
    rw [exM_no rfl]
    exact ex_none t rfl (by simp) (by omega) hB e0 e6
  | succ n ih =>
    intro l acc H env bb hl hn ha hB e0 e1 e6
    cases hc : cut2 l with
    | none =>
      rw [exM_no hc]
      exact ex_none t hc (by omega) (by omega) hB e0 e6
    | some x =>
      obtain ⟨a, b⟩ := x
      have c1 := f_cut2 t.lf l (by omega)
      unfold cut2V at c1
      rw [hc] at c1
      simp only [] at c1
      obtain ⟨_, i2⟩ := cut2_yes hc
      have hlen : l.length = a.length + (b.length + 2) := by rw [i2]; simp
      have c2 := f_cut t.lf b (by omega) 125
      rw [cutV_125] at c2
      have cw := ev_WriteString t.bf (s := a) hB hTB (by omega)
      rw [exM_yes hc, exM_op, w_loop]
      simp only [fws, cond_true, cond_false, if_true, if_false, unV, isNil, optI, iV, stepI, evalR, reduceIte, reduceCtorEq, Nat.reduceEqDiff, Int.reduceLT, Int.reduceLE, Int.reduceToNat, Nat.reduceLT, Nat.reduceLeDiff, Int.reduceEq, Int.reduceNeg, IntKind.bits, Nat.reduceAdd, Nat.reduceMul, Nat.reducePow, Int.reducePow, ini, fwh, lk, cellsAt, tagOf, spotOf, rdN, spl, fillL, zr, fwi, F_conf_Expandr0_W, F_conf_Expandr1_W, F_conf_Expandr2_W, F_conf_Expandr3_W, F_conf_Expandr4_W, F_conf_Expandr5_W, F_conf_Expandr6_W, F_conf_Expandr8_W, F_conf_Expandr8_g1, F_conf_Expandr9_W, F_conf_Expandr10_W, F_conf_Expandr10_g1, F_conf_Expandr11_W, F_conf_Expandr7_W, F_conf_Expandr12_W, F_conf_Expandl0_W, F_conf_Expandc_W, e0, e6, CC_of c1]
      refine cw.mono fun v h ⟨hv, bb', hB', hF⟩ => ?_
      subst hv
      by_cases hm : 125 ∈ b
      · rw [if_pos hm] at c2 ⊢
        have hbl := bhX_le b
        by_cases h1 : nmX b = libN
        · rw [if_pos h1]
          rw [h1] at c2
          have d1 : strEq ⟨libN.toArray⟩ ⟨#[76, 73, 66]⟩ = true := rfl
          have cw2 := ev_WriteString t.bf (s := lib64) hB' hTB (by rw [List.length_append]; simp; omega)
          simp only [fws, cond_true, cond_false, if_true, if_false, unV, isNil, optI, iV, stepI, evalR, reduceIte, reduceCtorEq, Nat.reduceEqDiff, Int.reduceLT, Int.reduceLE, Int.reduceToNat, Nat.reduceLT, Nat.reduceLeDiff, Int.reduceEq, Int.reduceNeg, IntKind.bits, Nat.reduceAdd, Nat.reduceMul, Nat.reducePow, Int.reducePow, ini, fwh, lk, cellsAt, tagOf, spotOf, rdN, spl, fillL, zr, fwi, F_conf_Expandr0_W, F_conf_Expandr1_W, F_conf_Expandr2_W, F_conf_Expandr3_W, F_conf_Expandr4_W, F_conf_Expandr5_W, F_conf_Expandr6_W, F_conf_Expandr8_W, F_conf_Expandr8_g1, F_conf_Expandr9_W, F_conf_Expandr10_W, F_conf_Expandr10_g1, F_conf_Expandr11_W, F_conf_Expandr7_W, F_conf_Expandr12_W, F_conf_Expandl0_W, F_conf_Expandc_W, e6, CC_of c2, d1]
          refine cw2.mono fun v h2 ⟨hv, bb2, hB2, hF2⟩ => ?_
          subst hv
          simp only [fws, cond_true, cond_false, if_true, if_false, unV, isNil, optI, iV, stepI, evalR, reduceIte, reduceCtorEq, Nat.reduceEqDiff, Int.reduceLT, Int.reduceLE, Int.reduceToNat, Nat.reduceLT, Nat.reduceLeDiff, Int.reduceEq, Int.reduceNeg, IntKind.bits, Nat.reduceAdd, Nat.reduceMul, Nat.reducePow, Int.reducePow, ini, fwh, lk, cellsAt, tagOf, spotOf, rdN, spl, fillL, zr, fwi, F_conf_Expandr0_W, F_conf_Expandr1_W, F_conf_Expandr2_W, F_conf_Expandr3_W, F_conf_Expandr4_W, F_conf_Expandr5_W, F_conf_Expandr6_W, F_conf_Expandr8_W, F_conf_Expandr8_g1, F_conf_Expandr9_W, F_conf_Expandr10_W, F_conf_Expandr10_g1, F_conf_Expandr11_W, F_conf_Expandr7_W, F_conf_Expandr12_W, F_conf_Expandl0_W, F_conf_Expandc_W]
          refine W.mono (ih (bhX b) ((acc ++ a) ++ lib64) h2 _ bb2 (by omega) (by omega) (by simp only [List.length_append, List.length_cons, List.length_nil]; omega) hB2 ?_ ?_ ?_) fun x e h hq => ?_
          · (first | assumption | rfl)
          · (first | assumption | rfl)
          · (first | assumption | rfl)
          · have he : (((exM (textF lev) (bhX b)).map (fun x => 108 :: 105 :: 98 :: 54 :: 52 :: x)).map (a ++ ·)).map (acc ++ ·) = (exM (textF lev) (bhX b)).map (((acc ++ a) ++ lib64) ++ ·) := by
              cases exM (textF lev) (bhX b) <;> simp
            rw [he]
            exact hq
        · rw [if_neg h1]
          have d1 : strEq ⟨(nmX b).toArray⟩ ⟨#[76, 73, 66]⟩ = false := by
            have : (⟨#[76, 73, 66]⟩ : ByteArray) = ⟨libN.toArray⟩ := rfl
            rw [this, strEq_str]
            exact decide_eq_false h1
          by_cases h2 : nmX b = levN
          · rw [if_pos h2]
            rw [h2] at c2 d1
            have d2 : strEq ⟨levN.toArray⟩ ⟨#[76, 69, 86, 69, 76]⟩ = true := rfl
            have cw2 := ev_WriteString t.bf (s := textF lev) hB' hTB (by rw [List.length_append]; omega)
            simp only [fws, cond_true, cond_false, if_true, if_false, unV, isNil, optI, iV, stepI, evalR, reduceIte, reduceCtorEq, Nat.reduceEqDiff, Int.reduceLT, Int.reduceLE, Int.reduceToNat, Nat.reduceLT, Nat.reduceLeDiff, Int.reduceEq, Int.reduceNeg, IntKind.bits, Nat.reduceAdd, Nat.reduceMul, Nat.reducePow, Int.reducePow, ini, fwh, lk, cellsAt, tagOf, spotOf, rdN, spl, fillL, zr, fwi, F_conf_Expandr0_W, F_conf_Expandr1_W, F_conf_Expandr2_W, F_conf_Expandr3_W, F_conf_Expandr4_W, F_conf_Expandr5_W, F_conf_Expandr6_W, F_conf_Expandr8_W, F_conf_Expandr8_g1, F_conf_Expandr9_W, F_conf_Expandr10_W, F_conf_Expandr10_g1, F_conf_Expandr11_W, F_conf_Expandr7_W, F_conf_Expandr12_W, F_conf_Expandl0_W, F_conf_Expandc_W, e1, e6, CC_of c2, CC_of ct, d1, d2]
            refine cw2.mono fun v h2 ⟨hv, bb2, hB2, hF2⟩ => ?_
            subst hv
            simp only [fws, cond_true, cond_false, if_true, if_false, unV, isNil, optI, iV, stepI, evalR, reduceIte, reduceCtorEq, Nat.reduceEqDiff, Int.reduceLT, Int.reduceLE, Int.reduceToNat, Nat.reduceLT, Nat.reduceLeDiff, Int.reduceEq, Int.reduceNeg, IntKind.bits, Nat.reduceAdd, Nat.reduceMul, Nat.reducePow, Int.reducePow, ini, fwh, lk, cellsAt, tagOf, spotOf, rdN, spl, fillL, zr, fwi, F_conf_Expandr0_W, F_conf_Expandr1_W, F_conf_Expandr2_W, F_conf_Expandr3_W, F_conf_Expandr4_W, F_conf_Expandr5_W, F_conf_Expandr6_W, F_conf_Expandr8_W, F_conf_Expandr8_g1, F_conf_Expandr9_W, F_conf_Expandr10_W, F_conf_Expandr10_g1, F_conf_Expandr11_W, F_conf_Expandr7_W, F_conf_Expandr12_W, F_conf_Expandl0_W, F_conf_Expandc_W]
            refine W.mono (ih (bhX b) ((acc ++ a) ++ textF lev) h2 _ bb2 (by omega) (by omega) (by simp only [List.length_append]; omega) hB2 ?_ ?_ ?_) fun x e h hq => ?_
            · (first | assumption | rfl)
            · (first | assumption | rfl)
            · (first | assumption | rfl)
            · have he : (((exM (textF lev) (bhX b)).map (textF lev ++ ·)).map (a ++ ·)).map (acc ++ ·) = (exM (textF lev) (bhX b)).map (((acc ++ a) ++ textF lev) ++ ·) := by
                cases exM (textF lev) (bhX b) <;> simp
              rw [he]
              exact hq
          · rw [if_neg h2]
            have d2 : strEq ⟨(nmX b).toArray⟩ ⟨#[76, 69, 86, 69, 76]⟩ = false := by
              have : (⟨#[76, 69, 86, 69, 76]⟩ : ByteArray) = ⟨levN.toArray⟩ := rfl
              rw [this, strEq_str]
              exact decide_eq_false h2
            simp only [fws, cond_true, cond_false, if_true, if_false, unV, isNil, optI, iV, stepI, evalR, reduceIte, reduceCtorEq, Nat.reduceEqDiff, Int.reduceLT, Int.reduceLE, Int.reduceToNat, Nat.reduceLT, Nat.reduceLeDiff, Int.reduceEq, Int.reduceNeg, IntKind.bits, Nat.reduceAdd, Nat.reduceMul, Nat.reducePow, Int.reducePow, ini, fwh, lk, cellsAt, tagOf, spotOf, rdN, spl, fillL, zr, fwi, F_conf_Expandr0_W, F_conf_Expandr1_W, F_conf_Expandr2_W, F_conf_Expandr3_W, F_conf_Expandr4_W, F_conf_Expandr5_W, F_conf_Expandr6_W, F_conf_Expandr8_W, F_conf_Expandr8_g1, F_conf_Expandr9_W, F_conf_Expandr10_W, F_conf_Expandr10_g1, F_conf_Expandr11_W, F_conf_Expandr7_W, F_conf_Expandr12_W, F_conf_Expandl0_W, F_conf_Expandc_W, e1, e6, CC_of c2, d1, d2]
            exact ⟨rfl, rfl, rfl⟩
      · rw [if_neg hm] at c2 ⊢
        simp only [fws, cond_true, cond_false, if_true, if_false, unV, isNil, optI, iV, stepI, evalR, reduceIte, reduceCtorEq, Nat.reduceEqDiff, Int.reduceLT, Int.reduceLE, Int.reduceToNat, Nat.reduceLT, Nat.reduceLeDiff, Int.reduceEq, Int.reduceNeg, IntKind.bits, Nat.reduceAdd, Nat.reduceMul, Nat.reducePow, Int.reducePow, ini, fwh, lk, cellsAt, tagOf, spotOf, rdN, spl, fillL, zr, fwi, F_conf_Expandr0_W, F_conf_Expandr1_W, F_conf_Expandr2_W, F_conf_Expandr3_W, F_conf_Expandr4_W, F_conf_Expandr5_W, F_conf_Expandr6_W, F_conf_Expandr8_W, F_conf_Expandr8_g1, F_conf_Expandr9_W, F_conf_Expandr10_W, F_conf_Expandr10_g1, F_conf_Expandr11_W, F_conf_Expandr7_W, F_conf_Expandr12_W, F_conf_Expandl0_W, F_conf_Expandc_W, e1, e6, CC_of c2]
        exact ⟨rfl, rfl, rfl⟩
theorem f_Expand (t : EF T) (l : List UInt8) (hl : l.length ≤ 4096) (lev : Int) (hlev : lev ≤ 9223372036854775807) : FnV T 12 [strV l, .int .i64 lev] (exV (exM (textF lev) l)) := by
  refine FnV_of rfl ?_
  rw [Ev_fn t.exp rfl]
  simp only [F_conf_Expand, fws, cond_true, cond_false, if_true, if_false, unV, isNil, optI, iV, stepI, evalR, reduceIte, reduceCtorEq, Nat.reduceEqDiff, Int.reduceLT, Int.reduceLE, Int.reduceToNat, Nat.reduceLT, Nat.reduceLeDiff, Int.reduceEq, Int.reduceNeg, IntKind.bits, Nat.reduceAdd, Nat.reduceMul, Nat.reducePow, Int.reducePow, ini, fwh, lk, cellsAt, tagOf, spotOf, rdN, spl, fillL, zr, fwi, F_conf_Expandr0_W, F_conf_Expandr1_W, F_conf_Expandr2_W, F_conf_Expandr3_W, F_conf_Expandr4_W, F_conf_Expandr5_W, F_conf_Expandr6_W, F_conf_Expandr8_W, F_conf_Expandr8_g1, F_conf_Expandr9_W, F_conf_Expandr10_W, F_conf_Expandr10_g1, F_conf_Expandr11_W, F_conf_Expandr7_W, F_conf_Expandr12_W, F_conf_Expandc_W]
  refine W.mono (loop_Ex t lev hlev 4096 l [] _ _ none hl (Nat.le_refl _) (by simp only [List.length_nil]; omega) ⟨.pointer none, .slice none 0 0, rfl, .inl rfl, .inl ⟨rfl, rfl, rfl⟩⟩ ?_ ?_ ?_) fun x e h hq => ?_
  · (first | assumption | rfl)
  · (first | assumption | rfl)
  · (first | assumption | rfl)
  · obtain ⟨rfl, e4, e5⟩ := hq
    cases hx : exM (textF lev) l with
    | none =>
      rw [hx] at e4 e5
      simp only [Option.map_none] at e4 e5
      simp only [fws, cond_true, cond_false, if_true, if_false, unV, isNil, optI, iV, stepI, evalR, reduceIte, reduceCtorEq, Nat.reduceEqDiff, Int.reduceLT, Int.reduceLE, Int.reduceToNat, Nat.reduceLT, Nat.reduceLeDiff, Int.reduceEq, Int.reduceNeg, IntKind.bits, Nat.reduceAdd, Nat.reduceMul, Nat.reducePow, Int.reducePow, ini, F_conf_Expandr0_W, F_conf_Expandr1_W, F_conf_Expandr2_W, F_conf_Expandr3_W, F_conf_Expandr4_W, F_conf_Expandr5_W, F_conf_Expandr6_W, F_conf_Expandr8_W, F_conf_Expandr8_g1, F_conf_Expandr9_W, F_conf_Expandr10_W, F_conf_Expandr10_g1, F_conf_Expandr11_W, F_conf_Expandr7_W, F_conf_Expandr12_W, F_conf_Expandl0_W, F_conf_Expandc_W, e4, e5]
      rfl
    | some v =>
      rw [hx] at e4 e5
      simp only [Option.map_some, List.nil_append] at e4 e5
      simp only [fws, cond_true, cond_false, if_true, if_false, unV, isNil, optI, iV, stepI, evalR, reduceIte, reduceCtorEq, Nat.reduceEqDiff, Int.reduceLT, Int.reduceLE, Int.reduceToNat, Nat.reduceLT, Nat.reduceLeDiff, Int.reduceEq, Int.reduceNeg, IntKind.bits, Nat.reduceAdd, Nat.reduceMul, Nat.reducePow, Int.reducePow, ini, F_conf_Expandr0_W, F_conf_Expandr1_W, F_conf_Expandr2_W, F_conf_Expandr3_W, F_conf_Expandr4_W, F_conf_Expandr5_W, F_conf_Expandr6_W, F_conf_Expandr8_W, F_conf_Expandr8_g1, F_conf_Expandr9_W, F_conf_Expandr10_W, F_conf_Expandr10_g1, F_conf_Expandr11_W, F_conf_Expandr7_W, F_conf_Expandr12_W, F_conf_Expandl0_W, F_conf_Expandc_W, e4, e5]
      rfl
end
end Go.Proofs.YtbhoaiacnoiocaaDoor
/- The document's Expand. -/
namespace Go.Proofs.YtbhoaiacnoiocaaDoor
open Go Fw
set_option linter.unusedSimpArgs false
set_option linter.unusedVariables false
set_option linter.unusedSectionVars false

section
variable {T : Tab}
theorem u8i {c : UInt8} {k : Nat} (hk : k < 256) : ((c.toNat : Int) = (k : Int)) ↔ c = UInt8.ofNat k := by
  constructor
  · intro h
    apply UInt8.toNat_inj.1
    rw [UInt8.toNat_ofNat']
    omega
  · rintro rfl
    rw [UInt8.toNat_ofNat']
    omega
theorem drop_cons {L r : List UInt8} {i : Nat} {c : UInt8} (h : L.drop i = c :: r) : i < L.length ∧ L.getD i 0 = c ∧ L.drop (i + 1) = r ∧ L.length = i + (r.length + 1) := by
  have hl := congrArg List.length h
  rw [List.length_drop, List.length_cons] at hl
  have hi : i < L.length := by omega
  rw [List.drop_eq_getElem_cons hi] at h
  obtain ⟨h1, h2⟩ := List.cons.inj h
  exact ⟨hi, by rw [getD_at hi, h1], h2, by omega⟩
structure RF2 (T : Tab) : Prop where
  text : T 24 = some F_ref01_Text
  find : T 23 = some F_ref18_find
  exp : T 13 = some F_ref18_Expand
def EPostR (o : Option (List UInt8)) : Post := fun x e h => match o with
  | some v => x = .exit 0 ∧ e 6 = strV v
  | none => x = .ret ∧ e 4 = strV [] ∧ e 5 = .int .i64 192
set_option maxHeartbeats 2000000 in
theorem loop_ExR (t : RF2 T) (L : List UInt8) (hL : L.length ≤ 4096) (lev : Int) (hlev : lev ≤ 9223372036854775807) : ∀ (n i : Nat) (acc : List UInt8) (H : Heap) (env : Env), L.length ≤ i + n → i ≤ L.length → acc.length + (L.length - i) * 20 ≤ 900000 →
    env 0 = strV L → env 1 = .int .i64 lev → env 6 = strV acc → env 7 = .int .i64 i → W T (.loop F_ref18_Expandl0) env H (Kp (EPostR ((exM (textF lev) (L.drop i)).map (acc ++ ·)))) := by
  have htl := textF_len lev
  have ct := f_rtext t.text lev hlev
  have done : ∀ (acc : List UInt8) (H : Heap) (env : Env), env 0 = strV L → env 6 = strV acc → env 7 = .int .i64 L.length → W T (.loop F_ref18_Expandl0) env H (Kp (EPostR ((exM (textF lev) (L.drop L.length)).map (acc ++ ·)))) := fun acc H env e0 e6 e7 => by
    have q : ¬ ((L.length : Int) < L.length) := by omega
    rw [List.drop_length, exM_no rfl, w_loop]
    simp only [fws, cond_true, cond_false, if_true, if_false, unV, isNil, optI, iV, stepI, evalR, reduceIte, reduceCtorEq, Nat.reduceEqDiff, Int.reduceLT, Int.reduceLE, Int.reduceToNat, Nat.reduceLT, Nat.reduceLeDiff, Int.reduceEq, Int.reduceNeg, IntKind.bits, Nat.reduceAdd, Nat.reduceMul, Nat.reducePow, Int.reducePow, ini, fwi, F_ref18_Expandr0_W, F_ref18_Expandr1_W, F_ref18_Expandr2_W, F_ref18_Expandr3_W, F_ref18_Expandr4_W, F_ref18_Expandr4_g4, F_ref18_Expandr4_g11, F_ref18_Expandr5_W, F_ref18_Expandr6_W, F_ref18_Expandr7_W, F_ref18_Expandr8_W, F_ref18_Expandr9_W, F_ref18_Expandr10_W, F_ref18_Expandr12_W, F_ref18_Expandr13_W, F_ref18_Expandr14_W, F_ref18_Expandr15_W, F_ref18_Expandr11_W, F_ref18_Expandr16_W, F_ref18_Expandl0_W, F_ref18_Expandr17_W, F_ref18_Expandc_W, e0, e6, e7, lenI_str, q]
    rw [List.append_nil]
    exact ⟨rfl, e6⟩
  intro n
  induction n with
  | zero =>
    intro i acc H env hn hi ha e0 e1 e6 e7
    have : i = L.length := by omega
    subst this
    exact done acc H env e0 e6 e7
  | succ n ih =>
    intro i acc H env hn hi ha e0 e1 e6 e7
    cases hd : L.drop i with
    | nil =>
      have hl := congrArg List.length hd
      rw [List.length_drop, List.length_nil] at hl
      have : i = L.length := by omega
      subst this
      rw [← hd]
      exact done acc H env e0 e6 e7
    | cons c r =>
      obtain ⟨hi1, hg, hdr, hlen⟩ := drop_cons hd
      have q1 : ((i : Int) < L.length) := by omega
      have q2 : (0 : Int) ≤ i := by omega
      have w1 : IntKind.i64.wrap ((i : Int) + 1) = ((i + 1 : Nat) : Int) := by rw [wrapI64 (by omega) (by omega)]; rfl
      have copy : ∀ env' : Env, env' 0 = strV L → env' 1 = .int .i64 lev → env' 6 = strV (acc ++ [c]) → env' 7 = .int .i64 ((i + 1 : Nat) : Int) → ¬ (c = 36 ∧ r.head? = some 123) →
          W T (.loop F_ref18_Expandl0) env' H (Kp (EPostR ((exM (textF lev) (c :: r)).map (acc ++ ·)))) := fun env' v0 v1 v6 v7 hno => by
        have he : (exM (textF lev) (c :: r)).map (acc ++ ·) = (exM (textF lev) (L.drop (i + 1))).map ((acc ++ [c]) ++ ·) := by
          rw [hdr, exM, if_neg hno]
          cases exM (textF lev) r <;> simp
        rw [he]
        exact ih (i + 1) (acc ++ [c]) H env' (by omega) (by omega) (by simp only [List.length_append, List.length_cons, List.length_nil]; omega) v0 v1 v6 v7
      have tk1 : (L.drop i).take (i + 1 - i) = [c] := by rw [hd]; have : i + 1 - i = 1 := by omega
                                                         rw [this]; rfl
      rw [hd] at tk1
      have q5 : (0 : Int) ≤ ((i + 1 : Nat) : Int) := by omega
      have q6 : ((i : Int) ≤ ((i + 1 : Nat) : Int)) := by omega
      have q7 : (((i + 1 : Nat) : Int) ≤ (L.length : Int)) := by omega
      have z1 : acc.length + 1 ≤ 9223372036854775807 := by omega
      by_cases h1 : c = 36
      · have d1 : decide (((c.toNat : Nat) : Int) = 36) = true := decide_eq_true ((u8i (k := 36) (by decide)).2 h1)
        cases r with
        | nil =>
          have d2 : decide (((i + 1 : Nat) : Int) = L.length) = true := decide_eq_true (by simp only [List.length_nil] at hlen; omega)
          rw [w_loop]
          simp only [fws, cond_true, cond_false, if_true, if_false, unV, isNil, optI, iV, stepI, evalR, reduceIte, reduceCtorEq, Nat.reduceEqDiff, Int.reduceLT, Int.reduceLE, Int.reduceToNat, Nat.reduceLT, Nat.reduceLeDiff, Int.reduceEq, Int.reduceNeg, IntKind.bits, Nat.reduceAdd, Nat.reduceMul, Nat.reducePow, Int.reducePow, ini, fwh, lk, cellsAt, tagOf, spotOf, rdN, spl, fillL, zr, fwi, F_ref18_Expandr0_W, F_ref18_Expandr1_W, F_ref18_Expandr2_W, F_ref18_Expandr3_W, F_ref18_Expandr4_W, F_ref18_Expandr4_g4, F_ref18_Expandr4_g11, F_ref18_Expandr5_W, F_ref18_Expandr6_W, F_ref18_Expandr7_W, F_ref18_Expandr8_W, F_ref18_Expandr9_W, F_ref18_Expandr10_W, F_ref18_Expandr12_W, F_ref18_Expandr13_W, F_ref18_Expandr14_W, F_ref18_Expandr15_W, F_ref18_Expandr11_W, F_ref18_Expandr16_W, F_ref18_Expandl0_W, F_ref18_Expandr17_W, F_ref18_Expandc_W, e0, e1, e6, e7, lenI_str, q1, q2, w1, hg, d1, d2, hd, tk1, q5, q6, q7, z1, and_self]
          exact copy _ (by (first | assumption | rfl)) (by (first | assumption | rfl)) (by (first | assumption | rfl)) (by (first | assumption | rfl)) (by simp)
        | cons d b =>
          obtain ⟨hi2, hg2, hdr2, hlen2⟩ := drop_cons hdr
          have d2 : decide (((i + 1 : Nat) : Int) = L.length) = false := decide_eq_false (by simp only [List.length_cons] at hlen; omega)
          have q8 : (((i + 1 : Nat) : Int) < (L.length : Int)) := by omega
          by_cases h2 : d = 123
          · have d3 : decide (((d.toNat : Nat) : Int) = 123) = true := decide_eq_true ((u8i (k := 123) (by decide)).2 h2)
            subst h1 h2
            have c3 := f_find t.find (36 :: 123 :: b) (by simp only [List.length_cons] at hlen ⊢; omega) 125
            have c3 : FnV T 23 [strV (36 :: 123 :: b), .int .u8 125] (.int .i64 (idxB (36 :: 123 :: b) 125)) := c3
            have td : (36 :: 123 :: b).take (L.length - i) = 36 :: 123 :: b := List.take_of_length_le (by simp only [List.length_cons] at hlen ⊢; omega)
            have q9 : ((i : Int) ≤ (L.length : Int)) := by omega
            rw [exM_op]
            by_cases hm : 125 ∈ b
            · rw [if_pos hm]
              have hm2 : (125 : UInt8) ∈ (36 :: 123 :: b) := by simp [hm]
              obtain ⟨k1, k2, k3⟩ := idxB_yes hm2
              have htw : (36 :: 123 :: b).takeWhile (· != (125 : UInt8)) = 36 :: 123 :: nmX b := rfl
              rw [htw] at k1 k2 k3
              simp only [List.length_cons] at k1 k2 k3
              rw [k1] at c3
              have hnl : (nmX b).length < b.length := by omega
              have q10 : ¬ ((((nmX b).length + 1 + 1 : Nat) : Int) < 0) := by omega
              have w3 : IntKind.i64.wrap ((i : Int) + 2) = ((i + 2 : Nat) : Int) := by rw [wrapI64 (by omega) (by omega)]; rfl
              have w4 : IntKind.i64.wrap ((i : Int) + (((nmX b).length + 1 + 1 : Nat) : Int)) = ((i + ((nmX b).length + 1 + 1) : Nat) : Int) := by rw [wrapI64 (by omega) (by omega)]; rfl
              have q11 : (0 : Int) ≤ ((i + 2 : Nat) : Int) := by omega
              have q12 : (((i + 2 : Nat) : Int) ≤ ((i + ((nmX b).length + 1 + 1) : Nat) : Int)) := by omega
              have q13 : (((i + ((nmX b).length + 1 + 1) : Nat) : Int) ≤ (L.length : Int)) := by simp only [List.length_cons] at hlen; omega
              have hdb : L.drop (i + 2) = b := hdr2
              have htn : b.take (i + ((nmX b).length + 1 + 1) - (i + 2)) = nmX b := by
                have : i + ((nmX b).length + 1 + 1) - (i + 2) = (nmX b).length := by omega
                rw [this]
                exact (List.prefix_iff_eq_take.1 (List.takeWhile_prefix _)).symm
              have w5 : IntKind.i64.wrap ((((nmX b).length + 1 + 1 : Nat) : Int) + 1) = (((nmX b).length + 3 : Nat) : Int) := by rw [wrapI64 (by omega) (by omega)]; rfl
              have w6 : IntKind.i64.wrap ((i : Int) + (((nmX b).length + 3 : Nat) : Int)) = ((i + ((nmX b).length + 3) : Nat) : Int) := by rw [wrapI64 (by omega) (by omega)]; rfl
              have hdn : L.drop (i + ((nmX b).length + 3)) = bhX b := by
                have h5 : i + ((nmX b).length + 3) = (i + 2) + ((nmX b).length + 1) := by omega
                rw [h5, ← List.drop_drop, hdb]
                rfl
              have next : ∀ (s : List UInt8) (env' : Env), s.length ≤ 20 → env' 0 = strV L → env' 1 = .int .i64 lev → env' 6 = strV (acc ++ s) → env' 7 = .int .i64 ((i + ((nmX b).length + 3) : Nat) : Int) →
                  W T (.loop F_ref18_Expandl0) env' H (Kp (EPostR (((exM (textF lev) (bhX b)).map (s ++ ·)).map (acc ++ ·)))) := fun s env' hs v0 v1 v6 v7 => by
                have he : ((exM (textF lev) (bhX b)).map (s ++ ·)).map (acc ++ ·) = (exM (textF lev) (L.drop (i + ((nmX b).length + 3)))).map ((acc ++ s) ++ ·) := by
                  rw [hdn]
                  cases exM (textF lev) (bhX b) <;> simp
                rw [he]
                simp only [List.length_cons] at hlen
                exact ih _ (acc ++ s) H env' (by omega) (by omega) (by simp only [List.length_append]; omega) v0 v1 v6 v7
              have nmx : ∀ (s : List UInt8) (h : nmX b = s) (x : ByteArray), x = ⟨s.toArray⟩ → strEq ⟨(nmX b).toArray⟩ x = true := fun s h x hx => by
                rw [h, hx, strEq_str]; exact decide_eq_true rfl
              have nmn : ∀ (s : List UInt8) (h : ¬ nmX b = s) (x : ByteArray), x = ⟨s.toArray⟩ → strEq ⟨(nmX b).toArray⟩ x = false := fun s h x hx => by
                rw [hx, strEq_str]; exact decide_eq_false h
              have z2 : acc.length + 5 ≤ 9223372036854775807 := by omega
              have z3 : acc.length + (textF lev).length ≤ 9223372036854775807 := by omega
              by_cases h3 : nmX b = libN
              · rw [if_pos h3]
                have d4 := nmx libN h3 ⟨#[76, 73, 66]⟩ rfl
                rw [w_loop]
                simp only [fws, cond_true, cond_false, if_true, if_false, unV, isNil, optI, iV, stepI, evalR, reduceIte, reduceCtorEq, Nat.reduceEqDiff, Int.reduceLT, Int.reduceLE, Int.reduceToNat, Nat.reduceLT, Nat.reduceLeDiff, Int.reduceEq, Int.reduceNeg, IntKind.bits, Nat.reduceAdd, Nat.reduceMul, Nat.reducePow, Int.reducePow, ini, fwh, lk, cellsAt, tagOf, spotOf, rdN, spl, fillL, zr, fwi, F_ref18_Expandr0_W, F_ref18_Expandr1_W, F_ref18_Expandr2_W, F_ref18_Expandr3_W, F_ref18_Expandr4_W, F_ref18_Expandr4_g4, F_ref18_Expandr4_g11, F_ref18_Expandr5_W, F_ref18_Expandr6_W, F_ref18_Expandr7_W, F_ref18_Expandr8_W, F_ref18_Expandr9_W, F_ref18_Expandr10_W, F_ref18_Expandr12_W, F_ref18_Expandr13_W, F_ref18_Expandr14_W, F_ref18_Expandr15_W, F_ref18_Expandr11_W, F_ref18_Expandr16_W, F_ref18_Expandl0_W, F_ref18_Expandr17_W, F_ref18_Expandc_W, e0, e1, e6, e7, lenI_str, q1, q2, w1, hg, hg2, d1, d2, d3, hd, q5, q8, td, q9, and_self, Int.le_refl, CC_of c3, q10, w3, w4, q11, q12, q13, hdb, htn, d4, z2, w5, w6]
                exact next lib64 _ (by decide) (by (first | assumption | rfl)) (by (first | assumption | rfl)) (by (first | assumption | rfl)) (by (first | assumption | rfl))
              · rw [if_neg h3]
                have d4 := nmn libN h3 ⟨#[76, 73, 66]⟩ rfl
                by_cases h4 : nmX b = levN
                · rw [if_pos h4]
                  have d5 := nmx levN h4 ⟨#[76, 69, 86, 69, 76]⟩ rfl
                  rw [w_loop]
                  simp only [fws, cond_true, cond_false, if_true, if_false, unV, isNil, optI, iV, stepI, evalR, reduceIte, reduceCtorEq, Nat.reduceEqDiff, Int.reduceLT, Int.reduceLE, Int.reduceToNat, Nat.reduceLT, Nat.reduceLeDiff, Int.reduceEq, Int.reduceNeg, IntKind.bits, Nat.reduceAdd, Nat.reduceMul, Nat.reducePow, Int.reducePow, ini, fwh, lk, cellsAt, tagOf, spotOf, rdN, spl, fillL, zr, fwi, F_ref18_Expandr0_W, F_ref18_Expandr1_W, F_ref18_Expandr2_W, F_ref18_Expandr3_W, F_ref18_Expandr4_W, F_ref18_Expandr4_g4, F_ref18_Expandr4_g11, F_ref18_Expandr5_W, F_ref18_Expandr6_W, F_ref18_Expandr7_W, F_ref18_Expandr8_W, F_ref18_Expandr9_W, F_ref18_Expandr10_W, F_ref18_Expandr12_W, F_ref18_Expandr13_W, F_ref18_Expandr14_W, F_ref18_Expandr15_W, F_ref18_Expandr11_W, F_ref18_Expandr16_W, F_ref18_Expandl0_W, F_ref18_Expandr17_W, F_ref18_Expandc_W, e0, e1, e6, e7, lenI_str, q1, q2, w1, hg, hg2, d1, d2, d3, hd, q5, q8, td, q9, and_self, Int.le_refl, CC_of c3, CC_of ct, q10, w3, w4, q11, q12, q13, hdb, htn, d4, d5, z3, w5, w6]
                  exact next (textF lev) _ htl (by (first | assumption | rfl)) (by (first | assumption | rfl)) (by (first | assumption | rfl)) (by (first | assumption | rfl))
                · rw [if_neg h4]
                  have d5 := nmn levN h4 ⟨#[76, 69, 86, 69, 76]⟩ rfl
                  rw [w_loop]
                  simp only [fws, cond_true, cond_false, if_true, if_false, unV, isNil, optI, iV, stepI, evalR, reduceIte, reduceCtorEq, Nat.reduceEqDiff, Int.reduceLT, Int.reduceLE, Int.reduceToNat, Nat.reduceLT, Nat.reduceLeDiff, Int.reduceEq, Int.reduceNeg, IntKind.bits, Nat.reduceAdd, Nat.reduceMul, Nat.reducePow, Int.reducePow, ini, fwh, lk, cellsAt, tagOf, spotOf, rdN, spl, fillL, zr, fwi, F_ref18_Expandr0_W, F_ref18_Expandr1_W, F_ref18_Expandr2_W, F_ref18_Expandr3_W, F_ref18_Expandr4_W, F_ref18_Expandr4_g4, F_ref18_Expandr4_g11, F_ref18_Expandr5_W, F_ref18_Expandr6_W, F_ref18_Expandr7_W, F_ref18_Expandr8_W, F_ref18_Expandr9_W, F_ref18_Expandr10_W, F_ref18_Expandr12_W, F_ref18_Expandr13_W, F_ref18_Expandr14_W, F_ref18_Expandr15_W, F_ref18_Expandr11_W, F_ref18_Expandr16_W, F_ref18_Expandl0_W, F_ref18_Expandr17_W, F_ref18_Expandc_W, e0, e1, e6, e7, lenI_str, q1, q2, w1, hg, hg2, d1, d2, d3, hd, q5, q8, td, q9, and_self, Int.le_refl, CC_of c3, CC_of ct, q10, w3, w4, q11, q12, q13, hdb, htn, d4, d5, w5, w6]
                  exact ⟨rfl, rfl, rfl⟩
            · rw [if_neg hm]
              have hm2 : ¬ (125 : UInt8) ∈ (36 :: 123 :: b) := by simp [hm]
              rw [idxB_no hm2] at c3
              have q10 : ((-1 : Int) < 0) := by decide
              rw [w_loop]
              simp only [fws, cond_true, cond_false, if_true, if_false, unV, isNil, optI, iV, stepI, evalR, reduceIte, reduceCtorEq, Nat.reduceEqDiff, Int.reduceLT, Int.reduceLE, Int.reduceToNat, Nat.reduceLT, Nat.reduceLeDiff, Int.reduceEq, Int.reduceNeg, IntKind.bits, Nat.reduceAdd, Nat.reduceMul, Nat.reducePow, Int.reducePow, ini, fwh, lk, cellsAt, tagOf, spotOf, rdN, spl, fillL, zr, fwi, F_ref18_Expandr0_W, F_ref18_Expandr1_W, F_ref18_Expandr2_W, F_ref18_Expandr3_W, F_ref18_Expandr4_W, F_ref18_Expandr4_g4, F_ref18_Expandr4_g11, F_ref18_Expandr5_W, F_ref18_Expandr6_W, F_ref18_Expandr7_W, F_ref18_Expandr8_W, F_ref18_Expandr9_W, F_ref18_Expandr10_W, F_ref18_Expandr12_W, F_ref18_Expandr13_W, F_ref18_Expandr14_W, F_ref18_Expandr15_W, F_ref18_Expandr11_W, F_ref18_Expandr16_W, F_ref18_Expandl0_W, F_ref18_Expandr17_W, F_ref18_Expandc_W, e0, e1, e6, e7, lenI_str, q1, q2, w1, hg, hg2, d1, d2, d3, hd, q5, q8, td, q9, and_self, Int.le_refl, CC_of c3, q10]
              exact ⟨rfl, rfl, rfl⟩
          · have d3 : decide (((d.toNat : Nat) : Int) = 123) = false := decide_eq_false fun h => h2 ((u8i (k := 123) (by decide)).1 h)
            rw [w_loop]
            simp only [fws, cond_true, cond_false, if_true, if_false, unV, isNil, optI, iV, stepI, evalR, reduceIte, reduceCtorEq, Nat.reduceEqDiff, Int.reduceLT, Int.reduceLE, Int.reduceToNat, Nat.reduceLT, Nat.reduceLeDiff, Int.reduceEq, Int.reduceNeg, IntKind.bits, Nat.reduceAdd, Nat.reduceMul, Nat.reducePow, Int.reducePow, ini, fwh, lk, cellsAt, tagOf, spotOf, rdN, spl, fillL, zr, fwi, F_ref18_Expandr0_W, F_ref18_Expandr1_W, F_ref18_Expandr2_W, F_ref18_Expandr3_W, F_ref18_Expandr4_W, F_ref18_Expandr4_g4, F_ref18_Expandr4_g11, F_ref18_Expandr5_W, F_ref18_Expandr6_W, F_ref18_Expandr7_W, F_ref18_Expandr8_W, F_ref18_Expandr9_W, F_ref18_Expandr10_W, F_ref18_Expandr12_W, F_ref18_Expandr13_W, F_ref18_Expandr14_W, F_ref18_Expandr15_W, F_ref18_Expandr11_W, F_ref18_Expandr16_W, F_ref18_Expandl0_W, F_ref18_Expandr17_W, F_ref18_Expandc_W, e0, e1, e6, e7, lenI_str, q1, q2, w1, hg, hg2, d1, d2, d3, hd, tk1, q5, q6, q7, q8, z1, and_self]
            exact copy _ (by (first | assumption | rfl)) (by (first | assumption | rfl)) (by (first | assumption | rfl)) (by (first | assumption | rfl)) (by simp [h2])
      · have d1 : decide (((c.toNat : Nat) : Int) = 36) = false := decide_eq_false fun h => h1 ((u8i (k := 36) (by decide)).1 h)
        rw [w_loop]
        simp only [fws, cond_true, cond_false, if_true, if_false, unV, isNil, optI, iV, stepI, evalR, reduceIte, reduceCtorEq, Nat.reduceEqDiff, Int.reduceLT, Int.reduceLE, Int.reduceToNat, Nat.reduceLT, Nat.reduceLeDiff, Int.reduceEq, Int.reduceNeg, IntKind.bits, Nat.reduceAdd, Nat.reduceMul, Nat.reducePow, Int.reducePow, ini, fwh, lk, cellsAt, tagOf, spotOf, rdN, spl, fillL, zr, fwi, F_ref18_Expandr0_W, F_ref18_Expandr1_W, F_ref18_Expandr2_W, F_ref18_Expandr3_W, F_ref18_Expandr4_W, F_ref18_Expandr4_g4, F_ref18_Expandr4_g11, F_ref18_Expandr5_W, F_ref18_Expandr6_W, F_ref18_Expandr7_W, F_ref18_Expandr8_W, F_ref18_Expandr9_W, F_ref18_Expandr10_W, F_ref18_Expandr12_W, F_ref18_Expandr13_W, F_ref18_Expandr14_W, F_ref18_Expandr15_W, F_ref18_Expandr11_W, F_ref18_Expandr16_W, F_ref18_Expandl0_W, F_ref18_Expandr17_W, F_ref18_Expandc_W, e0, e1, e6, e7, lenI_str, q1, q2, w1, hg, d1, hd, tk1, q5, q6, q7, z1, and_self]
        exact copy _ (by (first | assumption | rfl)) (by (first | assumption | rfl)) (by (first | assumption | rfl)) (by (first | assumption | rfl)) (by simp [h1])
theorem f_ExpandR (t : RF2 T) (l : List UInt8) (hl : l.length ≤ 4096) (lev : Int) (hlev : lev ≤ 9223372036854775807) : FnV T 13 [strV l, .int .i64 lev] (exV (exM (textF lev) l)) := by
  refine FnV_of rfl ?_
  rw [Ev_fn t.exp rfl]
  simp only [F_ref18_Expand, fws, cond_true, cond_false, if_true, if_false, unV, isNil, optI, iV, stepI, evalR, reduceIte, reduceCtorEq, Nat.reduceEqDiff, Int.reduceLT, Int.reduceLE, Int.reduceToNat, Nat.reduceLT, Nat.reduceLeDiff, Int.reduceEq, Int.reduceNeg, IntKind.bits, Nat.reduceAdd, Nat.reduceMul, Nat.reducePow, Int.reducePow, ini, fwh, lk, cellsAt, tagOf, spotOf, rdN, spl, fillL, zr, fwi, F_ref18_Expandr0_W, F_ref18_Expandr1_W, F_ref18_Expandr2_W, F_ref18_Expandr3_W, F_ref18_Expandr4_W, F_ref18_Expandr4_g4, F_ref18_Expandr4_g11, F_ref18_Expandr5_W, F_ref18_Expandr6_W, F_ref18_Expandr7_W, F_ref18_Expandr8_W, F_ref18_Expandr9_W, F_ref18_Expandr10_W, F_ref18_Expandr12_W, F_ref18_Expandr13_W, F_ref18_Expandr14_W, F_ref18_Expandr15_W, F_ref18_Expandr11_W, F_ref18_Expandr16_W, F_ref18_Expandr17_W, F_ref18_Expandc_W]
  refine W.mono (loop_ExR t l hl lev hlev l.length 0 [] _ _ (by omega) (Nat.zero_le _) (by simp only [List.length_nil]; omega) ?_ ?_ ?_ ?_) fun x e h hq => ?_
  · (first | assumption | rfl)
  · (first | assumption | rfl)
  · (first | assumption | rfl)
  · (first | assumption | rfl)
  · rw [List.drop_zero] at hq
    cases hx : exM (textF lev) l with
    | none =>
      rw [hx] at hq
      obtain ⟨rfl, e4, e5⟩ := hq
      simp only [fws, cond_true, cond_false, if_true, if_false, unV, isNil, optI, iV, stepI, evalR, reduceIte, reduceCtorEq, Nat.reduceEqDiff, Int.reduceLT, Int.reduceLE, Int.reduceToNat, Nat.reduceLT, Nat.reduceLeDiff, Int.reduceEq, Int.reduceNeg, IntKind.bits, Nat.reduceAdd, Nat.reduceMul, Nat.reducePow, Int.reducePow, ini, F_ref18_Expandr0_W, F_ref18_Expandr1_W, F_ref18_Expandr2_W, F_ref18_Expandr3_W, F_ref18_Expandr4_W, F_ref18_Expandr4_g4, F_ref18_Expandr4_g11, F_ref18_Expandr5_W, F_ref18_Expandr6_W, F_ref18_Expandr7_W, F_ref18_Expandr8_W, F_ref18_Expandr9_W, F_ref18_Expandr10_W, F_ref18_Expandr12_W, F_ref18_Expandr13_W, F_ref18_Expandr14_W, F_ref18_Expandr15_W, F_ref18_Expandr11_W, F_ref18_Expandr16_W, F_ref18_Expandl0_W, F_ref18_Expandr17_W, F_ref18_Expandc_W, e4, e5]
      rfl
    | some v =>
      rw [hx] at hq
      obtain ⟨rfl, e6⟩ := hq
      simp only [fws, cond_true, cond_false, if_true, if_false, unV, isNil, optI, iV, stepI, evalR, reduceIte, reduceCtorEq, Nat.reduceEqDiff, Int.reduceLT, Int.reduceLE, Int.reduceToNat, Nat.reduceLT, Nat.reduceLeDiff, Int.reduceEq, Int.reduceNeg, IntKind.bits, Nat.reduceAdd, Nat.reduceMul, Nat.reducePow, Int.reducePow, ini, F_ref18_Expandr0_W, F_ref18_Expandr1_W, F_ref18_Expandr2_W, F_ref18_Expandr3_W, F_ref18_Expandr4_W, F_ref18_Expandr4_g4, F_ref18_Expandr4_g11, F_ref18_Expandr5_W, F_ref18_Expandr6_W, F_ref18_Expandr7_W, F_ref18_Expandr8_W, F_ref18_Expandr9_W, F_ref18_Expandr10_W, F_ref18_Expandr12_W, F_ref18_Expandr13_W, F_ref18_Expandr14_W, F_ref18_Expandr15_W, F_ref18_Expandr11_W, F_ref18_Expandr16_W, F_ref18_Expandl0_W, F_ref18_Expandr17_W, F_ref18_Expandc_W, e6]
      rfl
end
end Go.Proofs.YtbhoaiacnoiocaaDoor
/- ConfExpands. -/
namespace Go.Proofs.YtbhoaiacnoiocaaDoor
open Go Fw
set_option linter.unusedSimpArgs false
set_option linter.unusedVariables false
set_option linter.unusedSectionVars false

section
variable {T : Tab}
theorem law_ConfExpands (a : EF T) (b : RF2 T) (ca : FnV T 9 [] (.bool true)) (hlaw : T 5 = some F_law18_ConfExpands) (s : List UInt8) (lev : Int) (hlev : lev ≤ 9223372036854775807) : Ev T 5 [strV s, .int .i64 lev] [] fun u h => u = .bool true := by
  rw [Ev_fn hlaw rfl]
  by_cases hl : s.length ≤ 4096
  · have q : ¬ ((4096 : Int) < s.length) := by omega
    have c1 := f_Expand a s hl lev hlev
    have c2 := f_ExpandR b s hl lev hlev
    cases hx : exM (textF lev) s with
    | none =>
      rw [hx] at c1 c2
      simp only [exV] at c1 c2
      have d1 : decide (([] : List UInt8) = []) = true := rfl
      have d2 : decide ((192 : Int) = 192) = true := rfl
      simp only [F_law18_ConfExpands, fws, cond_true, cond_false, if_true, if_false, unV, isNil, optI, iV, stepI, evalR, reduceIte, reduceCtorEq, Nat.reduceEqDiff, Int.reduceLT, Int.reduceLE, Int.reduceToNat, Nat.reduceLT, Nat.reduceLeDiff, Int.reduceEq, Int.reduceNeg, IntKind.bits, Nat.reduceAdd, Nat.reduceMul, Nat.reducePow, Int.reducePow, ini, fwh, lk, cellsAt, tagOf, spotOf, rdN, spl, fillL, zr, fwi, F_law18_ConfExpandsr0_W, F_law18_ConfExpandsr1_W, F_law18_ConfExpandsr2_W, F_law18_ConfExpandsr3_W, F_law18_ConfExpandsr4_W, F_law18_ConfExpandsr5_W, F_law18_ConfExpandsr5_g3, F_law18_ConfExpandsr5_g8, F_law18_ConfExpandsc_W, lenI_str, q, CC_of c1, CC_of c2, CC_of ca, d1, d2]
    | some v =>
      rw [hx] at c1 c2
      simp only [exV] at c1 c2
      have d1 : decide (v = v) = true := decide_eq_true rfl
      have d2 : decide ((0 : Int) = 0) = true := rfl
      simp only [F_law18_ConfExpands, fws, cond_true, cond_false, if_true, if_false, unV, isNil, optI, iV, stepI, evalR, reduceIte, reduceCtorEq, Nat.reduceEqDiff, Int.reduceLT, Int.reduceLE, Int.reduceToNat, Nat.reduceLT, Nat.reduceLeDiff, Int.reduceEq, Int.reduceNeg, IntKind.bits, Nat.reduceAdd, Nat.reduceMul, Nat.reducePow, Int.reducePow, ini, fwh, lk, cellsAt, tagOf, spotOf, rdN, spl, fillL, zr, fwi, F_law18_ConfExpandsr0_W, F_law18_ConfExpandsr1_W, F_law18_ConfExpandsr2_W, F_law18_ConfExpandsr3_W, F_law18_ConfExpandsr4_W, F_law18_ConfExpandsr5_W, F_law18_ConfExpandsr5_g3, F_law18_ConfExpandsr5_g8, F_law18_ConfExpandsc_W, lenI_str, q, CC_of c1, CC_of c2, CC_of ca, d1, d2]
  · have q : ((4096 : Int) < s.length) := by omega
    simp only [F_law18_ConfExpands, fws, cond_true, cond_false, if_true, if_false, unV, isNil, optI, iV, stepI, evalR, reduceIte, reduceCtorEq, Nat.reduceEqDiff, Int.reduceLT, Int.reduceLE, Int.reduceToNat, Nat.reduceLT, Nat.reduceLeDiff, Int.reduceEq, Int.reduceNeg, IntKind.bits, Nat.reduceAdd, Nat.reduceMul, Nat.reducePow, Int.reducePow, ini, fwh, lk, cellsAt, tagOf, spotOf, rdN, spl, fillL, zr, fwi, F_law18_ConfExpandsr0_W, F_law18_ConfExpandsr1_W, F_law18_ConfExpandsr2_W, F_law18_ConfExpandsr3_W, F_law18_ConfExpandsr4_W, F_law18_ConfExpandsr5_W, F_law18_ConfExpandsr5_g3, F_law18_ConfExpandsr5_g8, F_law18_ConfExpandsc_W, lenI_str, q]
end
theorem ce_alive : FnV TCe 9 [] (.bool true) := FnV_run 200 rfl (by kernel_rfl)
theorem lf_e : LF TCe := by constructor <;> rfl
theorem ef_e : EF TCe := ⟨lf_e, ⟨rfl, rfl, rfl⟩, rfl, rfl⟩
theorem rf2_e : RF2 TCe := ⟨rfl, rfl, rfl⟩
theorem i64_le {n : Int} (h : (Lit.int .i64 n).wf = true) : n ≤ 9223372036854775807 := by
  simp [Lit.wf, IntKind.min, IntKind.max, IntKind.bits, IntKind.signed] at h
  omega
theorem expands_t (s : List UInt8) (lev : Int) (h : (Lit.int .i64 lev).wf = true) : Ev TCe 5 [strV s, .int .i64 lev] [] fun v _ => v = .bool true := law_ConfExpands ef_e rf2_e ce_alive rfl s lev (i64_le h)
end Go.Proofs.YtbhoaiacnoiocaaDoor
