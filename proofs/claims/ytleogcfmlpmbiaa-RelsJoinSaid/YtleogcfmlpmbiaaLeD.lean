/- Plain texts, texts at places; LeTexts. -/
import Derived.Laws.RangeAny
import Derived.Test.YtleogcfmlpmbiaaLeC
namespace Go.Proofs.Ytleogcfmlpmbiaa
open Go Fw
set_option linter.unusedSimpArgs false
set_option linter.unusedVariables false

def okc (c : UInt8) : Bool := decide (33 ≤ c.toNat) && decide (c.toNat ≤ 126)
def plain (l : List UInt8) : Bool := decide (l.length ≤ 64) && l.all okc
theorem lenI_str {H : Heap} {l : List UInt8} : lenI H 0 (strV l) = some (.int .i64 l.length, H) := rfl
theorem nxt_low {l : List UInt8} {i : Nat} (h : i < l.length) (hc : l[i].toNat < 128) : nxtI [⟨0, .iter ⟨l.toArray⟩ i⟩] (.pointer (some ⟨0, 0, none⟩)) = some (.tuple #[.bool true, .int .i64 i, .int .i32 l[i].toNat], [⟨0, .iter ⟨l.toArray⟩ (i + 1)⟩]) := by
  have hs : i < (⟨l.toArray⟩ : ByteArray).size := h
  have hd := decode_ascii ⟨l.toArray⟩ i hs hc
  show (if i < (⟨l.toArray⟩ : ByteArray).size then some (Value.tuple #[.bool true, .int .i64 i, .int .i32 (Utf8.decode ⟨l.toArray⟩ i).1], [(⟨0, .iter ⟨l.toArray⟩ (i + (Utf8.decode ⟨l.toArray⟩ i).2)⟩ : Entry)]) else some (.tuple #[.bool false], [⟨0, .iter ⟨l.toArray⟩ i⟩])) = _
  rw [if_pos hs, hd]
  rfl
theorem nxt_high {l : List UInt8} {i : Nat} (h : i < l.length) (hc : 128 ≤ l[i].toNat) : ∃ (r : Int) (w : Nat), 128 ≤ r ∧ nxtI [⟨0, .iter ⟨l.toArray⟩ i⟩] (.pointer (some ⟨0, 0, none⟩)) = some (.tuple #[.bool true, .int .i64 i, .int .i32 r], [⟨0, .iter ⟨l.toArray⟩ w⟩]) := by
  have hs : i < (⟨l.toArray⟩ : ByteArray).size := h
  have hd := decode_high ⟨l.toArray⟩ i hs hc
  refine ⟨(Utf8.decode ⟨l.toArray⟩ i).1, i + (Utf8.decode ⟨l.toArray⟩ i).2, by have := hd.1; omega, ?_⟩
  show (if i < (⟨l.toArray⟩ : ByteArray).size then some (Value.tuple #[.bool true, .int .i64 i, .int .i32 (Utf8.decode ⟨l.toArray⟩ i).1], [(⟨0, .iter ⟨l.toArray⟩ (i + (Utf8.decode ⟨l.toArray⟩ i).2)⟩ : Entry)]) else some (.tuple #[.bool false], [⟨0, .iter ⟨l.toArray⟩ i⟩])) = _
  rw [if_pos hs]
theorem nxt_end {l : List UInt8} : nxtI [⟨0, .iter ⟨l.toArray⟩ l.length⟩] (.pointer (some ⟨0, 0, none⟩)) = some (.tuple #[.bool false], [⟨0, .iter ⟨l.toArray⟩ l.length⟩]) := by
  show (if l.length < (⟨l.toArray⟩ : ByteArray).size then some (Value.tuple #[.bool true, .int .i64 l.length, .int .i32 (Utf8.decode ⟨l.toArray⟩ l.length).1], [(⟨0, .iter ⟨l.toArray⟩ (l.length + (Utf8.decode ⟨l.toArray⟩ l.length).2)⟩ : Entry)]) else some (.tuple #[.bool false], [⟨0, .iter ⟨l.toArray⟩ l.length⟩])) = _
  rw [if_neg (show ¬ l.length < (⟨l.toArray⟩ : ByteArray).size from Nat.lt_irrefl l.length)]
theorem loop_le_Plain {T : Tab} (l : List UInt8) : ∀ (m i : Nat) (env : Env), i + m = l.length → env 9 = .pointer (some ⟨0, 0, none⟩) →
    W T (.loop F_le_Plainl0) env [⟨0, .iter ⟨l.toArray⟩ i⟩] fun x e h => if (l.drop i).all okc = true then x = .exit 0 else x = .ret ∧ e 2 = .bool false := by
  intro m
  induction m with
  | zero =>
    intro i env hi v9
    have : i = l.length := by omega
    subst this
    rw [w_loop, List.drop_length]
    simp only [fws, cond_true, cond_false, if_true, if_false, unV, isNil, optI, iV, stepI, evalR, reduceIte, reduceCtorEq, Nat.reduceEqDiff, Int.reduceLT, Int.reduceLE, Int.reduceToNat, Nat.reduceLT, Nat.reduceLeDiff, Int.reduceEq, Int.reduceNeg, IntKind.bits, Nat.reduceAdd, Nat.reduceMul, Nat.reducePow, Int.reducePow, ini, fwi, F_le_Plainr0_W, F_le_Plainr1_W, F_le_Plainr2_W, F_le_Plainr3_W, F_le_Plainr4_W, F_le_Plainr5_W, F_le_Plainr6_W, F_le_Plainr6_g2, F_le_Plainr7_W, F_le_Plainl0_W, F_le_Plainr8_W, F_le_Plainc_W, v9, nxt_end, List.toList_toArray, List.getElem?_cons_zero, List.all_nil]
  | succ m ih =>
    intro i env hi v9
    have hix : i < l.length := by omega
    have hd : (l.drop i).all okc = (okc l[i] && (l.drop (i + 1)).all okc) := by rw [List.drop_eq_getElem_cons hix]; rfl
    rw [hd, w_loop]
    by_cases h128 : l[i].toNat < 128
    · by_cases h33 : l[i].toNat < 33
      · have q : (((l[i]).toNat : Int) < 33) := by omega
        have ho : okc l[i] = false := by unfold okc; simp; omega
        simp only [fws, cond_true, cond_false, if_true, if_false, unV, isNil, optI, iV, stepI, evalR, reduceIte, reduceCtorEq, Nat.reduceEqDiff, Int.reduceLT, Int.reduceLE, Int.reduceToNat, Nat.reduceLT, Nat.reduceLeDiff, Int.reduceEq, Int.reduceNeg, IntKind.bits, Nat.reduceAdd, Nat.reduceMul, Nat.reducePow, Int.reducePow, ini, fwi, F_le_Plainr0_W, F_le_Plainr1_W, F_le_Plainr2_W, F_le_Plainr3_W, F_le_Plainr4_W, F_le_Plainr5_W, F_le_Plainr6_W, F_le_Plainr6_g2, F_le_Plainr7_W, F_le_Plainl0_W, F_le_Plainr8_W, F_le_Plainc_W, v9, nxt_low hix h128, List.toList_toArray, List.getElem?_cons_zero, List.getElem?_cons_succ, q, ho, Bool.false_eq_true, if_false, and_self]
      · have q : ¬ (((l[i]).toNat : Int) < 33) := by omega
        by_cases h126 : 126 < l[i].toNat
        · have q2 : ((126 : Int) < (l[i]).toNat) := by omega
          have ho : okc l[i] = false := by unfold okc; simp; omega
          simp only [fws, cond_true, cond_false, if_true, if_false, unV, isNil, optI, iV, stepI, evalR, reduceIte, reduceCtorEq, Nat.reduceEqDiff, Int.reduceLT, Int.reduceLE, Int.reduceToNat, Nat.reduceLT, Nat.reduceLeDiff, Int.reduceEq, Int.reduceNeg, IntKind.bits, Nat.reduceAdd, Nat.reduceMul, Nat.reducePow, Int.reducePow, ini, fwi, F_le_Plainr0_W, F_le_Plainr1_W, F_le_Plainr2_W, F_le_Plainr3_W, F_le_Plainr4_W, F_le_Plainr5_W, F_le_Plainr6_W, F_le_Plainr6_g2, F_le_Plainr7_W, F_le_Plainl0_W, F_le_Plainr8_W, F_le_Plainc_W, v9, nxt_low hix h128, List.toList_toArray, List.getElem?_cons_zero, List.getElem?_cons_succ, q, q2, ho, Bool.false_eq_true, if_false, and_self]
        · have q2 : ¬ ((126 : Int) < (l[i]).toNat) := by omega
          have ho : okc l[i] = true := by unfold okc; simp; omega
          simp only [fws, cond_true, cond_false, if_true, if_false, unV, isNil, optI, iV, stepI, evalR, reduceIte, reduceCtorEq, Nat.reduceEqDiff, Int.reduceLT, Int.reduceLE, Int.reduceToNat, Nat.reduceLT, Nat.reduceLeDiff, Int.reduceEq, Int.reduceNeg, IntKind.bits, Nat.reduceAdd, Nat.reduceMul, Nat.reducePow, Int.reducePow, ini, fwi, F_le_Plainr0_W, F_le_Plainr1_W, F_le_Plainr2_W, F_le_Plainr3_W, F_le_Plainr4_W, F_le_Plainr5_W, F_le_Plainr6_W, F_le_Plainr6_g2, F_le_Plainr7_W, F_le_Plainl0_W, F_le_Plainr8_W, F_le_Plainc_W, v9, nxt_low hix h128, List.toList_toArray, List.getElem?_cons_zero, List.getElem?_cons_succ, q, q2, ho]
          refine ih (i + 1) _ (by omega) ?_
          (first | (simp only [fws, cond_true, cond_false, if_true, if_false, unV, isNil, optI, iV, stepI, evalR, reduceIte, reduceCtorEq, Nat.reduceEqDiff, Int.reduceLT, Int.reduceLE, Int.reduceToNat, Nat.reduceLT, Nat.reduceLeDiff, Int.reduceEq, Int.reduceNeg, IntKind.bits, Nat.reduceAdd, Nat.reduceMul, Nat.reducePow, Int.reducePow, ini, *]; done) | (simp only [fws, cond_true, cond_false, if_true, if_false, unV, isNil, optI, iV, stepI, evalR, reduceIte, reduceCtorEq, Nat.reduceEqDiff, Int.reduceLT, Int.reduceLE, Int.reduceToNat, Nat.reduceLT, Nat.reduceLeDiff, Int.reduceEq, Int.reduceNeg, IntKind.bits, Nat.reduceAdd, Nat.reduceMul, Nat.reducePow, Int.reducePow, ini]; rfl))
    · obtain ⟨r, w, hr, hn⟩ := nxt_high hix (by omega)
      have q : ¬ (r < 33) := by omega
      have q2 : ((126 : Int) < r) := by omega
      have ho : okc l[i] = false := by unfold okc; simp; omega
      simp only [fws, cond_true, cond_false, if_true, if_false, unV, isNil, optI, iV, stepI, evalR, reduceIte, reduceCtorEq, Nat.reduceEqDiff, Int.reduceLT, Int.reduceLE, Int.reduceToNat, Nat.reduceLT, Nat.reduceLeDiff, Int.reduceEq, Int.reduceNeg, IntKind.bits, Nat.reduceAdd, Nat.reduceMul, Nat.reducePow, Int.reducePow, ini, fwi, F_le_Plainr0_W, F_le_Plainr1_W, F_le_Plainr2_W, F_le_Plainr3_W, F_le_Plainr4_W, F_le_Plainr5_W, F_le_Plainr6_W, F_le_Plainr6_g2, F_le_Plainr7_W, F_le_Plainl0_W, F_le_Plainr8_W, F_le_Plainc_W, v9, hn, List.toList_toArray, List.getElem?_cons_zero, List.getElem?_cons_succ, q, q2, ho, Bool.false_eq_true, if_false, and_self]
theorem f_le_Plain {T : Tab} (h : T 17 = some F_le_Plain) (l : List UInt8) : FnV T 17 [strV l] (.bool (plain l)) := by
  refine FnV_of rfl ?_
  rw [Ev_fn h rfl]
  unfold plain
  by_cases hl : 64 < l.length
  · have q : ((64 : Int) < l.length) := by omega
    have hd : decide (l.length ≤ 64) = false := by simp; omega
    rw [hd]
    simp only [F_le_Plain, fws, cond_true, cond_false, if_true, if_false, unV, isNil, optI, iV, stepI, evalR, reduceIte, reduceCtorEq, Nat.reduceEqDiff, Int.reduceLT, Int.reduceLE, Int.reduceToNat, Nat.reduceLT, Nat.reduceLeDiff, Int.reduceEq, Int.reduceNeg, IntKind.bits, Nat.reduceAdd, Nat.reduceMul, Nat.reducePow, Int.reducePow, ini, fwi, F_le_Plainr0_W, F_le_Plainr1_W, F_le_Plainr2_W, F_le_Plainr3_W, F_le_Plainr4_W, F_le_Plainr5_W, F_le_Plainr6_W, F_le_Plainr6_g2, F_le_Plainr7_W, F_le_Plainl0_W, F_le_Plainr8_W, F_le_Plainc_W, lenI_str, q]
    rfl
  · have q : ¬ ((64 : Int) < l.length) := by omega
    have hd : decide (l.length ≤ 64) = true := by simp; omega
    rw [hd]
    simp only [F_le_Plain, fws, cond_true, cond_false, if_true, if_false, unV, isNil, optI, iV, stepI, evalR, reduceIte, reduceCtorEq, Nat.reduceEqDiff, Int.reduceLT, Int.reduceLE, Int.reduceToNat, Nat.reduceLT, Nat.reduceLeDiff, Int.reduceEq, Int.reduceNeg, IntKind.bits, Nat.reduceAdd, Nat.reduceMul, Nat.reducePow, Int.reducePow, ini, fwh, lk, cellsAt, tagOf, spotOf, rdN, spl, fillL, zr, fwi, F_le_Plainr0_W, F_le_Plainr1_W, F_le_Plainr2_W, F_le_Plainr3_W, F_le_Plainr4_W, F_le_Plainr5_W, F_le_Plainr6_W, F_le_Plainr6_g2, F_le_Plainr7_W, F_le_Plainl0_W, F_le_Plainr8_W, F_le_Plainc_W, lenI_str, q]
    refine W.mono (loop_le_Plain l l.length 0 _ (Nat.zero_add _) ?_) fun x e h hq => ?_
    · (first | (simp only [fws, cond_true, cond_false, if_true, if_false, unV, isNil, optI, iV, stepI, evalR, reduceIte, reduceCtorEq, Nat.reduceEqDiff, Int.reduceLT, Int.reduceLE, Int.reduceToNat, Nat.reduceLT, Nat.reduceLeDiff, Int.reduceEq, Int.reduceNeg, IntKind.bits, Nat.reduceAdd, Nat.reduceMul, Nat.reducePow, Int.reducePow, ini, *]; done) | (simp only [fws, cond_true, cond_false, if_true, if_false, unV, isNil, optI, iV, stepI, evalR, reduceIte, reduceCtorEq, Nat.reduceEqDiff, Int.reduceLT, Int.reduceLE, Int.reduceToNat, Nat.reduceLT, Nat.reduceLeDiff, Int.reduceEq, Int.reduceNeg, IntKind.bits, Nat.reduceAdd, Nat.reduceMul, Nat.reducePow, Int.reducePow, ini]; rfl))
    rw [List.drop_zero] at hq
    by_cases ha : l.all okc = true
    · rw [if_pos ha] at hq
      subst hq
      rw [ha]
      simp only [fws, cond_true, cond_false, if_true, if_false, unV, isNil, optI, iV, stepI, evalR, reduceIte, reduceCtorEq, Nat.reduceEqDiff, Int.reduceLT, Int.reduceLE, Int.reduceToNat, Nat.reduceLT, Nat.reduceLeDiff, Int.reduceEq, Int.reduceNeg, IntKind.bits, Nat.reduceAdd, Nat.reduceMul, Nat.reducePow, Int.reducePow, ini, F_le_Plainr0_W, F_le_Plainr1_W, F_le_Plainr2_W, F_le_Plainr3_W, F_le_Plainr4_W, F_le_Plainr5_W, F_le_Plainr6_W, F_le_Plainr6_g2, F_le_Plainr7_W, F_le_Plainl0_W, F_le_Plainr8_W, F_le_Plainc_W]
      exact frz_pure pure_bool
    · rw [if_neg ha] at hq
      obtain ⟨rfl, g⟩ := hq
      rw [Bool.eq_false_iff.2 ha]
      simp only [fws, cond_true, cond_false, if_true, if_false, unV, isNil, optI, iV, stepI, evalR, reduceIte, reduceCtorEq, Nat.reduceEqDiff, Int.reduceLT, Int.reduceLE, Int.reduceToNat, Nat.reduceLT, Nat.reduceLeDiff, Int.reduceEq, Int.reduceNeg, IntKind.bits, Nat.reduceAdd, Nat.reduceMul, Nat.reducePow, Int.reducePow, ini, F_le_Plainr0_W, F_le_Plainr1_W, F_le_Plainr2_W, F_le_Plainr3_W, F_le_Plainr4_W, F_le_Plainr5_W, F_le_Plainr6_W, F_le_Plainr6_g2, F_le_Plainr7_W, F_le_Plainl0_W, F_le_Plainr8_W, F_le_Plainc_W, g]
      exact frz_pure pure_bool
theorem loop_ref02_Plain {T : Tab} (l : List UInt8) (hl : l.length ≤ 100000) : ∀ (m i : Nat) (env : Env), i + m = l.length → env 0 = strV l → env 3 = .int .i64 i →
    W T (.loop F_ref02_Plainl0) env [] fun x e h => h = [] ∧ if (l.drop i).all okc = true then x = .exit 0 ∧ e 0 = strV l else x = .ret ∧ e 2 = .bool false := by
  intro m
  induction m with
  | zero =>
    intro i env hi v0 v3
    have h1 : ¬ ((i : Int) < l.length) := by omega
    rw [w_loop, List.drop_of_length_le (by omega)]
    simp only [fws, cond_true, cond_false, if_true, if_false, unV, isNil, optI, iV, stepI, evalR, reduceIte, reduceCtorEq, Nat.reduceEqDiff, Int.reduceLT, Int.reduceLE, Int.reduceToNat, Nat.reduceLT, Nat.reduceLeDiff, Int.reduceEq, Int.reduceNeg, IntKind.bits, Nat.reduceAdd, Nat.reduceMul, Nat.reducePow, Int.reducePow, ini, fwi, F_ref02_Plainr0_W, F_ref02_Plainr1_W, F_ref02_Plainr2_W, F_ref02_Plainr4_W, F_ref02_Plainr4_g4, F_ref02_Plainr5_W, F_ref02_Plainr3_W, F_ref02_Plainl0_W, F_ref02_Plainr6_W, F_ref02_Plainc_W, v0, v3, lenI_str, h1, List.all_nil, and_self]
  | succ m ih =>
    intro i env hi v0 v3
    have h1 : ((i : Int) < l.length) := by omega
    have hix : i < l.length := by omega
    have h0 : (0 : Int) ≤ i := Int.natCast_nonneg _
    have hget : l.getD i 0 = l[i] := by rw [List.getD_eq_getElem?_getD, List.getElem?_eq_getElem hix]; rfl
    have w2 : IntKind.i64.wrap ((i : Int) + 1) = ((i + 1 : Nat) : Int) := by rw [wrapI64 (by omega) (by omega)]; rfl
    have hd : (l.drop i).all okc = (okc l[i] && (l.drop (i + 1)).all okc) := by rw [List.drop_eq_getElem_cons hix]; rfl
    rw [hd, w_loop]
    by_cases h33 : l[i].toNat < 33
    · have q : (((l[i]).toNat : Int) < 33) := by omega
      have ho : okc l[i] = false := by unfold okc; simp; omega
      simp only [fws, cond_true, cond_false, if_true, if_false, unV, isNil, optI, iV, stepI, evalR, reduceIte, reduceCtorEq, Nat.reduceEqDiff, Int.reduceLT, Int.reduceLE, Int.reduceToNat, Nat.reduceLT, Nat.reduceLeDiff, Int.reduceEq, Int.reduceNeg, IntKind.bits, Nat.reduceAdd, Nat.reduceMul, Nat.reducePow, Int.reducePow, ini, fwi, F_ref02_Plainr0_W, F_ref02_Plainr1_W, F_ref02_Plainr2_W, F_ref02_Plainr4_W, F_ref02_Plainr4_g4, F_ref02_Plainr5_W, F_ref02_Plainr3_W, F_ref02_Plainl0_W, F_ref02_Plainr6_W, F_ref02_Plainc_W, v0, v3, lenI_str, h1, h0, hget, q, ho, Bool.false_eq_true, if_false, and_self]
    · have q : ¬ (((l[i]).toNat : Int) < 33) := by omega
      by_cases h126 : 126 < l[i].toNat
      · have q2 : ((126 : Int) < (l[i]).toNat) := by omega
        have ho : okc l[i] = false := by unfold okc; simp; omega
        simp only [fws, cond_true, cond_false, if_true, if_false, unV, isNil, optI, iV, stepI, evalR, reduceIte, reduceCtorEq, Nat.reduceEqDiff, Int.reduceLT, Int.reduceLE, Int.reduceToNat, Nat.reduceLT, Nat.reduceLeDiff, Int.reduceEq, Int.reduceNeg, IntKind.bits, Nat.reduceAdd, Nat.reduceMul, Nat.reducePow, Int.reducePow, ini, fwi, F_ref02_Plainr0_W, F_ref02_Plainr1_W, F_ref02_Plainr2_W, F_ref02_Plainr4_W, F_ref02_Plainr4_g4, F_ref02_Plainr5_W, F_ref02_Plainr3_W, F_ref02_Plainl0_W, F_ref02_Plainr6_W, F_ref02_Plainc_W, v0, v3, lenI_str, h1, h0, hget, q, q2, ho, Bool.false_eq_true, if_false, and_self]
      · have q2 : ¬ ((126 : Int) < (l[i]).toNat) := by omega
        have ho : okc l[i] = true := by unfold okc; simp; omega
        simp only [fws, cond_true, cond_false, if_true, if_false, unV, isNil, optI, iV, stepI, evalR, reduceIte, reduceCtorEq, Nat.reduceEqDiff, Int.reduceLT, Int.reduceLE, Int.reduceToNat, Nat.reduceLT, Nat.reduceLeDiff, Int.reduceEq, Int.reduceNeg, IntKind.bits, Nat.reduceAdd, Nat.reduceMul, Nat.reducePow, Int.reducePow, ini, fwi, F_ref02_Plainr0_W, F_ref02_Plainr1_W, F_ref02_Plainr2_W, F_ref02_Plainr4_W, F_ref02_Plainr4_g4, F_ref02_Plainr5_W, F_ref02_Plainr3_W, F_ref02_Plainl0_W, F_ref02_Plainr6_W, F_ref02_Plainc_W, v0, v3, lenI_str, h1, h0, hget, q, q2, ho, and_self, w2]
        refine ih (i + 1) _ (by omega) ?_ ?_
        all_goals (first | (simp only [fws, cond_true, cond_false, if_true, if_false, unV, isNil, optI, iV, stepI, evalR, reduceIte, reduceCtorEq, Nat.reduceEqDiff, Int.reduceLT, Int.reduceLE, Int.reduceToNat, Nat.reduceLT, Nat.reduceLeDiff, Int.reduceEq, Int.reduceNeg, IntKind.bits, Nat.reduceAdd, Nat.reduceMul, Nat.reducePow, Int.reducePow, ini, *]; done) | (simp only [fws, cond_true, cond_false, if_true, if_false, unV, isNil, optI, iV, stepI, evalR, reduceIte, reduceCtorEq, Nat.reduceEqDiff, Int.reduceLT, Int.reduceLE, Int.reduceToNat, Nat.reduceLT, Nat.reduceLeDiff, Int.reduceEq, Int.reduceNeg, IntKind.bits, Nat.reduceAdd, Nat.reduceMul, Nat.reducePow, Int.reducePow, ini]; rfl))
theorem f_ref02_Plain {T : Tab} (h : T 18 = some F_ref02_Plain) (l : List UInt8) (hl : l.length ≤ 100000) : FnV T 18 [strV l] (.bool (plain l)) := by
  refine FnV_of rfl ?_
  rw [Ev_fn h rfl]
  unfold plain
  simp only [F_ref02_Plain, fws, cond_true, cond_false, if_true, if_false, unV, isNil, optI, iV, stepI, evalR, reduceIte, reduceCtorEq, Nat.reduceEqDiff, Int.reduceLT, Int.reduceLE, Int.reduceToNat, Nat.reduceLT, Nat.reduceLeDiff, Int.reduceEq, Int.reduceNeg, IntKind.bits, Nat.reduceAdd, Nat.reduceMul, Nat.reducePow, Int.reducePow, ini, fwi, F_ref02_Plainr0_W, F_ref02_Plainr1_W, F_ref02_Plainr2_W, F_ref02_Plainr4_W, F_ref02_Plainr4_g4, F_ref02_Plainr5_W, F_ref02_Plainr3_W, F_ref02_Plainl0_W, F_ref02_Plainr6_W, F_ref02_Plainc_W]
  refine W.mono (loop_ref02_Plain l hl l.length 0 _ (Nat.zero_add _) ?_ ?_) fun x e h ⟨g0, hq⟩ => ?_
  · (first | (simp only [fws, cond_true, cond_false, if_true, if_false, unV, isNil, optI, iV, stepI, evalR, reduceIte, reduceCtorEq, Nat.reduceEqDiff, Int.reduceLT, Int.reduceLE, Int.reduceToNat, Nat.reduceLT, Nat.reduceLeDiff, Int.reduceEq, Int.reduceNeg, IntKind.bits, Nat.reduceAdd, Nat.reduceMul, Nat.reducePow, Int.reducePow, ini, *]; done) | (simp only [fws, cond_true, cond_false, if_true, if_false, unV, isNil, optI, iV, stepI, evalR, reduceIte, reduceCtorEq, Nat.reduceEqDiff, Int.reduceLT, Int.reduceLE, Int.reduceToNat, Nat.reduceLT, Nat.reduceLeDiff, Int.reduceEq, Int.reduceNeg, IntKind.bits, Nat.reduceAdd, Nat.reduceMul, Nat.reducePow, Int.reducePow, ini]; rfl))
  · (first | (simp only [fws, cond_true, cond_false, if_true, if_false, unV, isNil, optI, iV, stepI, evalR, reduceIte, reduceCtorEq, Nat.reduceEqDiff, Int.reduceLT, Int.reduceLE, Int.reduceToNat, Nat.reduceLT, Nat.reduceLeDiff, Int.reduceEq, Int.reduceNeg, IntKind.bits, Nat.reduceAdd, Nat.reduceMul, Nat.reducePow, Int.reducePow, ini, *]; done) | (simp only [fws, cond_true, cond_false, if_true, if_false, unV, isNil, optI, iV, stepI, evalR, reduceIte, reduceCtorEq, Nat.reduceEqDiff, Int.reduceLT, Int.reduceLE, Int.reduceToNat, Nat.reduceLT, Nat.reduceLeDiff, Int.reduceEq, Int.reduceNeg, IntKind.bits, Nat.reduceAdd, Nat.reduceMul, Nat.reducePow, Int.reducePow, ini]; rfl))
  subst g0
  rw [List.drop_zero] at hq
  by_cases ha : l.all okc = true
  · rw [if_pos ha] at hq
    obtain ⟨rfl, g⟩ := hq
    have e1 : decide ((l.length : Int) ≤ 64) = decide (l.length ≤ 64) := by
      by_cases h64 : l.length ≤ 64
      · have : ((l.length : Int) ≤ 64) := by omega
        simp [this, h64]
      · have : ¬ ((l.length : Int) ≤ 64) := by omega
        simp [this, h64]
    rw [ha]
    simp only [fws, cond_true, cond_false, if_true, if_false, unV, isNil, optI, iV, stepI, evalR, reduceIte, reduceCtorEq, Nat.reduceEqDiff, Int.reduceLT, Int.reduceLE, Int.reduceToNat, Nat.reduceLT, Nat.reduceLeDiff, Int.reduceEq, Int.reduceNeg, IntKind.bits, Nat.reduceAdd, Nat.reduceMul, Nat.reducePow, Int.reducePow, ini, fwi, F_ref02_Plainr0_W, F_ref02_Plainr1_W, F_ref02_Plainr2_W, F_ref02_Plainr4_W, F_ref02_Plainr4_g4, F_ref02_Plainr5_W, F_ref02_Plainr3_W, F_ref02_Plainl0_W, F_ref02_Plainr6_W, F_ref02_Plainc_W, g, lenI_str, e1]
    rfl
  · rw [if_neg ha] at hq
    obtain ⟨rfl, g⟩ := hq
    rw [Bool.eq_false_iff.2 ha, Bool.and_false]
    simp only [fws, cond_true, cond_false, if_true, if_false, unV, isNil, optI, iV, stepI, evalR, reduceIte, reduceCtorEq, Nat.reduceEqDiff, Int.reduceLT, Int.reduceLE, Int.reduceToNat, Nat.reduceLT, Nat.reduceLeDiff, Int.reduceEq, Int.reduceNeg, IntKind.bits, Nat.reduceAdd, Nat.reduceMul, Nat.reducePow, Int.reducePow, ini, F_ref02_Plainr0_W, F_ref02_Plainr1_W, F_ref02_Plainr2_W, F_ref02_Plainr4_W, F_ref02_Plainr4_g4, F_ref02_Plainr5_W, F_ref02_Plainr3_W, F_ref02_Plainl0_W, F_ref02_Plainr6_W, F_ref02_Plainc_W, g]
    rfl
end Go.Proofs.Ytleogcfmlpmbiaa
