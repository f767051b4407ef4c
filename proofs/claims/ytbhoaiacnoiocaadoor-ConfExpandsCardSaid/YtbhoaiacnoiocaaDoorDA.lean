/- The chapter's example, by the kernel. -/
import Derived.Test.YtbhoaiacnoiocaaDoorIrCf
import Derived.Test.YtbhoaiacnoiocaaDoorFwC
namespace Go.Proofs.YtbhoaiacnoiocaaDoor
open Go Fw
set_option linter.unusedSimpArgs false
set_option linter.unusedVariables false
set_option linter.unusedSectionVars false

theorem cf_alive : FnV TCf 9 [] (.bool true) := FnV_run 200 rfl (by kernel_rfl)
end Go.Proofs.YtbhoaiacnoiocaaDoor
/- Texts: cut, heads, tails. -/
namespace Go.Proofs.YtbhoaiacnoiocaaDoor
open Go Fw
set_option linter.unusedSimpArgs false
set_option linter.unusedVariables false
set_option linter.unusedSectionVars false

theorem Own.frzE {α : Type} {E : Enc α} {H : Heap} {v : Value} {l : List α} (h : Own E H v l) {k : Nat} (hk : E.d ≤ k) : ∃ o, lst o = l ∧ frz (k + 1) H v = some (slV E o) := by
  rcases h with ⟨rfl, rfl⟩ | ⟨b, tag, rfl, hH⟩
  · exact ⟨none, rfl, rfl⟩
  · have hlk : lk H ⟨b, 0, spotOf tag⟩ = some ⟨tag, .cells false E.u (E.cs l)⟩ := own_lk (tag := tag) (o := .cells false E.u (E.cs l)) hH
    refine ⟨some l, rfl, ?_⟩
    have h1 : pureV (k + 1) (own b tag l.length) = false := rfl
    simp only [frz, h1, cond_false]
    simp only [own, hlk, List.drop_zero, rdN_cs rfl, Option.bind_some]
    rw [mapM_pure (cs_pure' hk)]
    rfl
theorem FnV_ex {T : Tab} {f : Nat} {args : List Value} {X : Type} {P : X → Prop} {g : X → Value} (hp : args.all (pureV 6) = true) (h : Ev T f args [] fun u h => ∃ x, P x ∧ frz 8 h u = some (g x)) : ∃ x, P x ∧ FnV T f args (g x) := by
  obtain ⟨n, u, h', h1, x, hx, h2⟩ := h
  exact ⟨x, hx, hp, n, u, h', h1, h2⟩
/-- The library, and three functions that are answered by their contracts. -/
structure LF (T : Tab) : Prop where
  nat : T.nat = natCf
  index : T 41 = none
  count : T 39 = none
  join : T 49 = none
  idx : T 40 = some F_strings_Index
  cut0 : T 26 = some F_internal_stringslite_Cut
  cut : T 15 = some F_strings_Cut
  hs0 : T 43 = some F_internal_stringslite_HasSuffix
  hs : T 29 = some F_strings_HasSuffix
  hp0 : T 60 = some F_internal_stringslite_HasPrefix
  hp : T 50 = some F_strings_HasPrefix
  ts0 : T 44 = some F_internal_stringslite_TrimSuffix
  ts : T 30 = some F_strings_TrimSuffix
  cp0 : T 46 = some F_internal_stringslite_CutPrefix
  cp : T 33 = some F_strings_CutPrefix
  cs0 : T 59 = some F_internal_stringslite_CutSuffix
  cs : T 42 = some F_strings_CutSuffix
  gen : T 25 = some F_strings_genSplit
  split : T 14 = some F_strings_Split
theorem lenI_str {H : Heap} {l : List UInt8} : lenI H 0 (strV l) = some (.int .i64 l.length, H) := rfl
theorem idxB_no {l : List UInt8} {c : UInt8} (h : c ∉ l) : idxB l c = -1 := by
  unfold idxB
  induction l with
  | nil => rfl
  | cons b l ih =>
    have h1 : (b == c) = false := by simp; exact fun e => h (by simp [e])
    have h2 := ih fun hc => h (List.mem_cons_of_mem _ hc)
    simp [Go.Lib.indexByte, h1, h2]
theorem idxB_yes {l : List UInt8} {c : UInt8} (h : c ∈ l) : idxB l c = ((l.takeWhile (· != c)).length : Nat) ∧ (l.takeWhile (· != c)).length < l.length ∧ l.drop (l.takeWhile (· != c)).length = c :: l.drop ((l.takeWhile (· != c)).length + 1) := by
  unfold idxB
  induction l with
  | nil => cases h
  | cons b l ih =>
    by_cases hb : b = c
    · subst hb
      simp [Go.Lib.indexByte]
    · have h' : c ∈ l := by
        rcases List.mem_cons.1 h with h | h
        · exact absurd h.symm hb
        · exact h
      obtain ⟨i1, i2, i3⟩ := ih h'
      have h1 : (b == c) = false := by simp [hb]
      have h2 : ((b :: l).takeWhile (· != c)) = b :: l.takeWhile (· != c) := by simp [hb]
      rw [h2]
      refine ⟨?_, by simp; omega, by simp [i3]⟩
      simp only [Go.Lib.indexByte, h1]
      rw [i1]
      have : ¬ (((l.takeWhile (· != c)).length : Nat) : Int) = -1 := by omega
      simp [this]
section
variable {T : Tab} (t : LF T)
include t
theorem f_index (l : List UInt8) (c : UInt8) : FnV T 41 [strV l, strV [c]] (.int .i64 (idxB l c)) := by
  refine FnV_nat rfl t.index ?_ rfl
  rw [t.nat]; rfl
theorem f_count (l : List UInt8) (c : UInt8) : FnV T 39 [strV l, strV [c]] (.int .i64 (cntB l c)) := by
  refine FnV_nat rfl t.count ?_ rfl
  rw [t.nat]; rfl
theorem f_sindex (l : List UInt8) (c : UInt8) : FnV T 40 [strV l, strV [c]] (.int .i64 (idxB l c)) := by
  refine FnV_of rfl ?_
  rw [Ev_fn t.idx rfl]
  have c1 := f_index t l c
  simp only [F_strings_Index, fws, cond_true, cond_false, if_true, if_false, unV, isNil, optI, iV, stepI, evalR, reduceIte, reduceCtorEq, Nat.reduceEqDiff, Int.reduceLT, Int.reduceLE, Int.reduceToNat, Nat.reduceLT, Nat.reduceLeDiff, Int.reduceEq, Int.reduceNeg, IntKind.bits, Nat.reduceAdd, Nat.reduceMul, Nat.reducePow, Int.reducePow, ini, fwh, lk, cellsAt, tagOf, spotOf, rdN, spl, fillL, zr, fwi, F_strings_Indexr0_W, F_strings_Indexr1_W, F_strings_Indexc_W, CC_of c1]
  rfl
/-- A text, parted at the first such byte. -/
def cutV (l : List UInt8) (c : UInt8) : Value := if c ∈ l then .tuple #[strV (l.takeWhile (· != c)), strV (l.drop ((l.takeWhile (· != c)).length + 1)), .bool true] else .tuple #[strV l, strV [], .bool false]
theorem f_cut0 (l : List UInt8) (hl : l.length ≤ 100000000) (c : UInt8) : FnV T 26 [strV l, strV [c]] (cutV l c) := by
  refine FnV_of rfl ?_
  rw [Ev_fn t.cut0 rfl]
  have c1 := f_index t l c
  unfold cutV
  by_cases h : c ∈ l
  · obtain ⟨i1, i2, i3⟩ := idxB_yes h
    rw [i1] at c1
    rw [if_pos h]
    have q1 : (0 : Int) ≤ ((l.takeWhile (· != c)).length : Nat) := by omega
    have w1 : IntKind.i64.wrap (((l.takeWhile (· != c)).length : Int) + 1) = (((l.takeWhile (· != c)).length + 1 : Nat) : Int) := by rw [wrapI64 (by omega) (by omega)]; rfl
    generalize hn : (l.takeWhile (· != c)).length = n at *
    have q2 : (n : Int) ≤ (l.length : Int) := by omega
    have q3 : ((n + 1 : Nat) : Int) ≤ (l.length : Int) := by omega
    have q4 : (0 : Int) ≤ ((n + 1 : Nat) : Int) := by omega
    have tk : l.take n = l.takeWhile (· != c) := by
      rw [← hn]; exact (List.prefix_iff_eq_take.1 (List.takeWhile_prefix _)).symm
    have td : (l.drop (n + 1)).take (l.length - (n + 1)) = l.drop (n + 1) := List.take_of_length_le (by rw [List.length_drop]; exact Nat.le_refl _)
    simp only [F_internal_stringslite_Cut, fws, cond_true, cond_false, if_true, if_false, unV, isNil, optI, iV, stepI, evalR, reduceIte, reduceCtorEq, Nat.reduceEqDiff, Int.reduceLT, Int.reduceLE, Int.reduceToNat, Nat.reduceLT, Nat.reduceLeDiff, Int.reduceEq, Int.reduceNeg, IntKind.bits, Nat.reduceAdd, Nat.reduceMul, Nat.reducePow, Int.reducePow, ini, fwh, lk, cellsAt, tagOf, spotOf, rdN, spl, fillL, zr, fwi, F_internal_stringslite_Cutr0_W, F_internal_stringslite_Cutr1_W, F_internal_stringslite_Cutr2_W, F_internal_stringslite_Cutr3_W, F_internal_stringslite_Cutr4_W, F_internal_stringslite_Cutc_W, CC_of c1, q1, w1, lenI_str, q2, q3, q4, true_and, and_self, Nat.sub_zero, tk, td, Int.le_refl]
    rfl
  · rw [idxB_no h] at c1
    rw [if_neg h]
    have q1 : ¬ (0 : Int) ≤ -1 := by decide
    simp only [F_internal_stringslite_Cut, fws, cond_true, cond_false, if_true, if_false, unV, isNil, optI, iV, stepI, evalR, reduceIte, reduceCtorEq, Nat.reduceEqDiff, Int.reduceLT, Int.reduceLE, Int.reduceToNat, Nat.reduceLT, Nat.reduceLeDiff, Int.reduceEq, Int.reduceNeg, IntKind.bits, Nat.reduceAdd, Nat.reduceMul, Nat.reducePow, Int.reducePow, ini, fwh, lk, cellsAt, tagOf, spotOf, rdN, spl, fillL, zr, fwi, F_internal_stringslite_Cutr0_W, F_internal_stringslite_Cutr1_W, F_internal_stringslite_Cutr2_W, F_internal_stringslite_Cutr3_W, F_internal_stringslite_Cutr4_W, F_internal_stringslite_Cutc_W, CC_of c1, q1]
    rfl
theorem f_cut (l : List UInt8) (hl : l.length ≤ 100000000) (c : UInt8) : FnV T 15 [strV l, strV [c]] (cutV l c) := by
  refine FnV_of rfl ?_
  rw [Ev_fn t.cut rfl]
  have c1 := f_cut0 t l hl c
  unfold cutV at c1 ⊢
  by_cases h : c ∈ l
  · rw [if_pos h] at c1 ⊢
    simp only [F_strings_Cut, fws, cond_true, cond_false, if_true, if_false, unV, isNil, optI, iV, stepI, evalR, reduceIte, reduceCtorEq, Nat.reduceEqDiff, Int.reduceLT, Int.reduceLE, Int.reduceToNat, Nat.reduceLT, Nat.reduceLeDiff, Int.reduceEq, Int.reduceNeg, IntKind.bits, Nat.reduceAdd, Nat.reduceMul, Nat.reducePow, Int.reducePow, ini, fwh, lk, cellsAt, tagOf, spotOf, rdN, spl, fillL, zr, fwi, F_strings_Cutr0_W, F_strings_Cutr1_W, F_strings_Cutc_W, CC_of c1]
    rfl
  · rw [if_neg h] at c1 ⊢
    simp only [F_strings_Cut, fws, cond_true, cond_false, if_true, if_false, unV, isNil, optI, iV, stepI, evalR, reduceIte, reduceCtorEq, Nat.reduceEqDiff, Int.reduceLT, Int.reduceLE, Int.reduceToNat, Nat.reduceLT, Nat.reduceLeDiff, Int.reduceEq, Int.reduceNeg, IntKind.bits, Nat.reduceAdd, Nat.reduceMul, Nat.reducePow, Int.reducePow, ini, fwh, lk, cellsAt, tagOf, spotOf, rdN, spl, fillL, zr, fwi, F_strings_Cutr0_W, F_strings_Cutr1_W, F_strings_Cutc_W, CC_of c1]
    rfl
/-- Does a text end so? -/
def endsB (l m : List UInt8) : Bool := decide (m.length ≤ l.length) && decide (l.drop (l.length - m.length) = m)
def begB (l m : List UInt8) : Bool := decide (m.length ≤ l.length) && decide (l.take m.length = m)
theorem f_hs0 (l m : List UInt8) (hl : l.length ≤ 100000000) : FnV T 43 [strV l, strV m] (.bool (endsB l m)) := by
  refine FnV_of rfl ?_
  rw [Ev_fn t.hs0 rfl]
  unfold endsB
  by_cases h : m.length ≤ l.length
  · have q1 : ((m.length : Int) ≤ l.length) := by omega
    have w1 : IntKind.i64.wrap ((l.length : Int) - m.length) = ((l.length - m.length : Nat) : Int) := by rw [wrapI64 (by omega) (by omega)]; omega
    have q2 : (0 : Int) ≤ ((l.length - m.length : Nat) : Int) := by omega
    have q3 : ((l.length - m.length : Nat) : Int) ≤ l.length := by omega
    have td : (l.drop (l.length - m.length)).take (l.length - (l.length - m.length)) = l.drop (l.length - m.length) := List.take_of_length_le (by rw [List.length_drop]; exact Nat.le_refl _)
    simp only [F_internal_stringslite_HasSuffix, fws, cond_true, cond_false, if_true, if_false, unV, isNil, optI, iV, stepI, evalR, reduceIte, reduceCtorEq, Nat.reduceEqDiff, Int.reduceLT, Int.reduceLE, Int.reduceToNat, Nat.reduceLT, Nat.reduceLeDiff, Int.reduceEq, Int.reduceNeg, IntKind.bits, Nat.reduceAdd, Nat.reduceMul, Nat.reducePow, Int.reducePow, ini, fwh, lk, cellsAt, tagOf, spotOf, rdN, spl, fillL, zr, fwi, F_internal_stringslite_HasSuffixr0_W, F_internal_stringslite_HasSuffixr1_W, F_internal_stringslite_HasSuffixr1_g5, F_internal_stringslite_HasSuffixc_W, lenI_str, q1, w1, q2, q3, true_and, and_self, Int.le_refl, td, h]
    rfl
  · have q1 : ¬ ((m.length : Int) ≤ l.length) := by omega
    simp only [F_internal_stringslite_HasSuffix, fws, cond_true, cond_false, if_true, if_false, unV, isNil, optI, iV, stepI, evalR, reduceIte, reduceCtorEq, Nat.reduceEqDiff, Int.reduceLT, Int.reduceLE, Int.reduceToNat, Nat.reduceLT, Nat.reduceLeDiff, Int.reduceEq, Int.reduceNeg, IntKind.bits, Nat.reduceAdd, Nat.reduceMul, Nat.reducePow, Int.reducePow, ini, fwh, lk, cellsAt, tagOf, spotOf, rdN, spl, fillL, zr, fwi, F_internal_stringslite_HasSuffixr0_W, F_internal_stringslite_HasSuffixr1_W, F_internal_stringslite_HasSuffixr1_g5, F_internal_stringslite_HasSuffixc_W, lenI_str, q1, h]
    rfl
theorem f_hs (l m : List UInt8) (hl : l.length ≤ 100000000) : FnV T 29 [strV l, strV m] (.bool (endsB l m)) := by
  refine FnV_of rfl ?_
  rw [Ev_fn t.hs rfl]
  have c1 := f_hs0 t l m hl
  simp only [F_strings_HasSuffix, fws, cond_true, cond_false, if_true, if_false, unV, isNil, optI, iV, stepI, evalR, reduceIte, reduceCtorEq, Nat.reduceEqDiff, Int.reduceLT, Int.reduceLE, Int.reduceToNat, Nat.reduceLT, Nat.reduceLeDiff, Int.reduceEq, Int.reduceNeg, IntKind.bits, Nat.reduceAdd, Nat.reduceMul, Nat.reducePow, Int.reducePow, ini, fwh, lk, cellsAt, tagOf, spotOf, rdN, spl, fillL, zr, fwi, F_strings_HasSuffixr0_W, F_strings_HasSuffixr1_W, F_strings_HasSuffixc_W, CC_of c1]
  rfl
theorem f_hp0 (l m : List UInt8) (hl : l.length ≤ 100000000) : FnV T 60 [strV l, strV m] (.bool (begB l m)) := by
  refine FnV_of rfl ?_
  rw [Ev_fn t.hp0 rfl]
  unfold begB
  by_cases h : m.length ≤ l.length
  · have q1 : ((m.length : Int) ≤ l.length) := by omega
    have q2 : (0 : Int) ≤ ((m.length : Nat) : Int) := by omega
    simp only [F_internal_stringslite_HasPrefix, fws, cond_true, cond_false, if_true, if_false, unV, isNil, optI, iV, stepI, evalR, reduceIte, reduceCtorEq, Nat.reduceEqDiff, Int.reduceLT, Int.reduceLE, Int.reduceToNat, Nat.reduceLT, Nat.reduceLeDiff, Int.reduceEq, Int.reduceNeg, IntKind.bits, Nat.reduceAdd, Nat.reduceMul, Nat.reducePow, Int.reducePow, ini, fwh, lk, cellsAt, tagOf, spotOf, rdN, spl, fillL, zr, fwi, F_internal_stringslite_HasPrefixr0_W, F_internal_stringslite_HasPrefixr1_W, F_internal_stringslite_HasPrefixr1_g5, F_internal_stringslite_HasPrefixc_W, lenI_str, q1, q2, true_and, and_self, Int.le_refl, h, Nat.sub_zero]
    rfl
  · have q1 : ¬ ((m.length : Int) ≤ l.length) := by omega
    simp only [F_internal_stringslite_HasPrefix, fws, cond_true, cond_false, if_true, if_false, unV, isNil, optI, iV, stepI, evalR, reduceIte, reduceCtorEq, Nat.reduceEqDiff, Int.reduceLT, Int.reduceLE, Int.reduceToNat, Nat.reduceLT, Nat.reduceLeDiff, Int.reduceEq, Int.reduceNeg, IntKind.bits, Nat.reduceAdd, Nat.reduceMul, Nat.reducePow, Int.reducePow, ini, fwh, lk, cellsAt, tagOf, spotOf, rdN, spl, fillL, zr, fwi, F_internal_stringslite_HasPrefixr0_W, F_internal_stringslite_HasPrefixr1_W, F_internal_stringslite_HasPrefixr1_g5, F_internal_stringslite_HasPrefixc_W, lenI_str, q1, h]
    rfl
theorem f_hp (l m : List UInt8) (hl : l.length ≤ 100000000) : FnV T 50 [strV l, strV m] (.bool (begB l m)) := by
  refine FnV_of rfl ?_
  rw [Ev_fn t.hp rfl]
  have c1 := f_hp0 t l m hl
  simp only [F_strings_HasPrefix, fws, cond_true, cond_false, if_true, if_false, unV, isNil, optI, iV, stepI, evalR, reduceIte, reduceCtorEq, Nat.reduceEqDiff, Int.reduceLT, Int.reduceLE, Int.reduceToNat, Nat.reduceLT, Nat.reduceLeDiff, Int.reduceEq, Int.reduceNeg, IntKind.bits, Nat.reduceAdd, Nat.reduceMul, Nat.reducePow, Int.reducePow, ini, fwh, lk, cellsAt, tagOf, spotOf, rdN, spl, fillL, zr, fwi, F_strings_HasPrefixr0_W, F_strings_HasPrefixr1_W, F_strings_HasPrefixc_W, CC_of c1]
  rfl
omit t in
theorem endsB_le {l m : List UInt8} (h : endsB l m = true) : m.length ≤ l.length := by
  unfold endsB at h
  rw [Bool.and_eq_true, decide_eq_true_eq] at h
  exact h.1
omit t in
theorem begB_le {l m : List UInt8} (h : begB l m = true) : m.length ≤ l.length := by
  unfold begB at h
  rw [Bool.and_eq_true, decide_eq_true_eq] at h
  exact h.1
def trimS (l m : List UInt8) : List UInt8 := if endsB l m = true then l.take (l.length - m.length) else l
theorem f_ts0 (l m : List UInt8) (hl : l.length ≤ 100000000) : FnV T 44 [strV l, strV m] (strV (trimS l m)) := by
  refine FnV_of rfl ?_
  rw [Ev_fn t.ts0 rfl]
  have c1 := f_hs0 t l m hl
  unfold trimS
  cases h : endsB l m with
  | true =>
    have hle := endsB_le h
    rw [h] at c1
    have w1 : IntKind.i64.wrap ((l.length : Int) - m.length) = ((l.length - m.length : Nat) : Int) := by rw [wrapI64 (by omega) (by omega)]; omega
    have q2 : (0 : Int) ≤ ((l.length - m.length : Nat) : Int) := by omega
    have q3 : ((l.length - m.length : Nat) : Int) ≤ l.length := by omega
    simp only [F_internal_stringslite_TrimSuffix, fws, cond_true, cond_false, if_true, if_false, unV, isNil, optI, iV, stepI, evalR, reduceIte, reduceCtorEq, Nat.reduceEqDiff, Int.reduceLT, Int.reduceLE, Int.reduceToNat, Nat.reduceLT, Nat.reduceLeDiff, Int.reduceEq, Int.reduceNeg, IntKind.bits, Nat.reduceAdd, Nat.reduceMul, Nat.reducePow, Int.reducePow, ini, fwh, lk, cellsAt, tagOf, spotOf, rdN, spl, fillL, zr, fwi, F_internal_stringslite_TrimSuffixr0_W, F_internal_stringslite_TrimSuffixr1_W, F_internal_stringslite_TrimSuffixr2_W, F_internal_stringslite_TrimSuffixr3_W, F_internal_stringslite_TrimSuffixc_W, lenI_str, w1, q2, q3, true_and, and_self, Int.le_refl, CC_of c1, Nat.sub_zero, if_true]
    rfl
  | false =>
    rw [h] at c1
    simp only [F_internal_stringslite_TrimSuffix, fws, cond_true, cond_false, if_true, if_false, unV, isNil, optI, iV, stepI, evalR, reduceIte, reduceCtorEq, Nat.reduceEqDiff, Int.reduceLT, Int.reduceLE, Int.reduceToNat, Nat.reduceLT, Nat.reduceLeDiff, Int.reduceEq, Int.reduceNeg, IntKind.bits, Nat.reduceAdd, Nat.reduceMul, Nat.reducePow, Int.reducePow, ini, fwh, lk, cellsAt, tagOf, spotOf, rdN, spl, fillL, zr, fwi, F_internal_stringslite_TrimSuffixr0_W, F_internal_stringslite_TrimSuffixr1_W, F_internal_stringslite_TrimSuffixr2_W, F_internal_stringslite_TrimSuffixr3_W, F_internal_stringslite_TrimSuffixc_W, CC_of c1, Bool.false_eq_true, if_false]
    rfl
theorem f_ts (l m : List UInt8) (hl : l.length ≤ 100000000) : FnV T 30 [strV l, strV m] (strV (trimS l m)) := by
  refine FnV_of rfl ?_
  rw [Ev_fn t.ts rfl]
  have c1 := f_ts0 t l m hl
  simp only [F_strings_TrimSuffix, fws, cond_true, cond_false, if_true, if_false, unV, isNil, optI, iV, stepI, evalR, reduceIte, reduceCtorEq, Nat.reduceEqDiff, Int.reduceLT, Int.reduceLE, Int.reduceToNat, Nat.reduceLT, Nat.reduceLeDiff, Int.reduceEq, Int.reduceNeg, IntKind.bits, Nat.reduceAdd, Nat.reduceMul, Nat.reducePow, Int.reducePow, ini, fwh, lk, cellsAt, tagOf, spotOf, rdN, spl, fillL, zr, fwi, F_strings_TrimSuffixr0_W, F_strings_TrimSuffixr1_W, F_strings_TrimSuffixc_W, CC_of c1]
  rfl
def cpV (l m : List UInt8) : Value := if begB l m = true then .tuple #[strV (l.drop m.length), .bool true] else .tuple #[strV l, .bool false]
theorem f_cp0 (l m : List UInt8) (hl : l.length ≤ 100000000) : FnV T 46 [strV l, strV m] (cpV l m) := by
  refine FnV_of rfl ?_
  rw [Ev_fn t.cp0 rfl]
  have c1 := f_hp0 t l m hl
  unfold cpV
  cases h : begB l m with
  | true =>
    have hle := begB_le h
    rw [h] at c1
    have q2 : (0 : Int) ≤ ((m.length : Nat) : Int) := by omega
    have q3 : ((m.length : Nat) : Int) ≤ l.length := by omega
    have td : (l.drop m.length).take (l.length - m.length) = l.drop m.length := List.take_of_length_le (by rw [List.length_drop]; exact Nat.le_refl _)
    simp only [F_internal_stringslite_CutPrefix, fws, cond_true, cond_false, if_true, if_false, unV, isNil, optI, iV, stepI, evalR, reduceIte, reduceCtorEq, Nat.reduceEqDiff, Int.reduceLT, Int.reduceLE, Int.reduceToNat, Nat.reduceLT, Nat.reduceLeDiff, Int.reduceEq, Int.reduceNeg, IntKind.bits, Nat.reduceAdd, Nat.reduceMul, Nat.reducePow, Int.reducePow, ini, fwh, lk, cellsAt, tagOf, spotOf, rdN, spl, fillL, zr, fwi, F_internal_stringslite_CutPrefixr0_W, F_internal_stringslite_CutPrefixr1_W, F_internal_stringslite_CutPrefixr2_W, F_internal_stringslite_CutPrefixr3_W, F_internal_stringslite_CutPrefixc_W, lenI_str, q2, q3, true_and, and_self, Int.le_refl, CC_of c1, td, if_true]
    rfl
  | false =>
    rw [h] at c1
    simp only [F_internal_stringslite_CutPrefix, fws, cond_true, cond_false, if_true, if_false, unV, isNil, optI, iV, stepI, evalR, reduceIte, reduceCtorEq, Nat.reduceEqDiff, Int.reduceLT, Int.reduceLE, Int.reduceToNat, Nat.reduceLT, Nat.reduceLeDiff, Int.reduceEq, Int.reduceNeg, IntKind.bits, Nat.reduceAdd, Nat.reduceMul, Nat.reducePow, Int.reducePow, ini, fwh, lk, cellsAt, tagOf, spotOf, rdN, spl, fillL, zr, fwi, F_internal_stringslite_CutPrefixr0_W, F_internal_stringslite_CutPrefixr1_W, F_internal_stringslite_CutPrefixr2_W, F_internal_stringslite_CutPrefixr3_W, F_internal_stringslite_CutPrefixc_W, CC_of c1, Bool.false_eq_true, if_false]
    rfl
theorem f_cp (l m : List UInt8) (hl : l.length ≤ 100000000) : FnV T 33 [strV l, strV m] (cpV l m) := by
  refine FnV_of rfl ?_
  rw [Ev_fn t.cp rfl]
  have c1 := f_cp0 t l m hl
  unfold cpV at c1 ⊢
  split at c1 <;>
  · rename_i h
    simp only [F_strings_CutPrefix, fws, cond_true, cond_false, if_true, if_false, unV, isNil, optI, iV, stepI, evalR, reduceIte, reduceCtorEq, Nat.reduceEqDiff, Int.reduceLT, Int.reduceLE, Int.reduceToNat, Nat.reduceLT, Nat.reduceLeDiff, Int.reduceEq, Int.reduceNeg, IntKind.bits, Nat.reduceAdd, Nat.reduceMul, Nat.reducePow, Int.reducePow, ini, fwh, lk, cellsAt, tagOf, spotOf, rdN, spl, fillL, zr, fwi, F_strings_CutPrefixr0_W, F_strings_CutPrefixr1_W, F_strings_CutPrefixc_W, CC_of c1, h, if_true, if_false]
    rfl
def csV (l m : List UInt8) : Value := if endsB l m = true then .tuple #[strV (l.take (l.length - m.length)), .bool true] else .tuple #[strV l, .bool false]
theorem f_cs0 (l m : List UInt8) (hl : l.length ≤ 100000000) : FnV T 59 [strV l, strV m] (csV l m) := by
  refine FnV_of rfl ?_
  rw [Ev_fn t.cs0 rfl]
  have c1 := f_hs0 t l m hl
  unfold csV
  cases h : endsB l m with
  | true =>
    have hle := endsB_le h
    rw [h] at c1
    have w1 : IntKind.i64.wrap ((l.length : Int) - m.length) = ((l.length - m.length : Nat) : Int) := by rw [wrapI64 (by omega) (by omega)]; omega
    have q2 : (0 : Int) ≤ ((l.length - m.length : Nat) : Int) := by omega
    have q3 : ((l.length - m.length : Nat) : Int) ≤ l.length := by omega
    simp only [F_internal_stringslite_CutSuffix, fws, cond_true, cond_false, if_true, if_false, unV, isNil, optI, iV, stepI, evalR, reduceIte, reduceCtorEq, Nat.reduceEqDiff, Int.reduceLT, Int.reduceLE, Int.reduceToNat, Nat.reduceLT, Nat.reduceLeDiff, Int.reduceEq, Int.reduceNeg, IntKind.bits, Nat.reduceAdd, Nat.reduceMul, Nat.reducePow, Int.reducePow, ini, fwh, lk, cellsAt, tagOf, spotOf, rdN, spl, fillL, zr, fwi, F_internal_stringslite_CutSuffixr0_W, F_internal_stringslite_CutSuffixr1_W, F_internal_stringslite_CutSuffixr2_W, F_internal_stringslite_CutSuffixr3_W, F_internal_stringslite_CutSuffixc_W, lenI_str, w1, q2, q3, true_and, and_self, Int.le_refl, CC_of c1, Nat.sub_zero, if_true]
    rfl
  | false =>
    rw [h] at c1
    simp only [F_internal_stringslite_CutSuffix, fws, cond_true, cond_false, if_true, if_false, unV, isNil, optI, iV, stepI, evalR, reduceIte, reduceCtorEq, Nat.reduceEqDiff, Int.reduceLT, Int.reduceLE, Int.reduceToNat, Nat.reduceLT, Nat.reduceLeDiff, Int.reduceEq, Int.reduceNeg, IntKind.bits, Nat.reduceAdd, Nat.reduceMul, Nat.reducePow, Int.reducePow, ini, fwh, lk, cellsAt, tagOf, spotOf, rdN, spl, fillL, zr, fwi, F_internal_stringslite_CutSuffixr0_W, F_internal_stringslite_CutSuffixr1_W, F_internal_stringslite_CutSuffixr2_W, F_internal_stringslite_CutSuffixr3_W, F_internal_stringslite_CutSuffixc_W, CC_of c1, Bool.false_eq_true, if_false]
    rfl
theorem f_cs (l m : List UInt8) (hl : l.length ≤ 100000000) : FnV T 42 [strV l, strV m] (csV l m) := by
  refine FnV_of rfl ?_
  rw [Ev_fn t.cs rfl]
  have c1 := f_cs0 t l m hl
  unfold csV at c1 ⊢
  split at c1 <;>
  · rename_i h
    simp only [F_strings_CutSuffix, fws, cond_true, cond_false, if_true, if_false, unV, isNil, optI, iV, stepI, evalR, reduceIte, reduceCtorEq, Nat.reduceEqDiff, Int.reduceLT, Int.reduceLE, Int.reduceToNat, Nat.reduceLT, Nat.reduceLeDiff, Int.reduceEq, Int.reduceNeg, IntKind.bits, Nat.reduceAdd, Nat.reduceMul, Nat.reducePow, Int.reducePow, ini, fwh, lk, cellsAt, tagOf, spotOf, rdN, spl, fillL, zr, fwi, F_strings_CutSuffixr0_W, F_strings_CutSuffixr1_W, F_strings_CutSuffixc_W, CC_of c1, h, if_true, if_false]
    rfl
end
end Go.Proofs.YtbhoaiacnoiocaaDoor
/- Lines: blanks, trimmed; which are plain; which are names. -/
namespace Go.Proofs.YtbhoaiacnoiocaaDoor
open Go Fw
set_option linter.unusedSimpArgs false
set_option linter.unusedVariables false
set_option linter.unusedSectionVars false

def isBl (c : UInt8) : Bool := decide ((c.toNat : Int) = 32) || decide ((c.toNat : Int) = 9) || decide ((c.toNat : Int) = 13)
theorem f_blank {T : Tab} (h : T 27 = some F_conf_blank) (c : UInt8) : FnV T 27 [.int .u8 c.toNat] (.bool (isBl c)) := by
  refine FnV_of rfl ?_
  rw [Ev_fn h rfl]
  unfold isBl
  cases q1 : decide ((c.toNat : Int) = 32) with
  | true =>
    simp only [F_conf_blank, fws, cond_true, cond_false, if_true, if_false, unV, isNil, optI, iV, stepI, evalR, reduceIte, reduceCtorEq, Nat.reduceEqDiff, Int.reduceLT, Int.reduceLE, Int.reduceToNat, Nat.reduceLT, Nat.reduceLeDiff, Int.reduceEq, Int.reduceNeg, IntKind.bits, Nat.reduceAdd, Nat.reduceMul, Nat.reducePow, Int.reducePow, ini, fwh, lk, cellsAt, tagOf, spotOf, rdN, spl, fillL, zr, fwi, F_conf_blankr0_W, F_conf_blankr1_W, F_conf_blankr1_g2, F_conf_blankr1_g6, F_conf_blankc_W, q1]
    rfl
  | false =>
    cases q2 : decide ((c.toNat : Int) = 9) with
    | true =>
      simp only [F_conf_blank, fws, cond_true, cond_false, if_true, if_false, unV, isNil, optI, iV, stepI, evalR, reduceIte, reduceCtorEq, Nat.reduceEqDiff, Int.reduceLT, Int.reduceLE, Int.reduceToNat, Nat.reduceLT, Nat.reduceLeDiff, Int.reduceEq, Int.reduceNeg, IntKind.bits, Nat.reduceAdd, Nat.reduceMul, Nat.reducePow, Int.reducePow, ini, fwh, lk, cellsAt, tagOf, spotOf, rdN, spl, fillL, zr, fwi, F_conf_blankr0_W, F_conf_blankr1_W, F_conf_blankr1_g2, F_conf_blankr1_g6, F_conf_blankc_W, q1, q2]
      rfl
    | false =>
      simp only [F_conf_blank, fws, cond_true, cond_false, if_true, if_false, unV, isNil, optI, iV, stepI, evalR, reduceIte, reduceCtorEq, Nat.reduceEqDiff, Int.reduceLT, Int.reduceLE, Int.reduceToNat, Nat.reduceLT, Nat.reduceLeDiff, Int.reduceEq, Int.reduceNeg, IntKind.bits, Nat.reduceAdd, Nat.reduceMul, Nat.reducePow, Int.reducePow, ini, fwh, lk, cellsAt, tagOf, spotOf, rdN, spl, fillL, zr, fwi, F_conf_blankr0_W, F_conf_blankr1_W, F_conf_blankr1_g2, F_conf_blankr1_g6, F_conf_blankc_W, q1, q2]
      rfl
theorem ne_str {l : List UInt8} (h : l ≠ []) : strEq ⟨l.toArray⟩ ⟨#[]⟩ = false := by
  show strEq ⟨l.toArray⟩ ⟨([] : List UInt8).toArray⟩ = false
  rw [strEq_str]; exact decide_eq_false h
theorem nil_str : strEq ⟨([] : List UInt8).toArray⟩ ⟨#[]⟩ = true := rfl
section
variable {T : Tab} (h0 : T 27 = some F_conf_blank)
include h0
theorem loop_trim0 : ∀ (l : List UInt8) (env : Env), env 0 = strV l → W T (.loop F_conf_triml0) env [] fun x e h => x = .exit 0 ∧ h = [] ∧ e 0 = strV (l.dropWhile isBl)
  | [], env, e0 => by
    have q : strEq ⟨([] : List UInt8).toArray⟩ ⟨#[]⟩ = true := rfl
    rw [w_loop]
    simp only [fws, cond_true, cond_false, if_true, if_false, unV, isNil, optI, iV, stepI, evalR, reduceIte, reduceCtorEq, Nat.reduceEqDiff, Int.reduceLT, Int.reduceLE, Int.reduceToNat, Nat.reduceLT, Nat.reduceLeDiff, Int.reduceEq, Int.reduceNeg, IntKind.bits, Nat.reduceAdd, Nat.reduceMul, Nat.reducePow, Int.reducePow, ini, fwi, F_conf_trimr0_W, F_conf_trimr1_W, F_conf_trimr1_g2, F_conf_trimr2_W, F_conf_triml0_W, F_conf_trimr3_W, F_conf_trimr3_g2, F_conf_trimr4_W, F_conf_triml1_W, F_conf_trimr5_W, F_conf_trimc_W, e0, q]
    exact ⟨trivial, trivial, rfl⟩
  | c :: l, env, e0 => by
    have q : strEq ⟨(c :: l).toArray⟩ ⟨#[]⟩ = false := ne_str (by simp)
    have c1 := f_blank h0 c
    have q1 : (0 : Int) < ((c :: l).length : Int) := by simp
    have q2 : (1 : Int) ≤ ((c :: l).length : Int) := by simp; omega
    have g : (c :: l).getD 0 0 = c := rfl
    have tk : l.take ((c :: l).length - 1) = l := by simp
    rw [w_loop]
    cases hb : isBl c with
    | true =>
      rw [hb] at c1
      have hd : (c :: l).dropWhile isBl = l.dropWhile isBl := by simp [hb]
      rw [hd]
      simp only [fws, cond_true, cond_false, if_true, if_false, unV, isNil, optI, iV, stepI, evalR, reduceIte, reduceCtorEq, Nat.reduceEqDiff, Int.reduceLT, Int.reduceLE, Int.reduceToNat, Nat.reduceLT, Nat.reduceLeDiff, Int.reduceEq, Int.reduceNeg, IntKind.bits, Nat.reduceAdd, Nat.reduceMul, Nat.reducePow, Int.reducePow, ini, fwi, F_conf_trimr0_W, F_conf_trimr1_W, F_conf_trimr1_g2, F_conf_trimr2_W, F_conf_triml0_W, F_conf_trimr3_W, F_conf_trimr3_g2, F_conf_trimr4_W, F_conf_triml1_W, F_conf_trimr5_W, F_conf_trimc_W, e0, q, q1, q2, CC_of c1, Int.toNat_zero, g, tk, and_self, true_and, Int.le_refl]
      exact loop_trim0 l _ rfl
    | false =>
      rw [hb] at c1
      have hd : (c :: l).dropWhile isBl = c :: l := by simp [hb]
      rw [hd]
      simp only [fws, cond_true, cond_false, if_true, if_false, unV, isNil, optI, iV, stepI, evalR, reduceIte, reduceCtorEq, Nat.reduceEqDiff, Int.reduceLT, Int.reduceLE, Int.reduceToNat, Nat.reduceLT, Nat.reduceLeDiff, Int.reduceEq, Int.reduceNeg, IntKind.bits, Nat.reduceAdd, Nat.reduceMul, Nat.reducePow, Int.reducePow, ini, fwi, F_conf_trimr0_W, F_conf_trimr1_W, F_conf_trimr1_g2, F_conf_trimr2_W, F_conf_triml0_W, F_conf_trimr3_W, F_conf_trimr3_g2, F_conf_trimr4_W, F_conf_triml1_W, F_conf_trimr5_W, F_conf_trimc_W, e0, q, q1, CC_of c1, Int.toNat_zero, g, and_self, true_and, Int.le_refl]
theorem loop_trim1 : ∀ (r : List UInt8) (env : Env), r.length ≤ 100000000 → env 0 = strV r.reverse → W T (.loop F_conf_triml1) env [] fun x e h => x = .exit 2 ∧ h = [] ∧ e 0 = strV (r.dropWhile isBl).reverse
  | [], env, hl, e0 => by
    have q : strEq ⟨([] : List UInt8).toArray⟩ ⟨#[]⟩ = true := rfl
    have e0 : env 0 = strV [] := e0
    rw [w_loop]
    simp only [fws, cond_true, cond_false, if_true, if_false, unV, isNil, optI, iV, stepI, evalR, reduceIte, reduceCtorEq, Nat.reduceEqDiff, Int.reduceLT, Int.reduceLE, Int.reduceToNat, Nat.reduceLT, Nat.reduceLeDiff, Int.reduceEq, Int.reduceNeg, IntKind.bits, Nat.reduceAdd, Nat.reduceMul, Nat.reducePow, Int.reducePow, ini, fwi, F_conf_trimr0_W, F_conf_trimr1_W, F_conf_trimr1_g2, F_conf_trimr2_W, F_conf_triml0_W, F_conf_trimr3_W, F_conf_trimr3_g2, F_conf_trimr4_W, F_conf_triml1_W, F_conf_trimr5_W, F_conf_trimc_W, e0, q]
    exact ⟨trivial, trivial, rfl⟩
  | c :: r, env, hl, e0 => by
    have q : strEq ⟨(c :: r).reverse.toArray⟩ ⟨#[]⟩ = false := ne_str (by simp)
    have c1 := f_blank h0 c
    have hl' : (c :: r).reverse.length = r.length + 1 := by simp
    have w1 : IntKind.i64.wrap (((c :: r).reverse.length : Int) - 1) = (r.length : Int) := by rw [hl', wrapI64 (by simp at hl; omega) (by simp at hl; omega)]; omega
    have q1 : (r.length : Int) < ((c :: r).reverse.length : Int) := by rw [hl']; omega
    have q2 : (0 : Int) ≤ (r.length : Int) := by omega
    have q3 : (r.length : Int) ≤ ((c :: r).reverse.length : Int) := by rw [hl']; omega
    have g : (c :: r).reverse.getD r.length 0 = c := by simp
    have tk : (c :: r).reverse.take r.length = r.reverse := by rw [List.reverse_cons, List.take_append_of_le_length (by simp)]; exact List.take_of_length_le (by simp)
    rw [w_loop]
    cases hb : isBl c with
    | true =>
      rw [hb] at c1
      have hd : (c :: r).dropWhile isBl = r.dropWhile isBl := by simp [hb]
      rw [hd]
      simp only [fws, cond_true, cond_false, if_true, if_false, unV, isNil, optI, iV, stepI, evalR, reduceIte, reduceCtorEq, Nat.reduceEqDiff, Int.reduceLT, Int.reduceLE, Int.reduceToNat, Nat.reduceLT, Nat.reduceLeDiff, Int.reduceEq, Int.reduceNeg, IntKind.bits, Nat.reduceAdd, Nat.reduceMul, Nat.reducePow, Int.reducePow, ini, fwi, F_conf_trimr0_W, F_conf_trimr1_W, F_conf_trimr1_g2, F_conf_trimr2_W, F_conf_triml0_W, F_conf_trimr3_W, F_conf_trimr3_g2, F_conf_trimr4_W, F_conf_triml1_W, F_conf_trimr5_W, F_conf_trimc_W, e0, q, lenI_str, w1, q1, q2, q3, CC_of c1, g, tk, and_self, true_and, Int.le_refl, Nat.sub_zero]
      exact loop_trim1 r _ (by simp at hl; omega) rfl
    | false =>
      rw [hb] at c1
      have hd : (c :: r).dropWhile isBl = c :: r := by simp [hb]
      rw [hd]
      simp only [fws, cond_true, cond_false, if_true, if_false, unV, isNil, optI, iV, stepI, evalR, reduceIte, reduceCtorEq, Nat.reduceEqDiff, Int.reduceLT, Int.reduceLE, Int.reduceToNat, Nat.reduceLT, Nat.reduceLeDiff, Int.reduceEq, Int.reduceNeg, IntKind.bits, Nat.reduceAdd, Nat.reduceMul, Nat.reducePow, Int.reducePow, ini, fwi, F_conf_trimr0_W, F_conf_trimr1_W, F_conf_trimr1_g2, F_conf_trimr2_W, F_conf_triml0_W, F_conf_trimr3_W, F_conf_trimr3_g2, F_conf_trimr4_W, F_conf_triml1_W, F_conf_trimr5_W, F_conf_trimc_W, e0, q, lenI_str, w1, q1, q2, CC_of c1, g, and_self, true_and, Int.le_refl]
/-- A text without blanks at its ends. -/
def trimF (l : List UInt8) : List UInt8 := ((l.dropWhile isBl).reverse.dropWhile isBl).reverse
theorem f_trim (h : T 17 = some F_conf_trim) (l : List UInt8) (hl : l.length ≤ 100000000) : FnV T 17 [strV l] (strV (trimF l)) := by
  refine FnV_of rfl ?_
  rw [Ev_fn h rfl]
  simp only [F_conf_trim, fws, cond_true, cond_false, if_true, if_false, unV, isNil, optI, iV, stepI, evalR, reduceIte, reduceCtorEq, Nat.reduceEqDiff, Int.reduceLT, Int.reduceLE, Int.reduceToNat, Nat.reduceLT, Nat.reduceLeDiff, Int.reduceEq, Int.reduceNeg, IntKind.bits, Nat.reduceAdd, Nat.reduceMul, Nat.reducePow, Int.reducePow, ini, fwh, lk, cellsAt, tagOf, spotOf, rdN, spl, fillL, zr, fwi, F_conf_trimr0_W, F_conf_trimr1_W, F_conf_trimr1_g2, F_conf_trimr2_W, F_conf_trimr3_W, F_conf_trimr3_g2, F_conf_trimr4_W, F_conf_trimr5_W, F_conf_trimc_W]
  refine W.mono (loop_trim0 h0 l _ rfl) fun x e h ⟨q1, q2, e0⟩ => ?_
  subst q1 q2
  simp only [fws, cond_true, cond_false, if_true, if_false, unV, isNil, optI, iV, stepI, evalR, reduceIte, reduceCtorEq, Nat.reduceEqDiff, Int.reduceLT, Int.reduceLE, Int.reduceToNat, Nat.reduceLT, Nat.reduceLeDiff, Int.reduceEq, Int.reduceNeg, IntKind.bits, Nat.reduceAdd, Nat.reduceMul, Nat.reducePow, Int.reducePow, ini, fwh, lk, cellsAt, tagOf, spotOf, rdN, spl, fillL, zr, fwi, F_conf_trimr0_W, F_conf_trimr1_W, F_conf_trimr1_g2, F_conf_trimr2_W, F_conf_trimr3_W, F_conf_trimr3_g2, F_conf_trimr4_W, F_conf_trimr5_W, F_conf_trimc_W]
  refine W.mono (loop_trim1 h0 (l.dropWhile isBl).reverse e (by rw [List.length_reverse]; exact Nat.le_trans (List.dropWhile_sublist _).length_le hl) (by rw [List.reverse_reverse]; exact e0)) fun x e h ⟨q1, q2, e0⟩ => ?_
  subst q1 q2
  simp only [fws, cond_true, cond_false, if_true, if_false, unV, isNil, optI, iV, stepI, evalR, reduceIte, reduceCtorEq, Nat.reduceEqDiff, Int.reduceLT, Int.reduceLE, Int.reduceToNat, Nat.reduceLT, Nat.reduceLeDiff, Int.reduceEq, Int.reduceNeg, IntKind.bits, Nat.reduceAdd, Nat.reduceMul, Nat.reducePow, Int.reducePow, ini, fwh, lk, cellsAt, tagOf, spotOf, rdN, spl, fillL, zr, fwi, F_conf_trimr0_W, F_conf_trimr1_W, F_conf_trimr1_g2, F_conf_trimr2_W, F_conf_triml0_W, F_conf_trimr3_W, F_conf_trimr3_g2, F_conf_trimr4_W, F_conf_triml1_W, F_conf_trimr5_W, F_conf_trimc_W, e0]
  rfl
end
end Go.Proofs.YtbhoaiacnoiocaaDoor
/- Lines: which are plain; which texts are names; what stands between. -/
namespace Go.Proofs.YtbhoaiacnoiocaaDoor
open Go Fw
set_option linter.unusedSimpArgs false
set_option linter.unusedVariables false
set_option linter.unusedSectionVars false

def okL (c : UInt8) : Bool := (decide (32 ≤ c.toNat) && decide (c.toNat ≤ 126)) || isBl c
theorem getD_at {l : List UInt8} {i : Nat} (h : i < l.length) : l.getD i 0 = l[i] := by
  rw [List.getD_eq_getElem?_getD, List.getElem?_eq_getElem h]; rfl
section
variable {T : Tab} (h0 : T 27 = some F_conf_blank)
include h0
theorem loop_plain (l : List UInt8) (hl : l.length ≤ 100000000) : ∀ (k i : Nat) (env : Env), i + k = l.length → env 0 = strV l → env 5 = .int .i64 l.length → env 6 = .int .i64 i →
    W T (.loop F_conf_plainl0) env [] fun x e h => h = [] ∧ ((x = .exit 0 ∧ (l.drop i).all okL = true) ∨ (x = .ret ∧ e 2 = .bool false ∧ (l.drop i).all okL = false)) := by
  intro k
  induction k with
  | zero =>
    intro i env hi e0 e5 e6
    have q : ¬ ((i : Int) < l.length) := by omega
    rw [w_loop, List.drop_of_length_le (by omega)]
    simp only [fws, cond_true, cond_false, if_true, if_false, unV, isNil, optI, iV, stepI, evalR, reduceIte, reduceCtorEq, Nat.reduceEqDiff, Int.reduceLT, Int.reduceLE, Int.reduceToNat, Nat.reduceLT, Nat.reduceLeDiff, Int.reduceEq, Int.reduceNeg, IntKind.bits, Nat.reduceAdd, Nat.reduceMul, Nat.reducePow, Int.reducePow, ini, fwi, F_conf_plainr0_W, F_conf_plainr1_W, F_conf_plainr2_W, F_conf_plainr3_W, F_conf_plainr4_W, F_conf_plainr4_g4, F_conf_plainr4_g10, F_conf_plainr5_W, F_conf_plainr6_W, F_conf_plainl0_W, F_conf_plainr7_W, F_conf_plainc_W, e5, e6, q]
    exact ⟨trivial, .inl ⟨trivial, rfl⟩⟩
  | succ k ih =>
    intro i env hi e0 e5 e6
    have hix : i < l.length := by omega
    have q : ((i : Int) < l.length) := by omega
    have q0 : (0 : Int) ≤ (i : Int) := by omega
    have g := getD_at hix
    have c1 := f_blank h0 l[i]
    have w2 : IntKind.i64.wrap ((i : Int) + 1) = ((i + 1 : Nat) : Int) := by rw [wrapI64 (by omega) (by omega)]; rfl
    rw [w_loop, List.drop_eq_getElem_cons hix, List.all_cons]
    have hok : okL l[i] = ((decide (32 ≤ l[i].toNat) && decide (l[i].toNat ≤ 126)) || isBl l[i]) := rfl
    by_cases q1 : l[i].toNat < 32
    · have p1 : ((l[i].toNat : Int) < 32) := by omega
      have p2 : decide (32 ≤ l[i].toNat) = false := decide_eq_false (by omega)
      rw [p2, Bool.false_and, Bool.false_or] at hok
      cases hb : isBl l[i] with
      | true =>
        rw [hb] at c1
        rw [hok, hb, Bool.true_and]
        simp only [fws, cond_true, cond_false, if_true, if_false, unV, isNil, optI, iV, stepI, evalR, reduceIte, reduceCtorEq, Nat.reduceEqDiff, Int.reduceLT, Int.reduceLE, Int.reduceToNat, Nat.reduceLT, Nat.reduceLeDiff, Int.reduceEq, Int.reduceNeg, IntKind.bits, Nat.reduceAdd, Nat.reduceMul, Nat.reducePow, Int.reducePow, ini, fwi, F_conf_plainr0_W, F_conf_plainr1_W, F_conf_plainr2_W, F_conf_plainr3_W, F_conf_plainr4_W, F_conf_plainr4_g4, F_conf_plainr4_g10, F_conf_plainr5_W, F_conf_plainr6_W, F_conf_plainl0_W, F_conf_plainr7_W, F_conf_plainc_W, e0, e5, e6, q, q0, g, p1, CC_of c1, w2, and_self, true_and]
        refine ih (i + 1) _ (by omega) ?_ ?_ ?_
        all_goals (first | assumption | rfl)
      | false =>
        rw [hb] at c1
        rw [hok, hb, Bool.false_and]
        simp only [fws, cond_true, cond_false, if_true, if_false, unV, isNil, optI, iV, stepI, evalR, reduceIte, reduceCtorEq, Nat.reduceEqDiff, Int.reduceLT, Int.reduceLE, Int.reduceToNat, Nat.reduceLT, Nat.reduceLeDiff, Int.reduceEq, Int.reduceNeg, IntKind.bits, Nat.reduceAdd, Nat.reduceMul, Nat.reducePow, Int.reducePow, ini, fwi, F_conf_plainr0_W, F_conf_plainr1_W, F_conf_plainr2_W, F_conf_plainr3_W, F_conf_plainr4_W, F_conf_plainr4_g4, F_conf_plainr4_g10, F_conf_plainr5_W, F_conf_plainr6_W, F_conf_plainl0_W, F_conf_plainr7_W, F_conf_plainc_W, e0, e5, e6, q, q0, g, p1, CC_of c1, w2, and_self, true_and]
        exact .inr trivial
    · have p1 : ¬ ((l[i].toNat : Int) < 32) := by omega
      have p2 : decide (32 ≤ l[i].toNat) = true := decide_eq_true (by omega)
      rw [p2, Bool.true_and] at hok
      by_cases q2 : 126 < l[i].toNat
      · have p3 : ((126 : Int) < l[i].toNat) := by omega
        have p4 : decide (l[i].toNat ≤ 126) = false := decide_eq_false (by omega)
        rw [p4, Bool.false_or] at hok
        cases hb : isBl l[i] with
        | true =>
          rw [hb] at c1
          rw [hok, hb, Bool.true_and]
          simp only [fws, cond_true, cond_false, if_true, if_false, unV, isNil, optI, iV, stepI, evalR, reduceIte, reduceCtorEq, Nat.reduceEqDiff, Int.reduceLT, Int.reduceLE, Int.reduceToNat, Nat.reduceLT, Nat.reduceLeDiff, Int.reduceEq, Int.reduceNeg, IntKind.bits, Nat.reduceAdd, Nat.reduceMul, Nat.reducePow, Int.reducePow, ini, fwi, F_conf_plainr0_W, F_conf_plainr1_W, F_conf_plainr2_W, F_conf_plainr3_W, F_conf_plainr4_W, F_conf_plainr4_g4, F_conf_plainr4_g10, F_conf_plainr5_W, F_conf_plainr6_W, F_conf_plainl0_W, F_conf_plainr7_W, F_conf_plainc_W, e0, e5, e6, q, q0, g, p1, p3, CC_of c1, w2, and_self, true_and]
          refine ih (i + 1) _ (by omega) ?_ ?_ ?_
          all_goals (first | assumption | rfl)
        | false =>
          rw [hb] at c1
          rw [hok, hb, Bool.false_and]
          simp only [fws, cond_true, cond_false, if_true, if_false, unV, isNil, optI, iV, stepI, evalR, reduceIte, reduceCtorEq, Nat.reduceEqDiff, Int.reduceLT, Int.reduceLE, Int.reduceToNat, Nat.reduceLT, Nat.reduceLeDiff, Int.reduceEq, Int.reduceNeg, IntKind.bits, Nat.reduceAdd, Nat.reduceMul, Nat.reducePow, Int.reducePow, ini, fwi, F_conf_plainr0_W, F_conf_plainr1_W, F_conf_plainr2_W, F_conf_plainr3_W, F_conf_plainr4_W, F_conf_plainr4_g4, F_conf_plainr4_g10, F_conf_plainr5_W, F_conf_plainr6_W, F_conf_plainl0_W, F_conf_plainr7_W, F_conf_plainc_W, e0, e5, e6, q, q0, g, p1, p3, CC_of c1, w2, and_self, true_and]
          exact .inr trivial
      · have p3 : ¬ ((126 : Int) < l[i].toNat) := by omega
        have p4 : decide (l[i].toNat ≤ 126) = true := decide_eq_true (by omega)
        rw [p4, Bool.true_or] at hok
        rw [hok, Bool.true_and]
        simp only [fws, cond_true, cond_false, if_true, if_false, unV, isNil, optI, iV, stepI, evalR, reduceIte, reduceCtorEq, Nat.reduceEqDiff, Int.reduceLT, Int.reduceLE, Int.reduceToNat, Nat.reduceLT, Nat.reduceLeDiff, Int.reduceEq, Int.reduceNeg, IntKind.bits, Nat.reduceAdd, Nat.reduceMul, Nat.reducePow, Int.reducePow, ini, fwi, F_conf_plainr0_W, F_conf_plainr1_W, F_conf_plainr2_W, F_conf_plainr3_W, F_conf_plainr4_W, F_conf_plainr4_g4, F_conf_plainr4_g10, F_conf_plainr5_W, F_conf_plainr6_W, F_conf_plainl0_W, F_conf_plainr7_W, F_conf_plainc_W, e0, e5, e6, q, q0, g, p1, p3, w2, and_self, true_and]
        refine ih (i + 1) _ (by omega) ?_ ?_ ?_
        all_goals (first | assumption | rfl)
theorem f_plain (h : T 16 = some F_conf_plain) (l : List UInt8) (hl : l.length ≤ 100000000) : FnV T 16 [strV l] (.bool (l.all okL)) := by
  refine FnV_of rfl ?_
  rw [Ev_fn h rfl]
  simp only [F_conf_plain, fws, cond_true, cond_false, if_true, if_false, unV, isNil, optI, iV, stepI, evalR, reduceIte, reduceCtorEq, Nat.reduceEqDiff, Int.reduceLT, Int.reduceLE, Int.reduceToNat, Nat.reduceLT, Nat.reduceLeDiff, Int.reduceEq, Int.reduceNeg, IntKind.bits, Nat.reduceAdd, Nat.reduceMul, Nat.reducePow, Int.reducePow, ini, fwh, lk, cellsAt, tagOf, spotOf, rdN, spl, fillL, zr, fwi, F_conf_plainr0_W, F_conf_plainr1_W, F_conf_plainr2_W, F_conf_plainr3_W, F_conf_plainr4_W, F_conf_plainr4_g4, F_conf_plainr4_g10, F_conf_plainr5_W, F_conf_plainr6_W, F_conf_plainr7_W, F_conf_plainc_W, lenI_str]
  refine W.mono (loop_plain h0 l hl l.length 0 _ (Nat.zero_add _) ?_ ?_ ?_) fun x e h ⟨q1, q2⟩ => ?_
  all_goals try (first | assumption | rfl)
  subst q1
  rw [List.drop_zero] at q2
  rcases q2 with ⟨rfl, hq⟩ | ⟨rfl, e2, hq⟩
  · rw [hq]
    simp only [fws, cond_true, cond_false, if_true, if_false, unV, isNil, optI, iV, stepI, evalR, reduceIte, reduceCtorEq, Nat.reduceEqDiff, Int.reduceLT, Int.reduceLE, Int.reduceToNat, Nat.reduceLT, Nat.reduceLeDiff, Int.reduceEq, Int.reduceNeg, IntKind.bits, Nat.reduceAdd, Nat.reduceMul, Nat.reducePow, Int.reducePow, ini, F_conf_plainr0_W, F_conf_plainr1_W, F_conf_plainr2_W, F_conf_plainr3_W, F_conf_plainr4_W, F_conf_plainr4_g4, F_conf_plainr4_g10, F_conf_plainr5_W, F_conf_plainr6_W, F_conf_plainl0_W, F_conf_plainr7_W, F_conf_plainc_W]
    rfl
  · rw [hq]
    simp only [fws, cond_true, cond_false, if_true, if_false, unV, isNil, optI, iV, stepI, evalR, reduceIte, reduceCtorEq, Nat.reduceEqDiff, Int.reduceLT, Int.reduceLE, Int.reduceToNat, Nat.reduceLT, Nat.reduceLeDiff, Int.reduceEq, Int.reduceNeg, IntKind.bits, Nat.reduceAdd, Nat.reduceMul, Nat.reducePow, Int.reducePow, ini, F_conf_plainr0_W, F_conf_plainr1_W, F_conf_plainr2_W, F_conf_plainr3_W, F_conf_plainr4_W, F_conf_plainr4_g4, F_conf_plainr4_g10, F_conf_plainr5_W, F_conf_plainr6_W, F_conf_plainl0_W, F_conf_plainr7_W, F_conf_plainc_W, e2]
    rfl
end
def nmC (c : UInt8) : Bool := (decide (97 ≤ c.toNat) && decide (c.toNat ≤ 122)) || (decide (65 ≤ c.toNat) && decide (c.toNat ≤ 90)) || (decide (48 ≤ c.toNat) && decide (c.toNat ≤ 57)) || decide (c.toNat = 46) || decide (c.toNat = 95) || decide (c.toNat = 45)
def goodB (l : List UInt8) : Bool := l.all nmC && decide (l ≠ []) && decide (l.length ≤ 256)
theorem nmC_f {c : UInt8} (h : ¬ ((97 ≤ c.toNat ∧ c.toNat ≤ 122) ∨ (65 ≤ c.toNat ∧ c.toNat ≤ 90) ∨ (48 ≤ c.toNat ∧ c.toNat ≤ 57) ∨ c.toNat = 46 ∨ c.toNat = 95 ∨ c.toNat = 45)) : nmC c = false := by
  unfold nmC
  simp only [Bool.or_eq_false_iff, Bool.and_eq_false_iff, decide_eq_false_iff_not]
  omega
theorem nmC_t {c : UInt8} (h : (97 ≤ c.toNat ∧ c.toNat ≤ 122) ∨ (65 ≤ c.toNat ∧ c.toNat ≤ 90) ∨ (48 ≤ c.toNat ∧ c.toNat ≤ 57) ∨ c.toNat = 46 ∨ c.toNat = 95 ∨ c.toNat = 45) : nmC c = true := by
  unfold nmC
  simp only [Bool.or_eq_true, Bool.and_eq_true, decide_eq_true_eq]
  omega
end Go.Proofs.YtbhoaiacnoiocaaDoor
/- Which texts are names. -/
namespace Go.Proofs.YtbhoaiacnoiocaaDoor
open Go Fw
set_option linter.unusedSimpArgs false
set_option linter.unusedVariables false
set_option linter.unusedSectionVars false

section
variable {T : Tab}
def GdP (c : UInt8) (v0 v7 v8 : Value) (H : Heap) : Post := fun x e h => h = H ∧ ((nmC c = true ∧ x = .normal ∧ e 0 = v0 ∧ e 7 = v7 ∧ e 8 = v8) ∨ (nmC c = false ∧ x = .ret ∧ e 2 = .bool false))
set_option maxHeartbeats 2000000 in
theorem st_good (c : UInt8) {env : Env} {H : Heap} {v0 v7 v8 : Value} (e0 : env 0 = v0) (e7 : env 7 = v7) (e8 : env 8 = v8) (e4 : env 4 = .int .u8 c.toNat) :
    W T (.seq (.reg F_conf_goodr5) (.seq (.reg F_conf_goodr6) (.cond (.t 49) (.seq (.reg F_conf_goodr7) .ret) .skip))) env H (GdP c v0 v7 v8 H) := by
  have key : (97 ≤ c.toNat ∧ c.toNat ≤ 122) ∨ (122 < c.toNat) ∨ (65 ≤ c.toNat ∧ c.toNat ≤ 90) ∨ (c.toNat = 95) ∨ (90 < c.toNat ∧ c.toNat < 97 ∧ c.toNat ≠ 95) ∨ (48 ≤ c.toNat ∧ c.toNat ≤ 57) ∨ (57 < c.toNat ∧ c.toNat < 65) ∨ (c.toNat = 46) ∨ (c.toNat = 45) ∨ (c.toNat < 48 ∧ c.toNat ≠ 46 ∧ c.toNat ≠ 45) := by omega
  unfold GdP
  rcases key with k | k | k | k | k | k | k | k | k | k
  · have a1 : (97 : Int) ≤ c.toNat := by omega
    have a2 : (c.toNat : Int) ≤ 122 := by omega
    have b1 : (65 : Int) ≤ c.toNat := by omega
    have b2 : ¬ ((c.toNat : Int) ≤ 90) := by omega
    have c1 : (48 : Int) ≤ c.toNat := by omega
    have c2 : ¬ ((c.toNat : Int) ≤ 57) := by omega
    have e46 : decide ((c.toNat : Int) = 46) = false := decide_eq_false (by omega)
    have e95 : decide ((c.toNat : Int) = 95) = false := decide_eq_false (by omega)
    have e45 : decide ((c.toNat : Int) = 45) = false := decide_eq_false (by omega)
    have hn : nmC c = true := nmC_t (by omega)
    simp only [fws, cond_true, cond_false, if_true, if_false, unV, isNil, optI, iV, stepI, evalR, reduceIte, reduceCtorEq, Nat.reduceEqDiff, Int.reduceLT, Int.reduceLE, Int.reduceToNat, Nat.reduceLT, Nat.reduceLeDiff, Int.reduceEq, Int.reduceNeg, IntKind.bits, Nat.reduceAdd, Nat.reduceMul, Nat.reducePow, Int.reducePow, ini, fwi, F_conf_goodr0_W, F_conf_goodr1_W, F_conf_goodr2_W, F_conf_goodr3_W, F_conf_goodr4_W, F_conf_goodr5_W, F_conf_goodr5_g2, F_conf_goodr5_g6, F_conf_goodr5_g9, F_conf_goodr5_g14, F_conf_goodr5_g17, F_conf_goodr6_W, F_conf_goodr6_g2, F_conf_goodr6_g6, F_conf_goodr6_g10, F_conf_goodr7_W, F_conf_goodr8_W, F_conf_goodl0_W, F_conf_goodr9_W, F_conf_goodr9_g2, F_conf_goodc_W, e4, a1, a2, b1, b2, c1, c2, e46, e95, e45]
    exact ⟨trivial, .inl ⟨hn, trivial, e0, e7, e8⟩⟩
  · have a1 : (97 : Int) ≤ c.toNat := by omega
    have a2 : ¬ ((c.toNat : Int) ≤ 122) := by omega
    have b1 : (65 : Int) ≤ c.toNat := by omega
    have b2 : ¬ ((c.toNat : Int) ≤ 90) := by omega
    have c1 : (48 : Int) ≤ c.toNat := by omega
    have c2 : ¬ ((c.toNat : Int) ≤ 57) := by omega
    have e46 : decide ((c.toNat : Int) = 46) = false := decide_eq_false (by omega)
    have e95 : decide ((c.toNat : Int) = 95) = false := decide_eq_false (by omega)
    have e45 : decide ((c.toNat : Int) = 45) = false := decide_eq_false (by omega)
    have hn : nmC c = false := nmC_f (by omega)
    simp only [fws, cond_true, cond_false, if_true, if_false, unV, isNil, optI, iV, stepI, evalR, reduceIte, reduceCtorEq, Nat.reduceEqDiff, Int.reduceLT, Int.reduceLE, Int.reduceToNat, Nat.reduceLT, Nat.reduceLeDiff, Int.reduceEq, Int.reduceNeg, IntKind.bits, Nat.reduceAdd, Nat.reduceMul, Nat.reducePow, Int.reducePow, ini, fwi, F_conf_goodr0_W, F_conf_goodr1_W, F_conf_goodr2_W, F_conf_goodr3_W, F_conf_goodr4_W, F_conf_goodr5_W, F_conf_goodr5_g2, F_conf_goodr5_g6, F_conf_goodr5_g9, F_conf_goodr5_g14, F_conf_goodr5_g17, F_conf_goodr6_W, F_conf_goodr6_g2, F_conf_goodr6_g6, F_conf_goodr6_g10, F_conf_goodr7_W, F_conf_goodr8_W, F_conf_goodl0_W, F_conf_goodr9_W, F_conf_goodr9_g2, F_conf_goodc_W, e4, a1, a2, b1, b2, c1, c2, e46, e95, e45]
    exact ⟨trivial, .inr ⟨hn, trivial, trivial⟩⟩
  · have a1 : ¬ ((97 : Int) ≤ c.toNat) := by omega
    have a2 : (c.toNat : Int) ≤ 122 := by omega
    have b1 : (65 : Int) ≤ c.toNat := by omega
    have b2 : (c.toNat : Int) ≤ 90 := by omega
    have c1 : (48 : Int) ≤ c.toNat := by omega
    have c2 : ¬ ((c.toNat : Int) ≤ 57) := by omega
    have e46 : decide ((c.toNat : Int) = 46) = false := decide_eq_false (by omega)
    have e95 : decide ((c.toNat : Int) = 95) = false := decide_eq_false (by omega)
    have e45 : decide ((c.toNat : Int) = 45) = false := decide_eq_false (by omega)
    have hn : nmC c = true := nmC_t (by omega)
    simp only [fws, cond_true, cond_false, if_true, if_false, unV, isNil, optI, iV, stepI, evalR, reduceIte, reduceCtorEq, Nat.reduceEqDiff, Int.reduceLT, Int.reduceLE, Int.reduceToNat, Nat.reduceLT, Nat.reduceLeDiff, Int.reduceEq, Int.reduceNeg, IntKind.bits, Nat.reduceAdd, Nat.reduceMul, Nat.reducePow, Int.reducePow, ini, fwi, F_conf_goodr0_W, F_conf_goodr1_W, F_conf_goodr2_W, F_conf_goodr3_W, F_conf_goodr4_W, F_conf_goodr5_W, F_conf_goodr5_g2, F_conf_goodr5_g6, F_conf_goodr5_g9, F_conf_goodr5_g14, F_conf_goodr5_g17, F_conf_goodr6_W, F_conf_goodr6_g2, F_conf_goodr6_g6, F_conf_goodr6_g10, F_conf_goodr7_W, F_conf_goodr8_W, F_conf_goodl0_W, F_conf_goodr9_W, F_conf_goodr9_g2, F_conf_goodc_W, e4, a1, a2, b1, b2, c1, c2, e46, e95, e45]
    exact ⟨trivial, .inl ⟨hn, trivial, e0, e7, e8⟩⟩
  · have a1 : ¬ ((97 : Int) ≤ c.toNat) := by omega
    have a2 : (c.toNat : Int) ≤ 122 := by omega
    have b1 : (65 : Int) ≤ c.toNat := by omega
    have b2 : ¬ ((c.toNat : Int) ≤ 90) := by omega
    have c1 : (48 : Int) ≤ c.toNat := by omega
    have c2 : ¬ ((c.toNat : Int) ≤ 57) := by omega
    have e46 : decide ((c.toNat : Int) = 46) = false := decide_eq_false (by omega)
    have e95 : decide ((c.toNat : Int) = 95) = true := decide_eq_true (by omega)
    have e45 : decide ((c.toNat : Int) = 45) = false := decide_eq_false (by omega)
    have hn : nmC c = true := nmC_t (by omega)
    simp only [fws, cond_true, cond_false, if_true, if_false, unV, isNil, optI, iV, stepI, evalR, reduceIte, reduceCtorEq, Nat.reduceEqDiff, Int.reduceLT, Int.reduceLE, Int.reduceToNat, Nat.reduceLT, Nat.reduceLeDiff, Int.reduceEq, Int.reduceNeg, IntKind.bits, Nat.reduceAdd, Nat.reduceMul, Nat.reducePow, Int.reducePow, ini, fwi, F_conf_goodr0_W, F_conf_goodr1_W, F_conf_goodr2_W, F_conf_goodr3_W, F_conf_goodr4_W, F_conf_goodr5_W, F_conf_goodr5_g2, F_conf_goodr5_g6, F_conf_goodr5_g9, F_conf_goodr5_g14, F_conf_goodr5_g17, F_conf_goodr6_W, F_conf_goodr6_g2, F_conf_goodr6_g6, F_conf_goodr6_g10, F_conf_goodr7_W, F_conf_goodr8_W, F_conf_goodl0_W, F_conf_goodr9_W, F_conf_goodr9_g2, F_conf_goodc_W, e4, a1, a2, b1, b2, c1, c2, e46, e95, e45]
    exact ⟨trivial, .inl ⟨hn, trivial, e0, e7, e8⟩⟩
  · have a1 : ¬ ((97 : Int) ≤ c.toNat) := by omega
    have a2 : (c.toNat : Int) ≤ 122 := by omega
    have b1 : (65 : Int) ≤ c.toNat := by omega
    have b2 : ¬ ((c.toNat : Int) ≤ 90) := by omega
    have c1 : (48 : Int) ≤ c.toNat := by omega
    have c2 : ¬ ((c.toNat : Int) ≤ 57) := by omega
    have e46 : decide ((c.toNat : Int) = 46) = false := decide_eq_false (by omega)
    have e95 : decide ((c.toNat : Int) = 95) = false := decide_eq_false (by omega)
    have e45 : decide ((c.toNat : Int) = 45) = false := decide_eq_false (by omega)
    have hn : nmC c = false := nmC_f (by omega)
    simp only [fws, cond_true, cond_false, if_true, if_false, unV, isNil, optI, iV, stepI, evalR, reduceIte, reduceCtorEq, Nat.reduceEqDiff, Int.reduceLT, Int.reduceLE, Int.reduceToNat, Nat.reduceLT, Nat.reduceLeDiff, Int.reduceEq, Int.reduceNeg, IntKind.bits, Nat.reduceAdd, Nat.reduceMul, Nat.reducePow, Int.reducePow, ini, fwi, F_conf_goodr0_W, F_conf_goodr1_W, F_conf_goodr2_W, F_conf_goodr3_W, F_conf_goodr4_W, F_conf_goodr5_W, F_conf_goodr5_g2, F_conf_goodr5_g6, F_conf_goodr5_g9, F_conf_goodr5_g14, F_conf_goodr5_g17, F_conf_goodr6_W, F_conf_goodr6_g2, F_conf_goodr6_g6, F_conf_goodr6_g10, F_conf_goodr7_W, F_conf_goodr8_W, F_conf_goodl0_W, F_conf_goodr9_W, F_conf_goodr9_g2, F_conf_goodc_W, e4, a1, a2, b1, b2, c1, c2, e46, e95, e45]
    exact ⟨trivial, .inr ⟨hn, trivial, trivial⟩⟩
  · have a1 : ¬ ((97 : Int) ≤ c.toNat) := by omega
    have a2 : (c.toNat : Int) ≤ 122 := by omega
    have b1 : ¬ ((65 : Int) ≤ c.toNat) := by omega
    have b2 : (c.toNat : Int) ≤ 90 := by omega
    have c1 : (48 : Int) ≤ c.toNat := by omega
    have c2 : (c.toNat : Int) ≤ 57 := by omega
    have e46 : decide ((c.toNat : Int) = 46) = false := decide_eq_false (by omega)
    have e95 : decide ((c.toNat : Int) = 95) = false := decide_eq_false (by omega)
    have e45 : decide ((c.toNat : Int) = 45) = false := decide_eq_false (by omega)
    have hn : nmC c = true := nmC_t (by omega)
    simp only [fws, cond_true, cond_false, if_true, if_false, unV, isNil, optI, iV, stepI, evalR, reduceIte, reduceCtorEq, Nat.reduceEqDiff, Int.reduceLT, Int.reduceLE, Int.reduceToNat, Nat.reduceLT, Nat.reduceLeDiff, Int.reduceEq, Int.reduceNeg, IntKind.bits, Nat.reduceAdd, Nat.reduceMul, Nat.reducePow, Int.reducePow, ini, fwi, F_conf_goodr0_W, F_conf_goodr1_W, F_conf_goodr2_W, F_conf_goodr3_W, F_conf_goodr4_W, F_conf_goodr5_W, F_conf_goodr5_g2, F_conf_goodr5_g6, F_conf_goodr5_g9, F_conf_goodr5_g14, F_conf_goodr5_g17, F_conf_goodr6_W, F_conf_goodr6_g2, F_conf_goodr6_g6, F_conf_goodr6_g10, F_conf_goodr7_W, F_conf_goodr8_W, F_conf_goodl0_W, F_conf_goodr9_W, F_conf_goodr9_g2, F_conf_goodc_W, e4, a1, a2, b1, b2, c1, c2, e46, e95, e45]
    exact ⟨trivial, .inl ⟨hn, trivial, e0, e7, e8⟩⟩
  · have a1 : ¬ ((97 : Int) ≤ c.toNat) := by omega
    have a2 : (c.toNat : Int) ≤ 122 := by omega
    have b1 : ¬ ((65 : Int) ≤ c.toNat) := by omega
    have b2 : (c.toNat : Int) ≤ 90 := by omega
    have c1 : (48 : Int) ≤ c.toNat := by omega
    have c2 : ¬ ((c.toNat : Int) ≤ 57) := by omega
    have e46 : decide ((c.toNat : Int) = 46) = false := decide_eq_false (by omega)
    have e95 : decide ((c.toNat : Int) = 95) = false := decide_eq_false (by omega)
    have e45 : decide ((c.toNat : Int) = 45) = false := decide_eq_false (by omega)
    have hn : nmC c = false := nmC_f (by omega)
    simp only [fws, cond_true, cond_false, if_true, if_false, unV, isNil, optI, iV, stepI, evalR, reduceIte, reduceCtorEq, Nat.reduceEqDiff, Int.reduceLT, Int.reduceLE, Int.reduceToNat, Nat.reduceLT, Nat.reduceLeDiff, Int.reduceEq, Int.reduceNeg, IntKind.bits, Nat.reduceAdd, Nat.reduceMul, Nat.reducePow, Int.reducePow, ini, fwi, F_conf_goodr0_W, F_conf_goodr1_W, F_conf_goodr2_W, F_conf_goodr3_W, F_conf_goodr4_W, F_conf_goodr5_W, F_conf_goodr5_g2, F_conf_goodr5_g6, F_conf_goodr5_g9, F_conf_goodr5_g14, F_conf_goodr5_g17, F_conf_goodr6_W, F_conf_goodr6_g2, F_conf_goodr6_g6, F_conf_goodr6_g10, F_conf_goodr7_W, F_conf_goodr8_W, F_conf_goodl0_W, F_conf_goodr9_W, F_conf_goodr9_g2, F_conf_goodc_W, e4, a1, a2, b1, b2, c1, c2, e46, e95, e45]
    exact ⟨trivial, .inr ⟨hn, trivial, trivial⟩⟩
  · have a1 : ¬ ((97 : Int) ≤ c.toNat) := by omega
    have a2 : (c.toNat : Int) ≤ 122 := by omega
    have b1 : ¬ ((65 : Int) ≤ c.toNat) := by omega
    have b2 : (c.toNat : Int) ≤ 90 := by omega
    have c1 : ¬ ((48 : Int) ≤ c.toNat) := by omega
    have c2 : (c.toNat : Int) ≤ 57 := by omega
    have e46 : decide ((c.toNat : Int) = 46) = true := decide_eq_true (by omega)
    have e95 : decide ((c.toNat : Int) = 95) = false := decide_eq_false (by omega)
    have e45 : decide ((c.toNat : Int) = 45) = false := decide_eq_false (by omega)
    have hn : nmC c = true := nmC_t (by omega)
    simp only [fws, cond_true, cond_false, if_true, if_false, unV, isNil, optI, iV, stepI, evalR, reduceIte, reduceCtorEq, Nat.reduceEqDiff, Int.reduceLT, Int.reduceLE, Int.reduceToNat, Nat.reduceLT, Nat.reduceLeDiff, Int.reduceEq, Int.reduceNeg, IntKind.bits, Nat.reduceAdd, Nat.reduceMul, Nat.reducePow, Int.reducePow, ini, fwi, F_conf_goodr0_W, F_conf_goodr1_W, F_conf_goodr2_W, F_conf_goodr3_W, F_conf_goodr4_W, F_conf_goodr5_W, F_conf_goodr5_g2, F_conf_goodr5_g6, F_conf_goodr5_g9, F_conf_goodr5_g14, F_conf_goodr5_g17, F_conf_goodr6_W, F_conf_goodr6_g2, F_conf_goodr6_g6, F_conf_goodr6_g10, F_conf_goodr7_W, F_conf_goodr8_W, F_conf_goodl0_W, F_conf_goodr9_W, F_conf_goodr9_g2, F_conf_goodc_W, e4, a1, a2, b1, b2, c1, c2, e46, e95, e45]
    exact ⟨trivial, .inl ⟨hn, trivial, e0, e7, e8⟩⟩
  · have a1 : ¬ ((97 : Int) ≤ c.toNat) := by omega
    have a2 : (c.toNat : Int) ≤ 122 := by omega
    have b1 : ¬ ((65 : Int) ≤ c.toNat) := by omega
    have b2 : (c.toNat : Int) ≤ 90 := by omega
    have c1 : ¬ ((48 : Int) ≤ c.toNat) := by omega
    have c2 : (c.toNat : Int) ≤ 57 := by omega
    have e46 : decide ((c.toNat : Int) = 46) = false := decide_eq_false (by omega)
    have e95 : decide ((c.toNat : Int) = 95) = false := decide_eq_false (by omega)
    have e45 : decide ((c.toNat : Int) = 45) = true := decide_eq_true (by omega)
    have hn : nmC c = true := nmC_t (by omega)
    simp only [fws, cond_true, cond_false, if_true, if_false, unV, isNil, optI, iV, stepI, evalR, reduceIte, reduceCtorEq, Nat.reduceEqDiff, Int.reduceLT, Int.reduceLE, Int.reduceToNat, Nat.reduceLT, Nat.reduceLeDiff, Int.reduceEq, Int.reduceNeg, IntKind.bits, Nat.reduceAdd, Nat.reduceMul, Nat.reducePow, Int.reducePow, ini, fwi, F_conf_goodr0_W, F_conf_goodr1_W, F_conf_goodr2_W, F_conf_goodr3_W, F_conf_goodr4_W, F_conf_goodr5_W, F_conf_goodr5_g2, F_conf_goodr5_g6, F_conf_goodr5_g9, F_conf_goodr5_g14, F_conf_goodr5_g17, F_conf_goodr6_W, F_conf_goodr6_g2, F_conf_goodr6_g6, F_conf_goodr6_g10, F_conf_goodr7_W, F_conf_goodr8_W, F_conf_goodl0_W, F_conf_goodr9_W, F_conf_goodr9_g2, F_conf_goodc_W, e4, a1, a2, b1, b2, c1, c2, e46, e95, e45]
    exact ⟨trivial, .inl ⟨hn, trivial, e0, e7, e8⟩⟩
  · have a1 : ¬ ((97 : Int) ≤ c.toNat) := by omega
    have a2 : (c.toNat : Int) ≤ 122 := by omega
    have b1 : ¬ ((65 : Int) ≤ c.toNat) := by omega
    have b2 : (c.toNat : Int) ≤ 90 := by omega
    have c1 : ¬ ((48 : Int) ≤ c.toNat) := by omega
    have c2 : (c.toNat : Int) ≤ 57 := by omega
    have e46 : decide ((c.toNat : Int) = 46) = false := decide_eq_false (by omega)
    have e95 : decide ((c.toNat : Int) = 95) = false := decide_eq_false (by omega)
    have e45 : decide ((c.toNat : Int) = 45) = false := decide_eq_false (by omega)
    have hn : nmC c = false := nmC_f (by omega)
    simp only [fws, cond_true, cond_false, if_true, if_false, unV, isNil, optI, iV, stepI, evalR, reduceIte, reduceCtorEq, Nat.reduceEqDiff, Int.reduceLT, Int.reduceLE, Int.reduceToNat, Nat.reduceLT, Nat.reduceLeDiff, Int.reduceEq, Int.reduceNeg, IntKind.bits, Nat.reduceAdd, Nat.reduceMul, Nat.reducePow, Int.reducePow, ini, fwi, F_conf_goodr0_W, F_conf_goodr1_W, F_conf_goodr2_W, F_conf_goodr3_W, F_conf_goodr4_W, F_conf_goodr5_W, F_conf_goodr5_g2, F_conf_goodr5_g6, F_conf_goodr5_g9, F_conf_goodr5_g14, F_conf_goodr5_g17, F_conf_goodr6_W, F_conf_goodr6_g2, F_conf_goodr6_g6, F_conf_goodr6_g10, F_conf_goodr7_W, F_conf_goodr8_W, F_conf_goodl0_W, F_conf_goodr9_W, F_conf_goodr9_g2, F_conf_goodc_W, e4, a1, a2, b1, b2, c1, c2, e46, e95, e45]
    exact ⟨trivial, .inr ⟨hn, trivial, trivial⟩⟩
theorem loop_good (l : List UInt8) (hl : l.length ≤ 100000000) : ∀ (k i : Nat) (env : Env), i + k = l.length → env 0 = strV l → env 7 = .int .i64 l.length → env 8 = .int .i64 i →
    W T (.loop F_conf_goodl0) env [] fun x e h => h = [] ∧ ((x = .exit 0 ∧ e 0 = strV l ∧ (l.drop i).all nmC = true) ∨ (x = .ret ∧ e 2 = .bool false ∧ (l.drop i).all nmC = false)) := by
  intro k
  induction k with
  | zero =>
    intro i env hi e0 e7 e8
    have q : ¬ ((i : Int) < l.length) := by omega
    rw [w_loop, List.drop_of_length_le (by omega)]
    simp only [fws, cond_true, cond_false, if_true, if_false, unV, isNil, optI, iV, stepI, evalR, reduceIte, reduceCtorEq, Nat.reduceEqDiff, Int.reduceLT, Int.reduceLE, Int.reduceToNat, Nat.reduceLT, Nat.reduceLeDiff, Int.reduceEq, Int.reduceNeg, IntKind.bits, Nat.reduceAdd, Nat.reduceMul, Nat.reducePow, Int.reducePow, ini, fwi, F_conf_goodr0_W, F_conf_goodr1_W, F_conf_goodr2_W, F_conf_goodr3_W, F_conf_goodr4_W, F_conf_goodr5_W, F_conf_goodr5_g2, F_conf_goodr5_g6, F_conf_goodr5_g9, F_conf_goodr5_g14, F_conf_goodr5_g17, F_conf_goodr6_W, F_conf_goodr6_g2, F_conf_goodr6_g6, F_conf_goodr6_g10, F_conf_goodr7_W, F_conf_goodr8_W, F_conf_goodl0_W, F_conf_goodr9_W, F_conf_goodr9_g2, F_conf_goodc_W, e0, e7, e8, q]
    exact ⟨trivial, .inl ⟨trivial, trivial, rfl⟩⟩
  | succ k ih =>
    intro i env hi e0 e7 e8
    have hix : i < l.length := by omega
    have q : ((i : Int) < l.length) := by omega
    have q0 : (0 : Int) ≤ (i : Int) := by omega
    have g := getD_at hix
    have w2 : IntKind.i64.wrap ((i : Int) + 1) = ((i + 1 : Nat) : Int) := by rw [wrapI64 (by omega) (by omega)]; rfl
    rw [w_loop, List.drop_eq_getElem_cons hix, List.all_cons]
    simp only [fws, cond_true, cond_false, if_true, if_false, unV, isNil, optI, iV, stepI, evalR, reduceIte, reduceCtorEq, Nat.reduceEqDiff, Int.reduceLT, Int.reduceLE, Int.reduceToNat, Nat.reduceLT, Nat.reduceLeDiff, Int.reduceEq, Int.reduceNeg, IntKind.bits, Nat.reduceAdd, Nat.reduceMul, Nat.reducePow, Int.reducePow, ini, fwi, F_conf_goodr0_W, F_conf_goodr1_W, F_conf_goodr2_W, F_conf_goodr3_W, F_conf_goodr4_W, F_conf_goodr7_W, F_conf_goodr8_W, F_conf_goodl0_W, F_conf_goodr9_W, F_conf_goodr9_g2, F_conf_goodc_W, e0, e7, e8, q, q0, g, and_self, true_and]
    rw [← w_seq]
    refine W.mono (st_good (T := T) l[i] (v0 := strV l) (v7 := .int .i64 l.length) (v8 := .int .i64 i) ?_ ?_ ?_ ?_) fun x e h ⟨q1, q2⟩ => ?_
    all_goals try (first | assumption | rfl)
    subst q1
    rcases q2 with ⟨hn, rfl, e0, e7, e8⟩ | ⟨hn, rfl, e2⟩
    · rw [hn, Bool.true_and]
      simp only [fws, cond_true, cond_false, if_true, if_false, unV, isNil, optI, iV, stepI, evalR, reduceIte, reduceCtorEq, Nat.reduceEqDiff, Int.reduceLT, Int.reduceLE, Int.reduceToNat, Nat.reduceLT, Nat.reduceLeDiff, Int.reduceEq, Int.reduceNeg, IntKind.bits, Nat.reduceAdd, Nat.reduceMul, Nat.reducePow, Int.reducePow, ini, fwi, F_conf_goodr0_W, F_conf_goodr1_W, F_conf_goodr2_W, F_conf_goodr3_W, F_conf_goodr4_W, F_conf_goodr7_W, F_conf_goodr8_W, F_conf_goodl0_W, F_conf_goodr9_W, F_conf_goodr9_g2, F_conf_goodc_W, e8, w2]
      refine ih (i + 1) _ (by omega) ?_ ?_ ?_
      all_goals (first | assumption | rfl)
    · rw [hn, Bool.false_and]
      simp only [fws, cond_true, cond_false, if_true, if_false, unV, isNil, optI, iV, stepI, evalR, reduceIte, reduceCtorEq, Nat.reduceEqDiff, Int.reduceLT, Int.reduceLE, Int.reduceToNat, Nat.reduceLT, Nat.reduceLeDiff, Int.reduceEq, Int.reduceNeg, IntKind.bits, Nat.reduceAdd, Nat.reduceMul, Nat.reducePow, Int.reducePow, ini]
      exact ⟨trivial, .inr ⟨trivial, e2, trivial⟩⟩
theorem f_good (h : T 31 = some F_conf_good) (l : List UInt8) (hl : l.length ≤ 100000000) : FnV T 31 [strV l] (.bool (goodB l)) := by
  refine FnV_of rfl ?_
  rw [Ev_fn h rfl]
  simp only [F_conf_good, fws, cond_true, cond_false, if_true, if_false, unV, isNil, optI, iV, stepI, evalR, reduceIte, reduceCtorEq, Nat.reduceEqDiff, Int.reduceLT, Int.reduceLE, Int.reduceToNat, Nat.reduceLT, Nat.reduceLeDiff, Int.reduceEq, Int.reduceNeg, IntKind.bits, Nat.reduceAdd, Nat.reduceMul, Nat.reducePow, Int.reducePow, ini, fwh, lk, cellsAt, tagOf, spotOf, rdN, spl, fillL, zr, fwi, F_conf_goodr0_W, F_conf_goodr1_W, F_conf_goodr2_W, F_conf_goodr3_W, F_conf_goodr4_W, F_conf_goodr5_W, F_conf_goodr5_g2, F_conf_goodr5_g6, F_conf_goodr5_g9, F_conf_goodr5_g14, F_conf_goodr5_g17, F_conf_goodr6_W, F_conf_goodr6_g2, F_conf_goodr6_g6, F_conf_goodr6_g10, F_conf_goodr7_W, F_conf_goodr8_W, F_conf_goodr9_W, F_conf_goodr9_g2, F_conf_goodc_W, lenI_str]
  refine W.mono (loop_good l hl l.length 0 _ (Nat.zero_add _) ?_ ?_ ?_) fun x e h ⟨q1, q2⟩ => ?_
  all_goals try (first | assumption | rfl)
  subst q1
  rw [List.drop_zero] at q2
  unfold goodB
  rcases q2 with ⟨rfl, e0, hq⟩ | ⟨rfl, e2, hq⟩
  · rw [hq]
    by_cases hn : l = []
    · subst hn
      have b0 : strEq ⟨([] : List UInt8).toArray⟩ ⟨#[]⟩ = true := rfl
      simp only [fws, cond_true, cond_false, if_true, if_false, unV, isNil, optI, iV, stepI, evalR, reduceIte, reduceCtorEq, Nat.reduceEqDiff, Int.reduceLT, Int.reduceLE, Int.reduceToNat, Nat.reduceLT, Nat.reduceLeDiff, Int.reduceEq, Int.reduceNeg, IntKind.bits, Nat.reduceAdd, Nat.reduceMul, Nat.reducePow, Int.reducePow, ini, fwi, F_conf_goodr0_W, F_conf_goodr1_W, F_conf_goodr2_W, F_conf_goodr3_W, F_conf_goodr4_W, F_conf_goodr5_W, F_conf_goodr5_g2, F_conf_goodr5_g6, F_conf_goodr5_g9, F_conf_goodr5_g14, F_conf_goodr5_g17, F_conf_goodr6_W, F_conf_goodr6_g2, F_conf_goodr6_g6, F_conf_goodr6_g10, F_conf_goodr7_W, F_conf_goodr8_W, F_conf_goodl0_W, F_conf_goodr9_W, F_conf_goodr9_g2, F_conf_goodc_W, e0, b0]
      rfl
    · have b0 := ne_str hn
      have d0 : decide (l ≠ []) = true := decide_eq_true hn
      rw [d0]
      by_cases h256 : l.length ≤ 256
      · have q : ((l.length : Int) ≤ 256) := by omega
        simp only [fws, cond_true, cond_false, if_true, if_false, unV, isNil, optI, iV, stepI, evalR, reduceIte, reduceCtorEq, Nat.reduceEqDiff, Int.reduceLT, Int.reduceLE, Int.reduceToNat, Nat.reduceLT, Nat.reduceLeDiff, Int.reduceEq, Int.reduceNeg, IntKind.bits, Nat.reduceAdd, Nat.reduceMul, Nat.reducePow, Int.reducePow, ini, fwi, F_conf_goodr0_W, F_conf_goodr1_W, F_conf_goodr2_W, F_conf_goodr3_W, F_conf_goodr4_W, F_conf_goodr5_W, F_conf_goodr5_g2, F_conf_goodr5_g6, F_conf_goodr5_g9, F_conf_goodr5_g14, F_conf_goodr5_g17, F_conf_goodr6_W, F_conf_goodr6_g2, F_conf_goodr6_g6, F_conf_goodr6_g10, F_conf_goodr7_W, F_conf_goodr8_W, F_conf_goodl0_W, F_conf_goodr9_W, F_conf_goodr9_g2, F_conf_goodc_W, e0, b0, lenI_str, q, h256]
        rfl
      · have q : ¬ ((l.length : Int) ≤ 256) := by omega
        simp only [fws, cond_true, cond_false, if_true, if_false, unV, isNil, optI, iV, stepI, evalR, reduceIte, reduceCtorEq, Nat.reduceEqDiff, Int.reduceLT, Int.reduceLE, Int.reduceToNat, Nat.reduceLT, Nat.reduceLeDiff, Int.reduceEq, Int.reduceNeg, IntKind.bits, Nat.reduceAdd, Nat.reduceMul, Nat.reducePow, Int.reducePow, ini, fwi, F_conf_goodr0_W, F_conf_goodr1_W, F_conf_goodr2_W, F_conf_goodr3_W, F_conf_goodr4_W, F_conf_goodr5_W, F_conf_goodr5_g2, F_conf_goodr5_g6, F_conf_goodr5_g9, F_conf_goodr5_g14, F_conf_goodr5_g17, F_conf_goodr6_W, F_conf_goodr6_g2, F_conf_goodr6_g6, F_conf_goodr6_g10, F_conf_goodr7_W, F_conf_goodr8_W, F_conf_goodl0_W, F_conf_goodr9_W, F_conf_goodr9_g2, F_conf_goodc_W, e0, b0, lenI_str, q, h256]
        rfl
  · rw [hq]
    simp only [fws, cond_true, cond_false, if_true, if_false, unV, isNil, optI, iV, stepI, evalR, reduceIte, reduceCtorEq, Nat.reduceEqDiff, Int.reduceLT, Int.reduceLE, Int.reduceToNat, Nat.reduceLT, Nat.reduceLeDiff, Int.reduceEq, Int.reduceNeg, IntKind.bits, Nat.reduceAdd, Nat.reduceMul, Nat.reducePow, Int.reducePow, ini, F_conf_goodr0_W, F_conf_goodr1_W, F_conf_goodr2_W, F_conf_goodr3_W, F_conf_goodr4_W, F_conf_goodr5_W, F_conf_goodr5_g2, F_conf_goodr5_g6, F_conf_goodr5_g9, F_conf_goodr5_g14, F_conf_goodr5_g17, F_conf_goodr6_W, F_conf_goodr6_g2, F_conf_goodr6_g6, F_conf_goodr6_g10, F_conf_goodr7_W, F_conf_goodr8_W, F_conf_goodl0_W, F_conf_goodr9_W, F_conf_goodr9_g2, F_conf_goodc_W, e2]
    rfl
/-- What stands between the members of a list. -/
def linksL : List UInt8 := [46, 108, 105, 110, 107, 115]
def addL : List UInt8 := [97, 100, 100, 105, 116, 105, 111, 110, 97, 108, 46, 110, 97, 109, 101, 115, 112, 97, 99, 101, 115]
def betw (l : List UInt8) : List UInt8 := if l = addL ∨ endsB l linksL = true then [44] else [58]
theorem f_between (t : LF T) (h : T 45 = some F_conf_between) (l : List UInt8) (hl : l.length ≤ 100000000) : FnV T 45 [strV l] (strV (betw l)) := by
  refine FnV_of rfl ?_
  rw [Ev_fn h rfl]
  have c1 := f_hs t l linksL hl
  unfold linksL at c1
  unfold betw
  have hq : strEq ⟨l.toArray⟩ ⟨#[97, 100, 100, 105, 116, 105, 111, 110, 97, 108, 46, 110, 97, 109, 101, 115, 112, 97, 99, 101, 115]⟩ = decide (l = addL) := by
    show strEq ⟨l.toArray⟩ ⟨addL.toArray⟩ = _
    rw [strEq_str]
  by_cases h1 : l = addL
  · rw [decide_eq_true h1] at hq
    rw [if_pos (.inl h1)]
    simp only [F_conf_between, fws, cond_true, cond_false, if_true, if_false, unV, isNil, optI, iV, stepI, evalR, reduceIte, reduceCtorEq, Nat.reduceEqDiff, Int.reduceLT, Int.reduceLE, Int.reduceToNat, Nat.reduceLT, Nat.reduceLeDiff, Int.reduceEq, Int.reduceNeg, IntKind.bits, Nat.reduceAdd, Nat.reduceMul, Nat.reducePow, Int.reducePow, ini, F_conf_betweenr0_W, F_conf_betweenr1_W, F_conf_betweenr1_g2, F_conf_betweenr2_W, F_conf_betweenr3_W, F_conf_betweenc_W, hq]
    rfl
  · rw [decide_eq_false h1] at hq
    cases h2 : endsB l linksL with
    | true =>
      unfold linksL at h2
      rw [h2] at c1
      rw [if_pos (.inr rfl)]
      simp only [F_conf_between, fws, cond_true, cond_false, if_true, if_false, unV, isNil, optI, iV, stepI, evalR, reduceIte, reduceCtorEq, Nat.reduceEqDiff, Int.reduceLT, Int.reduceLE, Int.reduceToNat, Nat.reduceLT, Nat.reduceLeDiff, Int.reduceEq, Int.reduceNeg, IntKind.bits, Nat.reduceAdd, Nat.reduceMul, Nat.reducePow, Int.reducePow, ini, F_conf_betweenr0_W, F_conf_betweenr1_W, F_conf_betweenr1_g2, F_conf_betweenr2_W, F_conf_betweenr3_W, F_conf_betweenc_W, hq, CC_of c1]
      rfl
    | false =>
      unfold linksL at h2
      rw [h2] at c1
      rw [if_neg (by simp [h1])]
      simp only [F_conf_between, fws, cond_true, cond_false, if_true, if_false, unV, isNil, optI, iV, stepI, evalR, reduceIte, reduceCtorEq, Nat.reduceEqDiff, Int.reduceLT, Int.reduceLE, Int.reduceToNat, Nat.reduceLT, Nat.reduceLeDiff, Int.reduceEq, Int.reduceNeg, IntKind.bits, Nat.reduceAdd, Nat.reduceMul, Nat.reducePow, Int.reducePow, ini, F_conf_betweenr0_W, F_conf_betweenr1_W, F_conf_betweenr1_g2, F_conf_betweenr2_W, F_conf_betweenr3_W, F_conf_betweenc_W, hq, CC_of c1]
      rfl
end
end Go.Proofs.YtbhoaiacnoiocaaDoor
/- Texts, parted at each sign. -/
namespace Go.Proofs.YtbhoaiacnoiocaaDoor
open Go Fw
set_option linter.unusedSimpArgs false
set_option linter.unusedVariables false
set_option linter.unusedSectionVars false

def splitF (c : UInt8) : List UInt8 → List (List UInt8)
  | [] => [[]]
  | b :: l => if b = c then [] :: splitF c l else match splitF c l with
    | [] => [[b]]
    | x :: r => (b :: x) :: r
theorem splitF_ne (c : UInt8) (l : List UInt8) : splitF c l ≠ [] := by
  cases l with
  | nil => simp [splitF]
  | cons b l =>
    simp only [splitF]
    split
    · simp
    · split <;> simp
theorem splitF_len (c : UInt8) (l : List UInt8) : (splitF c l).length = l.count c + 1 := by
  induction l with
  | nil => rfl
  | cons b l ih =>
    simp only [splitF]
    by_cases h : b = c
    · rw [if_pos h, List.length_cons, ih, h, List.count_cons_self]
    · rw [if_neg h, List.count_cons_of_ne h]
      split
      · rename_i h2
        exact absurd h2 (splitF_ne c l)
      · rename_i x r h2
        rw [← ih, h2]; rfl
theorem splitF_no {c : UInt8} {l : List UInt8} (h : c ∉ l) : splitF c l = [l] := by
  induction l with
  | nil => rfl
  | cons b l ih =>
    have h1 : b ≠ c := fun e => h (by simp [e])
    have h2 := ih fun hc => h (List.mem_cons_of_mem _ hc)
    simp only [splitF, h2]
    rw [if_neg h1]
theorem splitF_yes {c : UInt8} {l : List UInt8} (h : c ∈ l) : splitF c l = l.takeWhile (· != c) :: splitF c (l.drop ((l.takeWhile (· != c)).length + 1)) := by
  induction l with
  | nil => cases h
  | cons b l ih =>
    by_cases hb : b = c
    · subst hb
      simp [splitF]
    · have h' : c ∈ l := by
        rcases List.mem_cons.1 h with h | h
        · exact absurd h.symm hb
        · exact h
      have h2 : ((b :: l).takeWhile (· != c)) = b :: l.takeWhile (· != c) := by simp [hb]
      rw [h2]
      simp only [splitF]
      rw [if_neg hb, ih h']
      simp
theorem count_yes {c : UInt8} {l : List UInt8} (h : c ∈ l) : l.count c = (l.drop ((l.takeWhile (· != c)).length + 1)).count c + 1 := by
  have h1 := splitF_len c l
  rw [splitF_yes h, List.length_cons, splitF_len] at h1
  omega
theorem splitF_mem {c : UInt8} {l : List UInt8} : ∀ x ∈ splitF c l, x.length ≤ l.length := by
  induction l with
  | nil => intro x hx; simp [splitF] at hx; simp [hx]
  | cons b l ih =>
    intro x hx
    simp only [splitF] at hx
    split at hx
    · rcases List.mem_cons.1 hx with rfl | hx
      · simp
      · have := ih x hx; simp; omega
    · split at hx
      · simp at hx; simp [hx]
      · rename_i y r h2
        rcases List.mem_cons.1 hx with rfl | hx
        · have := ih y (by rw [h2]; simp); simp; omega
        · have := ih x (by rw [h2]; simp [hx]); simp; omega
theorem strE_rep (n : Nat) : strE.cs (List.replicate n ([] : List UInt8)) = List.replicate n (.string ⟨#[]⟩) := by
  induction n with
  | zero => rfl
  | succ n ih => rw [List.replicate_succ, List.replicate_succ, cs_cons, ih]; rfl
section
variable {T : Tab} (t : LF T)
include t
theorem loop_gen (c : UInt8) : ∀ (k : Nat) (s : List UInt8) (xs : List (List UInt8)) (env : Env) (v : Value) (H : Heap), s.count c = k → s.length ≤ 1000000 → xs.length + k ≤ 1000000 → Acc strE [] v H (xs ++ List.replicate (k + 1) []) →
    env 0 = strV s → env 1 = strV [c] → env 2 = .int .i64 0 → env 3 = .int .i64 ((xs.length + k : Nat) : Int) → env 9 = v → env 10 = .int .i64 xs.length →
    W T (.loop F_strings_genSplitl0) env H fun x e h => x = .exit 0 ∧ ∃ ys s', Acc strE [] v h (ys ++ [[]]) ∧ e 9 = v ∧ e 0 = strV s' ∧ e 10 = .int .i64 ys.length ∧ ys ++ [s'] = xs ++ splitF c s := by
  intro k
  induction k with
  | zero =>
    intro s xs env v H hc hs hx ha e0 e1 e2 e3 e9 e10
    have q : ¬ ((xs.length : Int) < ((xs.length + 0 : Nat) : Int)) := by omega
    have hns : c ∉ s := by rw [← List.count_eq_zero]; exact hc
    rw [w_loop]
    simp only [fws, cond_true, cond_false, if_true, if_false, unV, isNil, optI, iV, stepI, evalR, reduceIte, reduceCtorEq, Nat.reduceEqDiff, Int.reduceLT, Int.reduceLE, Int.reduceToNat, Nat.reduceLT, Nat.reduceLeDiff, Int.reduceEq, Int.reduceNeg, IntKind.bits, Nat.reduceAdd, Nat.reduceMul, Nat.reducePow, Int.reducePow, ini, F_strings_genSplitr0_W, F_strings_genSplitr1_W, F_strings_genSplitr2_W, F_strings_genSplitr3_W, F_strings_genSplitr4_W, F_strings_genSplitr5_W, F_strings_genSplitr6_W, F_strings_genSplitr7_W, F_strings_genSplitr8_W, F_strings_genSplitr9_W, F_strings_genSplitr10_W, F_strings_genSplitr11_W, F_strings_genSplitr12_W, F_strings_genSplitr13_W, F_strings_genSplitr14_W, F_strings_genSplitr15_W, F_strings_genSplitr16_W, F_strings_genSplitl0_W, F_strings_genSplitr17_W, F_strings_genSplitr18_W, F_strings_genSplitc_W, e3, e10, q]
    exact ⟨trivial, xs, s, ha, e9, e0, rfl, by rw [splitF_no hns]⟩
  | succ k ih =>
    intro s xs env v H hc hs hx ha e0 e1 e2 e3 e9 e10
    have q : ((xs.length : Int) < ((xs.length + (k + 1) : Nat) : Int)) := by omega
    have hyes : c ∈ s := by rw [← List.count_pos_iff, hc]; exact Nat.succ_pos _
    obtain ⟨i1, i2, i3⟩ := idxB_yes hyes
    have c1 := f_sindex t s c
    rw [i1] at c1
    have hcnt := count_yes hyes
    have hsp := splitF_yes hyes
    have htk : s.take (s.takeWhile (· != c)).length = s.takeWhile (· != c) := (List.prefix_iff_eq_take.1 (List.takeWhile_prefix _)).symm
    generalize hn : (s.takeWhile (· != c)).length = n at *
    have q1 : ¬ ((n : Int) < 0) := by omega
    have w0 : IntKind.i64.wrap ((n : Int) + 0) = (n : Int) := by rw [wrapI64 (by omega) (by omega)]; omega
    have w1 : IntKind.i64.wrap ((n : Int) + 1) = ((n + 1 : Nat) : Int) := by rw [wrapI64 (by omega) (by omega)]; rfl
    have w2 : IntKind.i64.wrap ((xs.length : Int) + 1) = ((xs.length + 1 : Nat) : Int) := by rw [wrapI64 (by omega) (by omega)]; rfl
    have q2 : (n : Int) ≤ (s.length : Int) := by omega
    have q3 : ((n + 1 : Nat) : Int) ≤ (s.length : Int) := by omega
    have q4 : (0 : Int) ≤ ((n + 1 : Nat) : Int) := by omega
    have q5 : (0 : Int) ≤ (n : Int) := by omega
    have td : (s.drop (n + 1)).take (s.length - (n + 1)) = s.drop (n + 1) := List.take_of_length_le (by rw [List.length_drop]; exact Nat.le_refl _)
    have hix : xs.length < (xs ++ List.replicate (k + 1 + 1) ([] : List UInt8)).length := by simp
    obtain ⟨a, tag, cs, a1, a2, a3, a4, a5⟩ := ha.ix1 rfl hix .i64 (f := strV) (fun _ => rfl)
    have ha2 := a5 (s.takeWhile (· != c))
    have hset : (xs ++ List.replicate (k + 1 + 1) ([] : List UInt8)).set xs.length (s.takeWhile (· != c)) = (xs ++ [s.takeWhile (· != c)]) ++ List.replicate (k + 1) [] := by
      rw [List.set_append_right _ _ (Nat.le_refl _), Nat.sub_self, List.replicate_succ, List.set_cons_zero, List.append_assoc]; rfl
    rw [hset] at ha2
    rw [w_loop]
    have b1 : decide (a.off + 1 ≤ cs.length) = true := decide_eq_true a4
    simp only [fws, cond_true, cond_false, if_true, if_false, unV, isNil, optI, iV, stepI, evalR, reduceIte, reduceCtorEq, Nat.reduceEqDiff, Int.reduceLT, Int.reduceLE, Int.reduceToNat, Nat.reduceLT, Nat.reduceLeDiff, Int.reduceEq, Int.reduceNeg, IntKind.bits, Nat.reduceAdd, Nat.reduceMul, Nat.reducePow, Int.reducePow, ini, fwh, fwi, spl, F_strings_genSplitr0_W, F_strings_genSplitr1_W, F_strings_genSplitr2_W, F_strings_genSplitr3_W, F_strings_genSplitr4_W, F_strings_genSplitr5_W, F_strings_genSplitr6_W, F_strings_genSplitr7_W, F_strings_genSplitr8_W, F_strings_genSplitr9_W, F_strings_genSplitr10_W, F_strings_genSplitr11_W, F_strings_genSplitr12_W, F_strings_genSplitr13_W, F_strings_genSplitr14_W, F_strings_genSplitr15_W, F_strings_genSplitr16_W, F_strings_genSplitl0_W, F_strings_genSplitr17_W, F_strings_genSplitr18_W, F_strings_genSplitc_W, e0, e1, e2, e3, e9, e10, q, CC_of c1, q1, w0, w1, w2, q2, q3, q4, q5, true_and, and_self, Int.le_refl, lenI_str, Nat.sub_zero, htk, td, a1, a3, b1, List.length_singleton]
    refine W.mono (ih (s.drop (n + 1)) (xs ++ [s.takeWhile (· != c)]) _ v _ (by omega) (by rw [List.length_drop]; omega) (by rw [List.length_append, List.length_singleton]; omega) ha2 ?_ ?_ ?_ ?_ ?_ ?_) fun x e h ⟨r1, ys, s', r2, r3, r4, r5, r6⟩ => ?_
    · (first | assumption | rfl)
    · (first | assumption | rfl)
    · (first | assumption | rfl)
    · rw [List.length_append, List.length_singleton]
      have : xs.length + 1 + k = xs.length + (k + 1) := by omega
      rw [this]
      exact e3
    · (first | assumption | rfl)
    · rw [List.length_append, List.length_singleton]; rfl
    · exact ⟨r1, ys, s', r2, r3, r4, r5, by rw [r6, hsp, List.append_assoc]; rfl⟩
def SplP (v : Value) (o : List (List UInt8)) : Prop := v = imm strE o
theorem f_genSplit (l : List UInt8) (hl : l.length ≤ 900000) (c : UInt8) : FnV T 25 [strV l, strV [c], .int .i64 0, .int .i64 (-1)] (imm strE (splitF c l)) := by
  refine FnV_of rfl ?_
  rw [Ev_fn t.gen rfl]
  have c1 := f_count t l c
  have hc : cntB l c = ((l.count c : Nat) : Int) := rfl
  rw [hc] at c1
  have hle : l.count c ≤ l.length := List.count_le_length
  generalize hk : l.count c = k at *
  have q0 : ¬ ((-1 : Int) = 0) := by decide
  have q1 : ((-1 : Int) < 0) := by decide
  have b0 : strEq ⟨[c].toArray⟩ ⟨#[]⟩ = false := ne_str (by simp)
  have w1 : IntKind.i64.wrap ((k : Int) + 1) = ((k + 1 : Nat) : Int) := by rw [wrapI64 (by omega) (by omega)]; rfl
  have w2 : IntKind.i64.wrap ((l.length : Int) + 1) = ((l.length + 1 : Nat) : Int) := by rw [wrapI64 (by omega) (by omega)]; rfl
  have q2 : ¬ (((l.length + 1 : Nat) : Int) < ((k + 1 : Nat) : Int)) := by omega
  have q3 : (0 : Int) ≤ ((k + 1 : Nat) : Int) ∧ ((k + 1 : Nat) : Int) ≤ ((k + 1 : Nat) : Int) ∧ ((k + 1 : Nat) : Int) * 16 ≤ 281474976710656 := by omega
  have w3 : IntKind.i64.wrap (((k + 1 : Nat) : Int) - 1) = (k : Int) := by rw [wrapI64 (by omega) (by omega)]; omega
  have ha : Acc strE [] (own 0 0 (k + 1)) [⟨0, .cells false 1 (List.replicate (k + 1) (.string ⟨#[]⟩))⟩] (List.replicate (k + 1) []) := by
    refine .inr ⟨by simp [List.replicate_succ], 0, by simp, ?_⟩
    rw [← strE_rep]; rfl
  simp only [F_strings_genSplit, fws, cond_true, cond_false, if_true, if_false, unV, isNil, optI, iV, stepI, evalR, reduceIte, reduceCtorEq, Nat.reduceEqDiff, Int.reduceLT, Int.reduceLE, Int.reduceToNat, Nat.reduceLT, Nat.reduceLeDiff, Int.reduceEq, Int.reduceNeg, IntKind.bits, Nat.reduceAdd, Nat.reduceMul, Nat.reducePow, Int.reducePow, ini, fwh, fwi, F_strings_genSplitr0_W, F_strings_genSplitr1_W, F_strings_genSplitr2_W, F_strings_genSplitr3_W, F_strings_genSplitr4_W, F_strings_genSplitr5_W, F_strings_genSplitr6_W, F_strings_genSplitr7_W, F_strings_genSplitr8_W, F_strings_genSplitr9_W, F_strings_genSplitr10_W, F_strings_genSplitr11_W, F_strings_genSplitr12_W, F_strings_genSplitr13_W, F_strings_genSplitr14_W, F_strings_genSplitr15_W, F_strings_genSplitr16_W, F_strings_genSplitc_W, q0, q1, b0, CC_of c1, w1, w2, q2, q3, w3, lenI_str, and_self]
  have ha' : Acc strE [] (own 0 0 (k + 1)) [⟨0, .cells false 1 (.string ⟨#[]⟩ :: List.replicate k (.string ⟨#[]⟩))⟩] ([] ++ List.replicate (k + 1) []) := ha
  refine W.mono (loop_gen t c k l [] _ _ _ hk (by omega) (by simp; omega) ha' ?_ ?_ ?_ ?_ ?_ ?_) fun x e h ⟨r1, ys, s', r2, r3, r4, r5, r6⟩ => ?_
  · (first | assumption | rfl)
  · (first | assumption | rfl)
  · (first | assumption | rfl)
  · show Value.int .i64 (k : Int) = .int .i64 ((0 + k : Nat) : Int); rw [Nat.zero_add]
  · (first | assumption | rfl)
  · (first | assumption | rfl)
  subst r1
  have hix : ys.length < (ys ++ [([] : List UInt8)]).length := by simp
  obtain ⟨a, tag, cs, a1, a2, a3, a4, a5⟩ := r2.ix1 rfl hix .i64 (f := strV) (fun _ => rfl)
  have ha2 := a5 s'
  have hset : (ys ++ [([] : List UInt8)]).set ys.length s' = splitF c l := by
    rw [List.set_append_right _ _ (Nat.le_refl _), Nat.sub_self]; exact r6
  rw [hset] at ha2
  have b1 : decide (a.off + 1 ≤ cs.length) = true := decide_eq_true a4
  have hyl : (splitF c l).length = ys.length + 1 := by rw [← hset]; simp
  have hkl : (splitF c l).length = k + 1 := by rw [splitF_len, hk]
  have w4 : IntKind.i64.wrap ((ys.length : Int) + 1) = (((splitF c l).length : Nat) : Int) := by rw [wrapI64 (by omega) (by omega)]; omega
  obtain ⟨v', f1, f2⟩ := ha2.front (n := 1) rfl (splitF_ne c l) (Nat.le_refl _) .i64
  simp only [fws, cond_true, cond_false, if_true, if_false, unV, isNil, optI, iV, stepI, evalR, reduceIte, reduceCtorEq, Nat.reduceEqDiff, Int.reduceLT, Int.reduceLE, Int.reduceToNat, Nat.reduceLT, Nat.reduceLeDiff, Int.reduceEq, Int.reduceNeg, IntKind.bits, Nat.reduceAdd, Nat.reduceMul, Nat.reducePow, Int.reducePow, ini, fwh, fwi, spl, F_strings_genSplitr0_W, F_strings_genSplitr1_W, F_strings_genSplitr2_W, F_strings_genSplitr3_W, F_strings_genSplitr4_W, F_strings_genSplitr5_W, F_strings_genSplitr6_W, F_strings_genSplitr7_W, F_strings_genSplitr8_W, F_strings_genSplitr9_W, F_strings_genSplitr10_W, F_strings_genSplitr11_W, F_strings_genSplitr12_W, F_strings_genSplitr13_W, F_strings_genSplitr14_W, F_strings_genSplitr15_W, F_strings_genSplitr16_W, F_strings_genSplitr17_W, F_strings_genSplitr18_W, F_strings_genSplitc_W, r3, r4, r5, a1, a3, b1, w4]
  rw [f1]
  simp only [fws, cond_true, cond_false, if_true, if_false, unV, isNil, optI, iV, stepI, evalR, reduceIte, reduceCtorEq, Nat.reduceEqDiff, Int.reduceLT, Int.reduceLE, Int.reduceToNat, Nat.reduceLT, Nat.reduceLeDiff, Int.reduceEq, Int.reduceNeg, IntKind.bits, Nat.reduceAdd, Nat.reduceMul, Nat.reducePow, Int.reducePow, ini, fwh, fwi, spl, F_strings_genSplitr0_W, F_strings_genSplitr1_W, F_strings_genSplitr2_W, F_strings_genSplitr3_W, F_strings_genSplitr4_W, F_strings_genSplitr5_W, F_strings_genSplitr6_W, F_strings_genSplitr7_W, F_strings_genSplitr8_W, F_strings_genSplitr9_W, F_strings_genSplitr10_W, F_strings_genSplitr11_W, F_strings_genSplitr12_W, F_strings_genSplitr13_W, F_strings_genSplitr14_W, F_strings_genSplitr15_W, F_strings_genSplitr16_W, F_strings_genSplitr17_W, F_strings_genSplitr18_W, F_strings_genSplitc_W]
  have := f2 7 (by decide)
  rw [List.take_length] at this
  exact this
theorem f_split (l : List UInt8) (hl : l.length ≤ 900000) (c : UInt8) : FnV T 14 [strV l, strV [c]] (imm strE (splitF c l)) := by
  refine FnV_of rfl ?_
  rw [Ev_fn t.split rfl]
  have c1 := f_genSplit t l hl c
  simp only [F_strings_Split, fws, cond_true, cond_false, if_true, if_false, unV, isNil, optI, iV, stepI, evalR, reduceIte, reduceCtorEq, Nat.reduceEqDiff, Int.reduceLT, Int.reduceLE, Int.reduceToNat, Nat.reduceLT, Nat.reduceLeDiff, Int.reduceEq, Int.reduceNeg, IntKind.bits, Nat.reduceAdd, Nat.reduceMul, Nat.reducePow, Int.reducePow, ini, fwh, lk, cellsAt, tagOf, spotOf, rdN, spl, fillL, zr, fwi, F_strings_Splitr0_W, F_strings_Splitr1_W, F_strings_Splitc_W, CC_of c1]
  exact frz_pure (pure_imm rfl)
end
end Go.Proofs.YtbhoaiacnoiocaaDoor
/- Paths: which may be one; their names; cleaned. Here it is enough that there is an answer. -/
namespace Go.Proofs.YtbhoaiacnoiocaaDoor
open Go Fw
set_option linter.unusedSimpArgs false
set_option linter.unusedVariables false
set_option linter.unusedSectionVars false

section
variable {α : Type} {E : Enc α} {H : Heap} {v : Value} {l m : List α}
/-- A list that may have been cut. -/
def Owp (E : Enc α) (H : Heap) (v : Value) (l : List α) : Prop := (l = [] ∧ v = .slice none 0 0) ∨ ∃ b tag c rest, v = .slice (some ⟨b, 0, spotOf tag⟩) l.length c ∧ l.length ≤ c ∧ H[b]? = some ⟨tag, .cells false E.u (E.cs l ++ rest)⟩
theorem Owp.nil : Owp E H (.slice none 0 0) ([] : List α) := .inl ⟨rfl, rfl⟩
theorem Owp.len (h : Owp E H v l) : lenI H 1 v = some (.int .i64 l.length, H) := by
  rcases h with ⟨rfl, rfl⟩ | ⟨b, tag, c, rest, rfl, _, _⟩ <;> rfl
theorem Owp.pop {n : Nat} (hn : n = E.u) (h : Owp E H v l) (hl : l ≠ []) : ∃ v', sleI H n v none (some (.int .i64 (l.length - 1 : Nat))) none = some (v', H) ∧ Owp E H v' l.dropLast := by
  subst hn
  have hpos : 0 < l.length := List.length_pos_iff.2 hl
  rcases h with ⟨rfl, _⟩ | ⟨b, tag, c, rest, rfl, hc, hH⟩
  · exact absurd rfl hl
  · have hlk : lk H ⟨b, 0, spotOf tag⟩ = some ⟨tag, .cells false E.u (E.cs l ++ rest)⟩ := own_lk hH
    refine ⟨.slice (some ⟨b, 0, spotOf tag⟩) l.dropLast.length c, ?_, .inr ⟨b, tag, c, E.cs (l.drop (l.length - 1)) ++ rest, rfl, by rw [List.length_dropLast]; omega, ?_⟩⟩
    · simp only [sleI, optJ, iV, hlk, Nat.beq_refl, Bool.or_true, cond_true]
      rw [if_pos ⟨Int.le_refl 0, by omega, by omega, by omega⟩]
      simp
    · rw [hH, ← List.append_assoc, ← cs_append]
      congr 4
      rw [List.dropLast_eq_take]
      rw [List.take_append_drop]
theorem Owp.app {n eb k : Nat} (hn : n = E.u) (h : Owp E H v l) (hk : k = m.length) (hb : (l.length + m.length) * eb ≤ 140737488355328) :
    ∃ v' H', appV n eb H v (E.cs m) k = some (v', H') ∧ Owp E H' v' (l ++ m) := by
  subst hn hk
  rcases h with ⟨rfl, rfl⟩ | ⟨b, tag, c, rest, rfl, hc, hH⟩
  · obtain ⟨v', H', h1, h2, _⟩ := (Own.nil (E := E) (H := H)).app (m := m) (n := E.u) (eb := eb) rfl rfl hb
    refine ⟨v', H', h1, ?_⟩
    rcases h2 with ⟨h3, h4⟩ | ⟨b, tag, h3, h4⟩
    · exact .inl ⟨h3, h4⟩
    · exact .inr ⟨b, tag, _, [], h3, Nat.le_refl _, by rw [List.append_nil]; exact h4⟩
  · have hlk : lk H ⟨b, 0, spotOf tag⟩ = some ⟨tag, .cells false E.u (E.cs l ++ rest)⟩ := own_lk hH
    have hlt := (List.getElem?_eq_some_iff.1 hH).1
    have htk : (E.cs l ++ rest).take (0 + l.length * E.u) = E.cs l := by rw [Nat.zero_add, ← cs_length]; exact List.take_left
    have h2 : (H.set b ⟨tag, .cells false E.u (E.cs l)⟩)[b]? = some ⟨tag, .cells false E.u (E.cs l)⟩ := List.getElem?_set_self hlt
    have hlk2 : lk (H.set b ⟨tag, .cells false E.u (E.cs l)⟩) ⟨b, 0, spotOf tag⟩ = some ⟨tag, .cells false E.u (E.cs l)⟩ := own_lk h2
    refine ⟨.slice (some ⟨b, 0, spotOf (tag + 1)⟩) (l ++ m).length (l ++ m).length, (H.set b ⟨tag, .cells false E.u (E.cs l)⟩).set b ⟨tag + 1, .cells false E.u (E.cs l ++ E.cs m)⟩, ?_, .inr ⟨b, tag + 1, _, [], rfl, Nat.le_refl _, ?_⟩⟩
    · simp only [appV, appV0, hlk, htk, hlk2]
      rw [if_pos ⟨trivial, by rw [cs_length, Nat.zero_add], hb⟩, List.drop_zero, List.length_append]
    · rw [List.append_nil, cs_append]
      exact List.getElem?_set_self (by rw [List.length_set]; exact hlt)
theorem Owp.frz (h : Owp E H v l) {k : Nat} (hk : E.d ≤ k) : ∃ o, lst o = l ∧ Fw.frz (k + 1) H v = some (slV E o) := by
  rcases h with ⟨rfl, rfl⟩ | ⟨b, tag, c, rest, rfl, hc, hH⟩
  · exact ⟨none, rfl, rfl⟩
  · have hlk : lk H ⟨b, 0, spotOf tag⟩ = some ⟨tag, .cells false E.u (E.cs l ++ rest)⟩ := own_lk hH
    refine ⟨some l, rfl, ?_⟩
    have h1 : pureV (k + 1) (.slice (some ⟨b, 0, spotOf tag⟩) l.length c) = false := rfl
    have h2 : rdN (E.cs l ++ rest) (l.length * E.u) = some (E.cs l) := by rw [← cs_length]; exact rdN_len _ _
    simp only [Fw.frz, h1, cond_false, hlk, List.drop_zero, h2, Option.bind_some]
    rw [mapM_pure (cs_pure' hk)]
    rfl
end
def okW (c : UInt8) : Bool := decide (33 ≤ c.toNat) && decide (c.toNat ≤ 126)
theorem loop_pgood {T : Tab} (l : List UInt8) (hl : l.length ≤ 100000000) : ∀ (k i : Nat) (env : Env), i + k = l.length → env 0 = strV l → env 8 = .int .i64 l.length → env 9 = .int .i64 i →
    W T (.loop F_path_goodl0) env [] fun x e h => h = [] ∧ (x = .exit 0 ∨ (x = .ret ∧ e 2 = .bool false)) := by
  intro k
  induction k with
  | zero =>
    intro i env hi e0 e8 e9
    have q : ¬ ((i : Int) < l.length) := by omega
    rw [w_loop]
    simp only [fws, cond_true, cond_false, if_true, if_false, unV, isNil, optI, iV, stepI, evalR, reduceIte, reduceCtorEq, Nat.reduceEqDiff, Int.reduceLT, Int.reduceLE, Int.reduceToNat, Nat.reduceLT, Nat.reduceLeDiff, Int.reduceEq, Int.reduceNeg, IntKind.bits, Nat.reduceAdd, Nat.reduceMul, Nat.reducePow, Int.reducePow, ini, fwi, F_path_goodr0_W, F_path_goodr1_W, F_path_goodr2_W, F_path_goodr3_W, F_path_goodr4_W, F_path_goodr5_W, F_path_goodr6_W, F_path_goodr6_g4, F_path_goodr7_W, F_path_goodr8_W, F_path_goodl0_W, F_path_goodr9_W, F_path_goodc_W, e8, e9, q]
    exact ⟨trivial, .inl trivial⟩
  | succ k ih =>
    intro i env hi e0 e8 e9
    have hix : i < l.length := by omega
    have q : ((i : Int) < l.length) := by omega
    have q0 : (0 : Int) ≤ (i : Int) := by omega
    have g := getD_at hix
    have w2 : IntKind.i64.wrap ((i : Int) + 1) = ((i + 1 : Nat) : Int) := by rw [wrapI64 (by omega) (by omega)]; rfl
    rw [w_loop]
    by_cases p1 : ((l[i].toNat : Int) < 33)
    · simp only [fws, cond_true, cond_false, if_true, if_false, unV, isNil, optI, iV, stepI, evalR, reduceIte, reduceCtorEq, Nat.reduceEqDiff, Int.reduceLT, Int.reduceLE, Int.reduceToNat, Nat.reduceLT, Nat.reduceLeDiff, Int.reduceEq, Int.reduceNeg, IntKind.bits, Nat.reduceAdd, Nat.reduceMul, Nat.reducePow, Int.reducePow, ini, fwi, F_path_goodr0_W, F_path_goodr1_W, F_path_goodr2_W, F_path_goodr3_W, F_path_goodr4_W, F_path_goodr5_W, F_path_goodr6_W, F_path_goodr6_g4, F_path_goodr7_W, F_path_goodr8_W, F_path_goodl0_W, F_path_goodr9_W, F_path_goodc_W, e0, e8, e9, q, q0, g, p1, w2, and_self, true_and]
      exact .inr trivial
    · by_cases p3 : ((126 : Int) < l[i].toNat)
      · simp only [fws, cond_true, cond_false, if_true, if_false, unV, isNil, optI, iV, stepI, evalR, reduceIte, reduceCtorEq, Nat.reduceEqDiff, Int.reduceLT, Int.reduceLE, Int.reduceToNat, Nat.reduceLT, Nat.reduceLeDiff, Int.reduceEq, Int.reduceNeg, IntKind.bits, Nat.reduceAdd, Nat.reduceMul, Nat.reducePow, Int.reducePow, ini, fwi, F_path_goodr0_W, F_path_goodr1_W, F_path_goodr2_W, F_path_goodr3_W, F_path_goodr4_W, F_path_goodr5_W, F_path_goodr6_W, F_path_goodr6_g4, F_path_goodr7_W, F_path_goodr8_W, F_path_goodl0_W, F_path_goodr9_W, F_path_goodc_W, e0, e8, e9, q, q0, g, p1, p3, w2, and_self, true_and]
        exact .inr trivial
      · simp only [fws, cond_true, cond_false, if_true, if_false, unV, isNil, optI, iV, stepI, evalR, reduceIte, reduceCtorEq, Nat.reduceEqDiff, Int.reduceLT, Int.reduceLE, Int.reduceToNat, Nat.reduceLT, Nat.reduceLeDiff, Int.reduceEq, Int.reduceNeg, IntKind.bits, Nat.reduceAdd, Nat.reduceMul, Nat.reducePow, Int.reducePow, ini, fwi, F_path_goodr0_W, F_path_goodr1_W, F_path_goodr2_W, F_path_goodr3_W, F_path_goodr4_W, F_path_goodr5_W, F_path_goodr6_W, F_path_goodr6_g4, F_path_goodr7_W, F_path_goodr8_W, F_path_goodl0_W, F_path_goodr9_W, F_path_goodc_W, e0, e8, e9, q, q0, g, p1, p3, w2, and_self, true_and]
        refine ih (i + 1) _ (by omega) ?_ ?_ ?_
        all_goals (first | assumption | rfl)
theorem f_pgood {T : Tab} (h : T 47 = some F_path_good) (l : List UInt8) (hl : l.length ≤ 100000000) : ∃ b : Bool, (b = true → l.length ≤ 256) ∧ FnV T 47 [strV l] (.bool b) := by
  refine FnV_ex (g := fun b : Bool => .bool b) (P := fun b : Bool => b = true → l.length ≤ 256) rfl ?_
  rw [Ev_fn h rfl]
  by_cases h256 : ((256 : Int) < l.length)
  · simp only [F_path_good, fws, cond_true, cond_false, if_true, if_false, unV, isNil, optI, iV, stepI, evalR, reduceIte, reduceCtorEq, Nat.reduceEqDiff, Int.reduceLT, Int.reduceLE, Int.reduceToNat, Nat.reduceLT, Nat.reduceLeDiff, Int.reduceEq, Int.reduceNeg, IntKind.bits, Nat.reduceAdd, Nat.reduceMul, Nat.reducePow, Int.reducePow, ini, fwh, lk, cellsAt, tagOf, spotOf, rdN, spl, fillL, zr, fwi, F_path_goodr0_W, F_path_goodr1_W, F_path_goodr2_W, F_path_goodr3_W, F_path_goodr4_W, F_path_goodr5_W, F_path_goodr6_W, F_path_goodr6_g4, F_path_goodr7_W, F_path_goodr8_W, F_path_goodl0_W, F_path_goodr9_W, F_path_goodc_W, lenI_str, h256]
    exact ⟨false, fun h => (by cases h), frz_pure pure_bool⟩
  · simp only [F_path_good, fws, cond_true, cond_false, if_true, if_false, unV, isNil, optI, iV, stepI, evalR, reduceIte, reduceCtorEq, Nat.reduceEqDiff, Int.reduceLT, Int.reduceLE, Int.reduceToNat, Nat.reduceLT, Nat.reduceLeDiff, Int.reduceEq, Int.reduceNeg, IntKind.bits, Nat.reduceAdd, Nat.reduceMul, Nat.reducePow, Int.reducePow, ini, fwh, lk, cellsAt, tagOf, spotOf, rdN, spl, fillL, zr, fwi, F_path_goodr0_W, F_path_goodr1_W, F_path_goodr2_W, F_path_goodr3_W, F_path_goodr4_W, F_path_goodr5_W, F_path_goodr6_W, F_path_goodr6_g4, F_path_goodr7_W, F_path_goodr8_W, F_path_goodr9_W, F_path_goodc_W, lenI_str, h256]
    refine W.mono (loop_pgood l hl l.length 0 _ (Nat.zero_add _) ?_ ?_ ?_) fun x e h ⟨q1, q2⟩ => ?_
    all_goals try (first | assumption | rfl)
    subst q1
    rcases q2 with rfl | ⟨rfl, e2⟩
    · simp only [fws, cond_true, cond_false, if_true, if_false, unV, isNil, optI, iV, stepI, evalR, reduceIte, reduceCtorEq, Nat.reduceEqDiff, Int.reduceLT, Int.reduceLE, Int.reduceToNat, Nat.reduceLT, Nat.reduceLeDiff, Int.reduceEq, Int.reduceNeg, IntKind.bits, Nat.reduceAdd, Nat.reduceMul, Nat.reducePow, Int.reducePow, ini, F_path_goodr0_W, F_path_goodr1_W, F_path_goodr2_W, F_path_goodr3_W, F_path_goodr4_W, F_path_goodr5_W, F_path_goodr6_W, F_path_goodr6_g4, F_path_goodr7_W, F_path_goodr8_W, F_path_goodl0_W, F_path_goodr9_W, F_path_goodc_W]
      exact ⟨true, fun _ => by omega, frz_pure pure_bool⟩
    · simp only [fws, cond_true, cond_false, if_true, if_false, unV, isNil, optI, iV, stepI, evalR, reduceIte, reduceCtorEq, Nat.reduceEqDiff, Int.reduceLT, Int.reduceLE, Int.reduceToNat, Nat.reduceLT, Nat.reduceLeDiff, Int.reduceEq, Int.reduceNeg, IntKind.bits, Nat.reduceAdd, Nat.reduceMul, Nat.reducePow, Int.reducePow, ini, F_path_goodr0_W, F_path_goodr1_W, F_path_goodr2_W, F_path_goodr3_W, F_path_goodr4_W, F_path_goodr5_W, F_path_goodr6_W, F_path_goodr6_g4, F_path_goodr7_W, F_path_goodr8_W, F_path_goodl0_W, F_path_goodr9_W, F_path_goodc_W, e2]
      exact ⟨false, fun h => (by cases h), frz_pure pure_bool⟩
end Go.Proofs.YtbhoaiacnoiocaaDoor
/- Paths: their names; cleaned. -/
namespace Go.Proofs.YtbhoaiacnoiocaaDoor
open Go Fw
set_option linter.unusedSimpArgs false
set_option linter.unusedVariables false
set_option linter.unusedSectionVars false

def Sum (l : List (List UInt8)) : Nat := (l.map List.length).sum
/-- Few names, none of them long. -/
def Few (l : List (List UInt8)) : Prop := l.length ≤ 300 ∧ ∀ s ∈ l, s.length ≤ 300
theorem Few.sub {l m : List (List UInt8)} (h : Few m) (hl : l.length ≤ m.length) (hs : ∀ s ∈ l, s ∈ m) : Few l := ⟨Nat.le_trans hl h.1, fun s hs' => h.2 s (hs s hs')⟩
section
variable {T : Tab} (t : LF T)
theorem ld_strs {l : List (List UInt8)} {i : Nat} (h : i < l.length) (H : Heap) : loadI H (atI strE l i) = some (strV l[i], H) := by
  rw [at_cons h]; rfl
theorem loop_parts (xs : List (List UInt8)) (hx : xs.length ≤ 1000) : ∀ (k i : Nat) (ys : List (List UInt8)) (v : Value) (env : Env) (H : Heap), i + k = xs.length → ys.length ≤ i → (∀ s ∈ ys, s ∈ xs) → Own strE H v ys → env 3 = v → env 7 = imm strE xs → env 8 = .int .i64 xs.length → env 9 = .int .i64 i →
    W T (.loop F_path_Partsl0) env H fun x e h => x = .exit 0 ∧ ∃ v ys, ys.length ≤ xs.length ∧ (∀ s ∈ ys, s ∈ xs) ∧ Own strE h v ys ∧ e 3 = v := by
  intro k
  induction k with
  | zero =>
    intro i ys v env H hi hy hm ho e3 e7 e8 e9
    have q : ¬ ((i : Int) < xs.length) := by omega
    rw [w_loop]
    simp only [fws, cond_true, cond_false, if_true, if_false, unV, isNil, optI, iV, stepI, evalR, reduceIte, reduceCtorEq, Nat.reduceEqDiff, Int.reduceLT, Int.reduceLE, Int.reduceToNat, Nat.reduceLT, Nat.reduceLeDiff, Int.reduceEq, Int.reduceNeg, IntKind.bits, Nat.reduceAdd, Nat.reduceMul, Nat.reducePow, Int.reducePow, ini, fwi, F_path_Partsr0_W, F_path_Partsr1_W, F_path_Partsr2_W, F_path_Partsr3_W, F_path_Partsr4_W, F_path_Partsr5_W, F_path_Partsr5_g2, F_path_Partsr6_W, F_path_Partsr7_W, F_path_Partsl0_W, F_path_Partsr8_W, F_path_Partsc_W, e8, e9, q]
    exact ⟨trivial, v, ys, by omega, hm, ho, e3⟩
  | succ k ih =>
    intro i ys v env H hi hy hm ho e3 e7 e8 e9
    have hix : i < xs.length := by omega
    have q : ((i : Int) < xs.length) := by omega
    have hxx := fun H => ix_at (E := strE) (l := xs) (n := 1) rfl hix .i64 H
    have hld := fun H => ld_strs hix H
    have w2 : IntKind.i64.wrap ((i : Int) + 1) = ((i + 1 : Nat) : Int) := by rw [wrapI64 (by omega) (by omega)]; rfl
    rw [w_loop]
    by_cases h0 : xs[i] = []
    · have b0 : strEq ⟨(xs[i]).toArray⟩ ⟨#[]⟩ = true := by rw [h0]; rfl
      simp only [fws, cond_true, cond_false, if_true, if_false, unV, isNil, optI, iV, stepI, evalR, reduceIte, reduceCtorEq, Nat.reduceEqDiff, Int.reduceLT, Int.reduceLE, Int.reduceToNat, Nat.reduceLT, Nat.reduceLeDiff, Int.reduceEq, Int.reduceNeg, IntKind.bits, Nat.reduceAdd, Nat.reduceMul, Nat.reducePow, Int.reducePow, ini, fwi, F_path_Partsr0_W, F_path_Partsr1_W, F_path_Partsr2_W, F_path_Partsr3_W, F_path_Partsr4_W, F_path_Partsr5_W, F_path_Partsr5_g2, F_path_Partsr6_W, F_path_Partsr7_W, F_path_Partsl0_W, F_path_Partsr8_W, F_path_Partsc_W, e3, e7, e8, e9, q, hxx, hld, b0, w2]
      refine ih (i + 1) ys v _ H (by omega) (by omega) hm ho ?_ ?_ ?_ ?_
      all_goals (first | assumption | rfl)
    · have b0 := ne_str h0
      cases b1 : strEq ⟨(xs[i]).toArray⟩ ⟨#[46]⟩ with
      | true =>
        simp only [fws, cond_true, cond_false, if_true, if_false, unV, isNil, optI, iV, stepI, evalR, reduceIte, reduceCtorEq, Nat.reduceEqDiff, Int.reduceLT, Int.reduceLE, Int.reduceToNat, Nat.reduceLT, Nat.reduceLeDiff, Int.reduceEq, Int.reduceNeg, IntKind.bits, Nat.reduceAdd, Nat.reduceMul, Nat.reducePow, Int.reducePow, ini, fwi, F_path_Partsr0_W, F_path_Partsr1_W, F_path_Partsr2_W, F_path_Partsr3_W, F_path_Partsr4_W, F_path_Partsr5_W, F_path_Partsr5_g2, F_path_Partsr6_W, F_path_Partsr7_W, F_path_Partsl0_W, F_path_Partsr8_W, F_path_Partsc_W, e3, e7, e8, e9, q, hxx, hld, b0, b1, w2]
        refine ih (i + 1) ys v _ H (by omega) (by omega) hm ho ?_ ?_ ?_ ?_
        all_goals (first | assumption | rfl)
      | false =>
        obtain ⟨v', H', a1, a2, a3⟩ := ho.app (m := [xs[i]]) (n := 1) (eb := 16) (k := 1) rfl rfl (by simp; omega)
        have a1 : appV 1 16 H v [strV xs[i]] 1 = some (v', H') := a1
        simp only [fws, cond_true, cond_false, if_true, if_false, unV, isNil, optI, iV, stepI, evalR, reduceIte, reduceCtorEq, Nat.reduceEqDiff, Int.reduceLT, Int.reduceLE, Int.reduceToNat, Nat.reduceLT, Nat.reduceLeDiff, Int.reduceEq, Int.reduceNeg, IntKind.bits, Nat.reduceAdd, Nat.reduceMul, Nat.reducePow, Int.reducePow, ini, fwh, lk, cellsAt, tagOf, spotOf, rdN, spl, fillL, zr, fwi, F_path_Partsr0_W, F_path_Partsr1_W, F_path_Partsr2_W, F_path_Partsr3_W, F_path_Partsr4_W, F_path_Partsr5_W, F_path_Partsr5_g2, F_path_Partsr6_W, F_path_Partsr7_W, F_path_Partsl0_W, F_path_Partsr8_W, F_path_Partsc_W, e3, e7, e8, e9, q, hxx, hld, b0, b1, w2, srcOf_immV, a1]
        refine ih (i + 1) (ys ++ [xs[i]]) v' _ H' (by omega) (by rw [List.length_append]; simp; omega) (fun s hs => ?_) a2 ?_ ?_ ?_ ?_
        · rcases List.mem_append.1 hs with hs | hs
          · exact hm s hs
          · rw [List.mem_singleton] at hs; rw [hs]; exact List.getElem_mem hix
        all_goals (first | assumption | rfl)
include t
theorem f_parts (h : T 48 = some F_path_Parts) (l : List UInt8) (hl : l.length ≤ 256) : ∃ o : Option (List (List UInt8)), Few (lst o) ∧ FnV T 48 [strV l] (slV strE o) := by
  refine FnV_ex (g := fun o : Option (List (List UInt8)) => slV strE o) (P := fun o => Few (lst o)) rfl ?_
  rw [Ev_fn h rfl]
  have c1 := f_split t l (by omega) 47
  have hlen : (splitF 47 l).length ≤ 257 := by rw [splitF_len]; have := List.count_le_length (a := (47 : UInt8)) (l := l); omega
  simp only [F_path_Parts, fws, cond_true, cond_false, if_true, if_false, unV, isNil, optI, iV, stepI, evalR, reduceIte, reduceCtorEq, Nat.reduceEqDiff, Int.reduceLT, Int.reduceLE, Int.reduceToNat, Nat.reduceLT, Nat.reduceLeDiff, Int.reduceEq, Int.reduceNeg, IntKind.bits, Nat.reduceAdd, Nat.reduceMul, Nat.reducePow, Int.reducePow, ini, fwh, lk, cellsAt, tagOf, spotOf, rdN, spl, fillL, zr, fwi, F_path_Partsr0_W, F_path_Partsr1_W, F_path_Partsr2_W, F_path_Partsr3_W, F_path_Partsr4_W, F_path_Partsr5_W, F_path_Partsr5_g2, F_path_Partsr6_W, F_path_Partsr7_W, F_path_Partsr8_W, F_path_Partsc_W, CC_of c1]
  refine W.mono (loop_parts (splitF 47 l) (by omega) (splitF 47 l).length 0 [] _ _ [] (Nat.zero_add _) (Nat.le_refl _) (fun _ h => nomatch h) Own.nil ?_ ?_ ?_ ?_) fun x e h ⟨q1, v, ys, q2, q3, q4, e3⟩ => ?_
  all_goals try (first | assumption | rfl)
  subst q1
  obtain ⟨o, g3, g4⟩ := Own.frzE q4 (k := 7) (by decide)
  simp only [fws, cond_true, cond_false, if_true, if_false, unV, isNil, optI, iV, stepI, evalR, reduceIte, reduceCtorEq, Nat.reduceEqDiff, Int.reduceLT, Int.reduceLE, Int.reduceToNat, Nat.reduceLT, Nat.reduceLeDiff, Int.reduceEq, Int.reduceNeg, IntKind.bits, Nat.reduceAdd, Nat.reduceMul, Nat.reducePow, Int.reducePow, ini, F_path_Partsr0_W, F_path_Partsr1_W, F_path_Partsr2_W, F_path_Partsr3_W, F_path_Partsr4_W, F_path_Partsr5_W, F_path_Partsr5_g2, F_path_Partsr6_W, F_path_Partsr7_W, F_path_Partsl0_W, F_path_Partsr8_W, F_path_Partsc_W, e3]
  refine ⟨o, ?_, g4⟩
  rw [g3]
  exact ⟨by omega, fun s hs => by have := splitF_mem s (q3 s hs); omega⟩
end
section
variable {T : Tab}
theorem loop_clean (o : Option (List (List UInt8))) (hf : Few (lst o)) : ∀ (k i : Nat) (ys : List (List UInt8)) (v : Value) (env : Env) (H : Heap), i + k = (lst o).length → ys.length ≤ i → (∀ s ∈ ys, s ∈ lst o) → Owp strE H v ys → env 4 = v → env 20 = slV strE o → env 21 = .int .i64 (lst o).length → env 22 = .int .i64 i →
    W T (.loop F_path_Cleanl0) env H fun x e h => x = .exit 0 ∧ ∃ v ys, Few ys ∧ Owp strE h v ys ∧ e 4 = v := by
  intro k
  have hlen := hf.1
  induction k with
  | zero =>
    intro i ys v env H hi hy hm ho e4 e20 e21 e22
    have q : ¬ ((i : Int) < (lst o).length) := by omega
    rw [w_loop]
    simp only [fws, cond_true, cond_false, if_true, if_false, unV, isNil, optI, iV, stepI, evalR, reduceIte, reduceCtorEq, Nat.reduceEqDiff, Int.reduceLT, Int.reduceLE, Int.reduceToNat, Nat.reduceLT, Nat.reduceLeDiff, Int.reduceEq, Int.reduceNeg, IntKind.bits, Nat.reduceAdd, Nat.reduceMul, Nat.reducePow, Int.reducePow, ini, fwi, F_path_Cleanr0_W, F_path_Cleanr1_W, F_path_Cleanr1_g3, F_path_Cleanr1_g7, F_path_Cleanr2_W, F_path_Cleanr3_W, F_path_Cleanr4_W, F_path_Cleanr5_W, F_path_Cleanr6_W, F_path_Cleanr7_W, F_path_Cleanr8_W, F_path_Cleanr9_W, F_path_Cleanr10_W, F_path_Cleanr11_W, F_path_Cleanl0_W, F_path_Cleanr12_W, F_path_Cleanc_W, e21, e22, q]
    exact ⟨trivial, v, ys, hf.sub (by omega) hm, ho, e4⟩
  | succ k ih =>
    intro i ys v env H hi hy hm ho e4 e20 e21 e22
    have hix : i < (lst o).length := by omega
    have q : ((i : Int) < (lst o).length) := by omega
    have hxx := fun H => ix_sl (E := strE) (o := o) (n := 1) rfl hix .i64 H
    have hld := fun H => ld_strs hix H
    have w2 : IntKind.i64.wrap ((i : Int) + 1) = ((i + 1 : Nat) : Int) := by rw [wrapI64 (by omega) (by omega)]; rfl
    rw [w_loop]
    cases b1 : strEq ⟨((lst o)[i]).toArray⟩ ⟨#[46, 46]⟩ with
    | false =>
      obtain ⟨v', H', a1, a2⟩ := ho.app (m := [(lst o)[i]]) (n := 1) (eb := 16) (k := 1) rfl rfl (by simp; omega)
      have a1 : appV 1 16 H v [strV (lst o)[i]] 1 = some (v', H') := a1
      simp only [fws, cond_true, cond_false, if_true, if_false, unV, isNil, optI, iV, stepI, evalR, reduceIte, reduceCtorEq, Nat.reduceEqDiff, Int.reduceLT, Int.reduceLE, Int.reduceToNat, Nat.reduceLT, Nat.reduceLeDiff, Int.reduceEq, Int.reduceNeg, IntKind.bits, Nat.reduceAdd, Nat.reduceMul, Nat.reducePow, Int.reducePow, ini, fwh, lk, cellsAt, tagOf, spotOf, rdN, spl, fillL, zr, fwi, F_path_Cleanr0_W, F_path_Cleanr1_W, F_path_Cleanr1_g3, F_path_Cleanr1_g7, F_path_Cleanr2_W, F_path_Cleanr3_W, F_path_Cleanr4_W, F_path_Cleanr5_W, F_path_Cleanr6_W, F_path_Cleanr7_W, F_path_Cleanr8_W, F_path_Cleanr9_W, F_path_Cleanr10_W, F_path_Cleanr11_W, F_path_Cleanl0_W, F_path_Cleanr12_W, F_path_Cleanc_W, e4, e20, e21, e22, q, hxx, hld, b1, w2, srcOf_immV, a1]
      refine ih (i + 1) (ys ++ [(lst o)[i]]) v' _ H' (by omega) (by rw [List.length_append]; simp; omega) (fun s hs => ?_) a2 ?_ ?_ ?_ ?_
      · rcases List.mem_append.1 hs with hs | hs
        · exact hm s hs
        · rw [List.mem_singleton] at hs; rw [hs]; exact List.getElem_mem hix
      all_goals (first | assumption | rfl)
    | true =>
      have hln := ho.len
      by_cases h0 : ys = []
      · subst h0
        have q5 : ¬ ((0 : Int) < (([] : List (List UInt8)).length : Nat)) := by simp
        simp only [fws, cond_true, cond_false, if_true, if_false, unV, isNil, optI, iV, stepI, evalR, reduceIte, reduceCtorEq, Nat.reduceEqDiff, Int.reduceLT, Int.reduceLE, Int.reduceToNat, Nat.reduceLT, Nat.reduceLeDiff, Int.reduceEq, Int.reduceNeg, IntKind.bits, Nat.reduceAdd, Nat.reduceMul, Nat.reducePow, Int.reducePow, ini, fwi, F_path_Cleanr0_W, F_path_Cleanr1_W, F_path_Cleanr1_g3, F_path_Cleanr1_g7, F_path_Cleanr2_W, F_path_Cleanr3_W, F_path_Cleanr4_W, F_path_Cleanr5_W, F_path_Cleanr6_W, F_path_Cleanr7_W, F_path_Cleanr8_W, F_path_Cleanr9_W, F_path_Cleanr10_W, F_path_Cleanr11_W, F_path_Cleanl0_W, F_path_Cleanr12_W, F_path_Cleanc_W, e4, e20, e21, e22, q, hxx, hld, b1, w2, hln, q5]
        refine ih (i + 1) [] v _ H (by omega) (Nat.zero_le _) (fun _ h => nomatch h) ho ?_ ?_ ?_ ?_
        all_goals (first | assumption | rfl)
      · have hpos : 0 < ys.length := List.length_pos_iff.2 h0
        have q5 : ((0 : Int) < (ys.length : Nat)) := by omega
        obtain ⟨v', f1, f2⟩ := ho.pop (n := 1) rfl h0
        have w5 : IntKind.i64.wrap ((ys.length : Int) - 1) = ((ys.length - 1 : Nat) : Int) := by rw [wrapI64 (by omega) (by omega)]; omega
        simp only [fws, cond_true, cond_false, if_true, if_false, unV, isNil, optI, iV, stepI, evalR, reduceIte, reduceCtorEq, Nat.reduceEqDiff, Int.reduceLT, Int.reduceLE, Int.reduceToNat, Nat.reduceLT, Nat.reduceLeDiff, Int.reduceEq, Int.reduceNeg, IntKind.bits, Nat.reduceAdd, Nat.reduceMul, Nat.reducePow, Int.reducePow, ini, fwi, F_path_Cleanr0_W, F_path_Cleanr1_W, F_path_Cleanr1_g3, F_path_Cleanr1_g7, F_path_Cleanr2_W, F_path_Cleanr3_W, F_path_Cleanr4_W, F_path_Cleanr5_W, F_path_Cleanr6_W, F_path_Cleanr7_W, F_path_Cleanr8_W, F_path_Cleanr9_W, F_path_Cleanr10_W, F_path_Cleanr11_W, F_path_Cleanl0_W, F_path_Cleanr12_W, F_path_Cleanc_W, e4, e20, e21, e22, q, hxx, hld, b1, w2, hln, q5, w5, f1]
        refine ih (i + 1) ys.dropLast v' _ H (by omega) (by rw [List.length_dropLast]; omega) (fun s hs => hm s (List.dropLast_subset _ hs)) f2 ?_ ?_ ?_ ?_
        all_goals (first | assumption | rfl)
end
end Go.Proofs.YtbhoaiacnoiocaaDoor
/- Paths, cleaned: there is an answer. -/
namespace Go.Proofs.YtbhoaiacnoiocaaDoor
open Go Fw
set_option linter.unusedSimpArgs false
set_option linter.unusedVariables false
set_option linter.unusedSectionVars false

theorem strL_cs (l : List (List UInt8)) : strL (strE.cs l) = some l := by
  induction l with
  | nil => rfl
  | cons x l ih => rw [cs_cons]; show (strL (strE.cs l)).map (x :: ·) = _; rw [ih]; rfl
theorem tail_len (sep : List UInt8) (hs : sep.length ≤ 1) : ∀ (r : List (List UInt8)), (∀ s ∈ r, s.length ≤ 300) → (Go.Lib.joinTail sep r).length ≤ r.length * 301
  | [], _ => by simp [Go.Lib.joinTail]
  | x :: r, h => by
    have ih := tail_len sep hs r (fun s hs => h s (List.mem_cons_of_mem _ hs))
    have hx := h x (by simp)
    unfold Go.Lib.joinTail at ih ⊢
    rw [List.map_cons, List.flatten_cons, List.length_append, List.length_append, List.length_cons]
    omega
theorem join_len (sep : List UInt8) (hs : sep.length ≤ 1) (l : List (List UInt8)) (h : Few l) : (Go.Lib.join l sep).length ≤ 100000 := by
  cases l with
  | nil => simp [Go.Lib.join_nil]
  | cons x r =>
    have h1 := tail_len sep hs r (fun s hs => h.2 s (List.mem_cons_of_mem _ hs))
    have hx := h.2 x (by simp)
    have hl := h.1
    rw [Go.Lib.join_cons, List.length_append]
    simp at hl
    omega
section
variable {T : Tab} (t : LF T)
include t
theorem f_join (o : Option (List (List UInt8))) (hf : Few (lst o)) : ∃ s : List UInt8, s.length ≤ 100000 ∧ FnV T 49 [slV strE o, strV [47]] (strV s) := by
  have hp : ([slV strE o, strV [47]]).all (pureV 6) = true := by simp [pure_sl (E := strE) (o := o) (k := 6) rfl, pure_string]
  cases o with
  | none =>
    refine ⟨[], by decide, FnV_nat hp t.join ?_ rfl⟩
    rw [t.nat]; rfl
  | some l =>
    refine ⟨Go.Lib.join l [47], join_len _ (by decide) l hf, FnV_nat hp t.join ?_ rfl⟩
    rw [t.nat]
    have hl : l.length ≤ 300 := hf.1
    have h1 := join_len [47] (by decide) l hf
    have e1 : (strE.cs l).toArray.size = l.length := by rw [List.size_toArray, cs_length]; simp [strE_u]
    have e2 : Nat.beq l.length (strE.cs l).toArray.size = true := by rw [e1]; exact Nat.beq_refl _
    have e3 : Nat.ble (strE.cs l).toArray.size 4096 = true := by rw [Nat.ble_eq, e1]; omega
    have e4 : Nat.ble (Go.Lib.join l [47]).length 1000000 = true := by rw [Nat.ble_eq]; omega
    show (bif Nat.beq 49 49 && Nat.beq l.length (strE.cs l).toArray.size && Nat.ble (strE.cs l).toArray.size 4096 then (strL (strE.cs l).toArray.toList).bind fun xs => bif Nat.ble (Go.Lib.join xs [47]).length 1000000 then some (Value.string ⟨(Go.Lib.join xs [47]).toArray⟩) else none else none) = _
    rw [e2, e3]
    simp only [Nat.beq_refl, Bool.and_self, cond_true, List.toList_toArray, strL_cs, Option.bind_some, e4]
structure PaF (T : Tab) : Prop where
  good : T 47 = some F_path_good
  parts : T 48 = some F_path_Parts
  clean : T 35 = some F_path_Clean
  isc : T 34 = some F_path_IsClean
theorem f_clean (p : PaF T) (l : List UInt8) (hl : l.length ≤ 100000000) : ∃ x : List UInt8 × Int, x.1.length ≤ 200000 ∧ FnV T 35 [strV l] (.tuple #[strV x.1, .int .i64 x.2]) := by
  refine FnV_ex (g := fun x : List UInt8 × Int => .tuple #[strV x.1, .int .i64 x.2]) (P := fun x => x.1.length ≤ 200000) (args := [strV l]) rfl ?_
  obtain ⟨b, hb, c1⟩ := f_pgood p.good l hl
  rw [Ev_fn p.clean rfl]
  have bad : ∀ h : Heap, ∃ x : List UInt8 × Int, x.1.length ≤ 200000 ∧ frz 8 h (.tuple #[.string ⟨#[]⟩, .int .i64 40]) = some (.tuple #[strV x.1, .int .i64 x.2]) := fun h => ⟨([], 40), by decide, frz_pure rfl⟩
  cases b with
  | false =>
    simp only [F_path_Clean, fws, cond_true, cond_false, if_true, if_false, unV, isNil, optI, iV, stepI, evalR, reduceIte, reduceCtorEq, Nat.reduceEqDiff, Int.reduceLT, Int.reduceLE, Int.reduceToNat, Nat.reduceLT, Nat.reduceLeDiff, Int.reduceEq, Int.reduceNeg, IntKind.bits, Nat.reduceAdd, Nat.reduceMul, Nat.reducePow, Int.reducePow, ini, fwh, lk, cellsAt, tagOf, spotOf, rdN, spl, fillL, zr, fwi, F_path_Cleanr0_W, F_path_Cleanr1_W, F_path_Cleanr1_g3, F_path_Cleanr1_g7, F_path_Cleanr2_W, F_path_Cleanr3_W, F_path_Cleanr4_W, F_path_Cleanr5_W, F_path_Cleanr6_W, F_path_Cleanr7_W, F_path_Cleanr8_W, F_path_Cleanr9_W, F_path_Cleanr10_W, F_path_Cleanr11_W, F_path_Cleanr12_W, F_path_Cleanc_W, CC_of c1]
    exact bad _
  | true =>
    have h256 := hb rfl
    cases l with
    | nil =>
      have b0 : strEq ⟨([] : List UInt8).toArray⟩ ⟨#[]⟩ = true := rfl
      simp only [F_path_Clean, fws, cond_true, cond_false, if_true, if_false, unV, isNil, optI, iV, stepI, evalR, reduceIte, reduceCtorEq, Nat.reduceEqDiff, Int.reduceLT, Int.reduceLE, Int.reduceToNat, Nat.reduceLT, Nat.reduceLeDiff, Int.reduceEq, Int.reduceNeg, IntKind.bits, Nat.reduceAdd, Nat.reduceMul, Nat.reducePow, Int.reducePow, ini, fwh, lk, cellsAt, tagOf, spotOf, rdN, spl, fillL, zr, fwi, F_path_Cleanr0_W, F_path_Cleanr1_W, F_path_Cleanr1_g3, F_path_Cleanr1_g7, F_path_Cleanr2_W, F_path_Cleanr3_W, F_path_Cleanr4_W, F_path_Cleanr5_W, F_path_Cleanr6_W, F_path_Cleanr7_W, F_path_Cleanr8_W, F_path_Cleanr9_W, F_path_Cleanr10_W, F_path_Cleanr11_W, F_path_Cleanr12_W, F_path_Cleanc_W, CC_of c1, b0]
      exact bad _
    | cons c l =>
      have b0 : strEq ⟨(c :: l).toArray⟩ ⟨#[]⟩ = false := ne_str (by simp)
      have q1 : (0 : Int) < ((c :: l).length : Int) := by simp
      have g : (c :: l).getD 0 0 = c := rfl
      by_cases h47 : (c.toNat : Int) = 47
      · obtain ⟨o, ho, c2⟩ := f_parts t p.parts (c :: l) h256
        simp only [F_path_Clean, fws, cond_true, cond_false, if_true, if_false, unV, isNil, optI, iV, stepI, evalR, reduceIte, reduceCtorEq, Nat.reduceEqDiff, Int.reduceLT, Int.reduceLE, Int.reduceToNat, Nat.reduceLT, Nat.reduceLeDiff, Int.reduceEq, Int.reduceNeg, IntKind.bits, Nat.reduceAdd, Nat.reduceMul, Nat.reducePow, Int.reducePow, ini, fwi, F_path_Cleanr0_W, F_path_Cleanr1_W, F_path_Cleanr1_g3, F_path_Cleanr1_g7, F_path_Cleanr2_W, F_path_Cleanr3_W, F_path_Cleanr4_W, F_path_Cleanr5_W, F_path_Cleanr6_W, F_path_Cleanr7_W, F_path_Cleanr8_W, F_path_Cleanr9_W, F_path_Cleanr10_W, F_path_Cleanr11_W, F_path_Cleanr12_W, F_path_Cleanc_W, CC_of c1, b0, q1, g, h47, CC_of c2, lenI_sl, Int.toNat_zero, and_self, true_and, Int.le_refl]
        refine W.mono (loop_clean o ho (lst o).length 0 [] _ _ [] (Nat.zero_add _) (Nat.le_refl _) (fun _ h => nomatch h) Owp.nil ?_ ?_ ?_ ?_) fun x e h ⟨q1, v, ys, q2, q3, e4⟩ => ?_
        all_goals try (first | assumption | rfl)
        subst q1
        obtain ⟨on, g3, g4⟩ := Owp.frz q3 (k := 7) (by decide)
        obtain ⟨s, hs, c3⟩ := f_join t on (by rw [g3]; exact q2)
        have hfz : List.mapM (frz 8 h) [v, strV [47]] = some [slV strE on, strV [47]] := by
          simp only [List.mapM_cons, List.mapM_nil, g4, frz_pure pure_string]
          rfl
        have q6 : [(47 : UInt8)].length + s.length ≤ 9223372036854775807 := by simp; omega
        simp only [fws, cond_true, cond_false, if_true, if_false, unV, isNil, optI, iV, stepI, evalR, reduceIte, reduceCtorEq, Nat.reduceEqDiff, Int.reduceLT, Int.reduceLE, Int.reduceToNat, Nat.reduceLT, Nat.reduceLeDiff, Int.reduceEq, Int.reduceNeg, IntKind.bits, Nat.reduceAdd, Nat.reduceMul, Nat.reducePow, Int.reducePow, ini, fwi, F_path_Cleanr0_W, F_path_Cleanr1_W, F_path_Cleanr1_g3, F_path_Cleanr1_g7, F_path_Cleanr2_W, F_path_Cleanr3_W, F_path_Cleanr4_W, F_path_Cleanr5_W, F_path_Cleanr6_W, F_path_Cleanr7_W, F_path_Cleanr8_W, F_path_Cleanr9_W, F_path_Cleanr10_W, F_path_Cleanr11_W, F_path_Cleanr12_W, F_path_Cleanc_W, e4, hfz, CL_of c3 rfl, q6]
        exact ⟨(47 :: s, 0), by simp; omega, frz_pure rfl⟩
      · simp only [F_path_Clean, fws, cond_true, cond_false, if_true, if_false, unV, isNil, optI, iV, stepI, evalR, reduceIte, reduceCtorEq, Nat.reduceEqDiff, Int.reduceLT, Int.reduceLE, Int.reduceToNat, Nat.reduceLT, Nat.reduceLeDiff, Int.reduceEq, Int.reduceNeg, IntKind.bits, Nat.reduceAdd, Nat.reduceMul, Nat.reducePow, Int.reducePow, ini, fwi, F_path_Cleanr0_W, F_path_Cleanr1_W, F_path_Cleanr1_g3, F_path_Cleanr1_g7, F_path_Cleanr2_W, F_path_Cleanr3_W, F_path_Cleanr4_W, F_path_Cleanr5_W, F_path_Cleanr6_W, F_path_Cleanr7_W, F_path_Cleanr8_W, F_path_Cleanr9_W, F_path_Cleanr10_W, F_path_Cleanr11_W, F_path_Cleanr12_W, F_path_Cleanc_W, CC_of c1, b0, q1, g, h47, Int.toNat_zero, and_self, true_and, Int.le_refl]
        exact bad _
theorem f_isclean (p : PaF T) (l : List UInt8) (hl : l.length ≤ 100000000) : ∃ b : Bool, True ∧ FnV T 34 [strV l] (.bool b) := by
  refine FnV_ex (g := fun b : Bool => .bool b) (P := fun _ => True) (args := [strV l]) rfl ?_
  obtain ⟨⟨s, e⟩, _, c1⟩ := f_clean t p l hl
  rw [Ev_fn p.isc rfl]
  by_cases he : e = 0
  · simp only [F_path_IsClean, fws, cond_true, cond_false, if_true, if_false, unV, isNil, optI, iV, stepI, evalR, reduceIte, reduceCtorEq, Nat.reduceEqDiff, Int.reduceLT, Int.reduceLE, Int.reduceToNat, Nat.reduceLT, Nat.reduceLeDiff, Int.reduceEq, Int.reduceNeg, IntKind.bits, Nat.reduceAdd, Nat.reduceMul, Nat.reducePow, Int.reducePow, ini, fwi, F_path_IsCleanr0_W, F_path_IsCleanr1_W, F_path_IsCleanr2_W, F_path_IsCleanr2_g2, F_path_IsCleanc_W, CC_of c1, he, List.getElem?_cons_zero, List.getElem?_cons_succ, List.getElem?_toArray, List.toList_toArray]
    exact ⟨_, trivial, frz_pure pure_bool⟩
  · simp only [F_path_IsClean, fws, cond_true, cond_false, if_true, if_false, unV, isNil, optI, iV, stepI, evalR, reduceIte, reduceCtorEq, Nat.reduceEqDiff, Int.reduceLT, Int.reduceLE, Int.reduceToNat, Nat.reduceLT, Nat.reduceLeDiff, Int.reduceEq, Int.reduceNeg, IntKind.bits, Nat.reduceAdd, Nat.reduceMul, Nat.reducePow, Int.reducePow, ini, fwi, F_path_IsCleanr0_W, F_path_IsCleanr1_W, F_path_IsCleanr2_W, F_path_IsCleanr2_g2, F_path_IsCleanc_W, CC_of c1, he, List.getElem?_cons_zero, List.getElem?_cons_succ, List.getElem?_toArray, List.toList_toArray]
    exact ⟨_, trivial, frz_pure pure_bool⟩
end
end Go.Proofs.YtbhoaiacnoiocaaDoor
