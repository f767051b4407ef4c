/- Texts at places; LeTexts. -/
import Derived.Test.YtleogcfmlpmbiaaLeD
namespace Go.Proofs.Ytleogcfmlpmbiaa
open Go Fw
set_option linter.unusedSimpArgs false
set_option linter.unusedVariables false

def tw (l : List UInt8) (i : Nat) : List UInt8 := (l.drop i).takeWhile (· != 0)
theorem tw_end {l : List UInt8} {i : Nat} (h : l.length ≤ i) : tw l i = [] := by unfold tw; rw [List.drop_of_length_le h]; rfl
theorem tw_zero {l : List UInt8} {i : Nat} (h : i < l.length) (h0 : l[i] = 0) : tw l i = [] := by
  unfold tw; rw [List.drop_eq_getElem_cons h, List.takeWhile_cons, h0]; rfl
theorem tw_cons {l : List UInt8} {i : Nat} (h : i < l.length) (h0 : l[i] ≠ 0) : tw l i = l[i] :: tw l (i + 1) := by
  unfold tw; rw [List.drop_eq_getElem_cons h, List.takeWhile_cons, if_pos (by simpa using h0)]
theorem tw_take (l : List UInt8) (i : Nat) : (l.drop i).take (tw l i).length = tw l i := (List.prefix_iff_eq_take.1 (List.takeWhile_prefix _)).symm
theorem tw_len (l : List UInt8) (i : Nat) : (tw l i).length ≤ l.length - i := by
  have := (List.takeWhile_prefix (l := l.drop i) (· != 0)).length_le
  rw [List.length_drop] at this
  exact this
def txt (l : List UInt8) (a : Nat) : Value := if a + (tw l a).length < l.length then (if plain (tw l a) = true then .tuple #[strV (tw l a), .int .i64 0] else .tuple #[.string ⟨#[]⟩, .int .i64 21]) else .tuple #[.string ⟨#[]⟩, .int .i64 20]
theorem loop_le_Text {T : Tab} (o : Option (List UInt8)) (hl : (lst o).length ≤ 100000) : ∀ (m i : Nat) (env : Env), i + m = (lst o).length → env 0 = slV byteE o → env 6 = .int .i64 i →
    W T (.loop F_le_Textl0) env [] fun x e h => x = .exit 0 ∧ h = [] ∧ e 0 = slV byteE o ∧ e 1 = env 1 ∧ e 6 = .int .i64 (i + (tw (lst o) i).length : Nat) := by
  intro m
  induction m with
  | zero =>
    intro i env hi v0 v6
    have h1 : ¬ ((i : Int) < (lst o).length) := by omega
    rw [w_loop, tw_end (by omega)]
    simp only [fws, cond_true, cond_false, if_true, if_false, unV, isNil, optI, iV, stepI, evalR, reduceIte, reduceCtorEq, Nat.reduceEqDiff, Int.reduceLT, Int.reduceLE, Int.reduceToNat, Nat.reduceLT, Nat.reduceLeDiff, Int.reduceEq, Int.reduceNeg, IntKind.bits, Nat.reduceAdd, Nat.reduceMul, Nat.reducePow, Int.reducePow, ini, fwi, F_le_Textr0_W, F_le_Textr1_W, F_le_Textr2_W, F_le_Textr3_W, F_le_Textr4_W, F_le_Textr4_g4, F_le_Textr5_W, F_le_Textl0_W, F_le_Textr6_W, F_le_Textr7_W, F_le_Textr8_W, F_le_Textr9_W, F_le_Textr10_W, F_le_Textr11_W, F_le_Textc_W, v0, v6, lenI_sl, h1, List.length_nil, Nat.add_zero, and_self]
  | succ m ih =>
    intro i env hi v0 v6
    have h1 : ((i : Int) < (lst o).length) := by omega
    have hix : i < (lst o).length := by omega
    have hx := fun H => ix_sl (E := byteE) (n := 1) rfl hix .i64 H
    have w2 : IntKind.i64.wrap ((i : Int) + 1) = ((i + 1 : Nat) : Int) := by rw [wrapI64 (by omega) (by omega)]; rfl
    rw [w_loop]
    by_cases h0 : (lst o)[i] = 0
    · have q : decide ((((lst o)[i]).toNat : Int) = 0) = true := by rw [h0]; rfl
      rw [tw_zero hix h0]
      simp only [fws, cond_true, cond_false, if_true, if_false, unV, isNil, optI, iV, stepI, evalR, reduceIte, reduceCtorEq, Nat.reduceEqDiff, Int.reduceLT, Int.reduceLE, Int.reduceToNat, Nat.reduceLT, Nat.reduceLeDiff, Int.reduceEq, Int.reduceNeg, IntKind.bits, Nat.reduceAdd, Nat.reduceMul, Nat.reducePow, Int.reducePow, ini, fwi, F_le_Textr0_W, F_le_Textr1_W, F_le_Textr2_W, F_le_Textr3_W, F_le_Textr4_W, F_le_Textr4_g4, F_le_Textr5_W, F_le_Textl0_W, F_le_Textr6_W, F_le_Textr7_W, F_le_Textr8_W, F_le_Textr9_W, F_le_Textr10_W, F_le_Textr11_W, F_le_Textc_W, v0, v6, lenI_sl, h1, hx, at_cons hix, q, List.length_nil, Nat.add_zero, and_self]
    · have q : decide ((((lst o)[i]).toNat : Int) = 0) = false := by
        rw [decide_eq_false_iff_not]
        intro h
        exact h0 (UInt8.toNat_inj.1 (by show (lst o)[i].toNat = 0; omega))
      rw [tw_cons hix h0, List.length_cons, show i + ((tw (lst o) (i + 1)).length + 1) = i + 1 + (tw (lst o) (i + 1)).length by omega]
      simp only [fws, cond_true, cond_false, if_true, if_false, unV, isNil, optI, iV, stepI, evalR, reduceIte, reduceCtorEq, Nat.reduceEqDiff, Int.reduceLT, Int.reduceLE, Int.reduceToNat, Nat.reduceLT, Nat.reduceLeDiff, Int.reduceEq, Int.reduceNeg, IntKind.bits, Nat.reduceAdd, Nat.reduceMul, Nat.reducePow, Int.reducePow, ini, fwi, F_le_Textr0_W, F_le_Textr1_W, F_le_Textr2_W, F_le_Textr3_W, F_le_Textr4_W, F_le_Textr4_g4, F_le_Textr5_W, F_le_Textl0_W, F_le_Textr6_W, F_le_Textr7_W, F_le_Textr8_W, F_le_Textr9_W, F_le_Textr10_W, F_le_Textr11_W, F_le_Textc_W, v0, v6, lenI_sl, h1, hx, at_cons hix, q, w2]
      refine W.mono (ih (i + 1) _ (by omega) ?_ ?_) fun x e h ⟨g1, g2, g3, g4, g5⟩ => ⟨g1, g2, g3, ?_, g5⟩
      · (first | (simp only [fws, cond_true, cond_false, if_true, if_false, unV, isNil, optI, iV, stepI, evalR, reduceIte, reduceCtorEq, Nat.reduceEqDiff, Int.reduceLT, Int.reduceLE, Int.reduceToNat, Nat.reduceLT, Nat.reduceLeDiff, Int.reduceEq, Int.reduceNeg, IntKind.bits, Nat.reduceAdd, Nat.reduceMul, Nat.reducePow, Int.reducePow, ini, *]; done) | (simp only [fws, cond_true, cond_false, if_true, if_false, unV, isNil, optI, iV, stepI, evalR, reduceIte, reduceCtorEq, Nat.reduceEqDiff, Int.reduceLT, Int.reduceLE, Int.reduceToNat, Nat.reduceLT, Nat.reduceLeDiff, Int.reduceEq, Int.reduceNeg, IntKind.bits, Nat.reduceAdd, Nat.reduceMul, Nat.reducePow, Int.reducePow, ini]; rfl))
      · (first | (simp only [fws, cond_true, cond_false, if_true, if_false, unV, isNil, optI, iV, stepI, evalR, reduceIte, reduceCtorEq, Nat.reduceEqDiff, Int.reduceLT, Int.reduceLE, Int.reduceToNat, Nat.reduceLT, Nat.reduceLeDiff, Int.reduceEq, Int.reduceNeg, IntKind.bits, Nat.reduceAdd, Nat.reduceMul, Nat.reducePow, Int.reducePow, ini, *]; done) | (simp only [fws, cond_true, cond_false, if_true, if_false, unV, isNil, optI, iV, stepI, evalR, reduceIte, reduceCtorEq, Nat.reduceEqDiff, Int.reduceLT, Int.reduceLE, Int.reduceToNat, Nat.reduceLT, Nat.reduceLeDiff, Int.reduceEq, Int.reduceNeg, IntKind.bits, Nat.reduceAdd, Nat.reduceMul, Nat.reducePow, Int.reducePow, ini]; rfl))
      · rw [g4]; (first | (simp only [fws, cond_true, cond_false, if_true, if_false, unV, isNil, optI, iV, stepI, evalR, reduceIte, reduceCtorEq, Nat.reduceEqDiff, Int.reduceLT, Int.reduceLE, Int.reduceToNat, Nat.reduceLT, Nat.reduceLeDiff, Int.reduceEq, Int.reduceNeg, IntKind.bits, Nat.reduceAdd, Nat.reduceMul, Nat.reducePow, Int.reducePow, ini, *]; done) | (simp only [fws, cond_true, cond_false, if_true, if_false, unV, isNil, optI, iV, stepI, evalR, reduceIte, reduceCtorEq, Nat.reduceEqDiff, Int.reduceLT, Int.reduceLE, Int.reduceToNat, Nat.reduceLT, Nat.reduceLeDiff, Int.reduceEq, Int.reduceNeg, IntKind.bits, Nat.reduceAdd, Nat.reduceMul, Nat.reducePow, Int.reducePow, ini]; rfl))
theorem f_le_Text {T : Tab} (hP : T 17 = some F_le_Plain) (h : T 15 = some F_le_Text) (o : Option (List UInt8)) (hl : (lst o).length ≤ 100000) (a : Nat) (ha : a < 18446744073709551616) :
    FnV T 15 [slV byteE o, .int .u64 a] (txt (lst o) a) := by
  refine FnV_of (by simp [pure_int, pure_sl (E := byteE) (o := o) (k := 6) rfl]) ?_
  rw [Ev_fn h rfl]
  have wl : IntKind.u64.wrap ((lst o).length : Int) = (lst o).length := by rw [wrap_u64]; omega
  unfold txt
  by_cases h1 : (lst o).length ≤ a
  · have q : (((lst o).length : Int) ≤ a) := by omega
    rw [if_neg (by omega)]
    simp only [F_le_Text, fws, cond_true, cond_false, if_true, if_false, unV, isNil, optI, iV, stepI, evalR, reduceIte, reduceCtorEq, Nat.reduceEqDiff, Int.reduceLT, Int.reduceLE, Int.reduceToNat, Nat.reduceLT, Nat.reduceLeDiff, Int.reduceEq, Int.reduceNeg, IntKind.bits, Nat.reduceAdd, Nat.reduceMul, Nat.reducePow, Int.reducePow, ini, fwi, F_le_Textr0_W, F_le_Textr1_W, F_le_Textr2_W, F_le_Textr3_W, F_le_Textr4_W, F_le_Textr4_g4, F_le_Textr5_W, F_le_Textl0_W, F_le_Textr6_W, F_le_Textr7_W, F_le_Textr8_W, F_le_Textr9_W, F_le_Textr10_W, F_le_Textr11_W, F_le_Textc_W, lenI_sl, wl, q]
    rfl
  · have q : ¬ (((lst o).length : Int) ≤ a) := by omega
    have wa : IntKind.i64.wrap (a : Int) = a := wrapI64 (by omega) (by omega)
    have htl := tw_len (lst o) a
    simp only [F_le_Text, fws, cond_true, cond_false, if_true, if_false, unV, isNil, optI, iV, stepI, evalR, reduceIte, reduceCtorEq, Nat.reduceEqDiff, Int.reduceLT, Int.reduceLE, Int.reduceToNat, Nat.reduceLT, Nat.reduceLeDiff, Int.reduceEq, Int.reduceNeg, IntKind.bits, Nat.reduceAdd, Nat.reduceMul, Nat.reducePow, Int.reducePow, ini, fwi, F_le_Textr0_W, F_le_Textr1_W, F_le_Textr2_W, F_le_Textr3_W, F_le_Textr4_W, F_le_Textr4_g4, F_le_Textr5_W, F_le_Textl0_W, F_le_Textr6_W, F_le_Textr7_W, F_le_Textr8_W, F_le_Textr9_W, F_le_Textr10_W, F_le_Textr11_W, F_le_Textc_W, lenI_sl, wl, q, wa]
    refine W.mono (loop_le_Text o hl ((lst o).length - a) a _ (by omega) ?_ ?_) fun x e h ⟨g1, g2, g3, g4, g5⟩ => ?_
    · (first | (simp only [fws, cond_true, cond_false, if_true, if_false, unV, isNil, optI, iV, stepI, evalR, reduceIte, reduceCtorEq, Nat.reduceEqDiff, Int.reduceLT, Int.reduceLE, Int.reduceToNat, Nat.reduceLT, Nat.reduceLeDiff, Int.reduceEq, Int.reduceNeg, IntKind.bits, Nat.reduceAdd, Nat.reduceMul, Nat.reducePow, Int.reducePow, ini, *]; done) | (simp only [fws, cond_true, cond_false, if_true, if_false, unV, isNil, optI, iV, stepI, evalR, reduceIte, reduceCtorEq, Nat.reduceEqDiff, Int.reduceLT, Int.reduceLE, Int.reduceToNat, Nat.reduceLT, Nat.reduceLeDiff, Int.reduceEq, Int.reduceNeg, IntKind.bits, Nat.reduceAdd, Nat.reduceMul, Nat.reducePow, Int.reducePow, ini]; rfl))
    · (first | (simp only [fws, cond_true, cond_false, if_true, if_false, unV, isNil, optI, iV, stepI, evalR, reduceIte, reduceCtorEq, Nat.reduceEqDiff, Int.reduceLT, Int.reduceLE, Int.reduceToNat, Nat.reduceLT, Nat.reduceLeDiff, Int.reduceEq, Int.reduceNeg, IntKind.bits, Nat.reduceAdd, Nat.reduceMul, Nat.reducePow, Int.reducePow, ini, *]; done) | (simp only [fws, cond_true, cond_false, if_true, if_false, unV, isNil, optI, iV, stepI, evalR, reduceIte, reduceCtorEq, Nat.reduceEqDiff, Int.reduceLT, Int.reduceLE, Int.reduceToNat, Nat.reduceLT, Nat.reduceLeDiff, Int.reduceEq, Int.reduceNeg, IntKind.bits, Nat.reduceAdd, Nat.reduceMul, Nat.reducePow, Int.reducePow, ini]; rfl))
    subst g1; subst g2
    have g4 : e 1 = .int .u64 a := by rw [g4]; (first | (simp only [fws, cond_true, cond_false, if_true, if_false, unV, isNil, optI, iV, stepI, evalR, reduceIte, reduceCtorEq, Nat.reduceEqDiff, Int.reduceLT, Int.reduceLE, Int.reduceToNat, Nat.reduceLT, Nat.reduceLeDiff, Int.reduceEq, Int.reduceNeg, IntKind.bits, Nat.reduceAdd, Nat.reduceMul, Nat.reducePow, Int.reducePow, ini, *]; done) | (simp only [fws, cond_true, cond_false, if_true, if_false, unV, isNil, optI, iV, stepI, evalR, reduceIte, reduceCtorEq, Nat.reduceEqDiff, Int.reduceLT, Int.reduceLE, Int.reduceToNat, Nat.reduceLT, Nat.reduceLeDiff, Int.reduceEq, Int.reduceNeg, IntKind.bits, Nat.reduceAdd, Nat.reduceMul, Nat.reducePow, Int.reducePow, ini]; rfl))
    by_cases h2 : a + (tw (lst o) a).length < (lst o).length
    · have q2 : decide (((a + (tw (lst o) a).length : Nat) : Int) = (lst o).length) = false := by rw [decide_eq_false_iff_not]; omega
      have hs := fun H => sleI_sl (E := byteE) (o := o) (H := H) (n := 1) (lo := some (.int .u64 a)) (hi := some (.int .i64 (a + (tw (lst o) a).length : Nat))) (mx := none) (k := (lst o).length) rfl rfl rfl rfl ⟨Nat.le_add_right _ _, by omega, Nat.le_refl _⟩
      have hp : lst (part o a (a + (tw (lst o) a).length)) = tw (lst o) a := by rw [lst_part, Nat.add_sub_cancel_left, tw_take]
      have hb := fun H => b2sI_sl (o := part o a (a + (tw (lst o) a).length)) (H := H)
      simp only [hp] at hb
      have c1 := f_le_Plain (T := T) hP (tw (lst o) a)
      rw [if_pos h2]
      cases hpl : plain (tw (lst o) a) with
      | true =>
        rw [hpl] at c1
        rw [if_pos rfl]
        simp only [fws, cond_true, cond_false, if_true, if_false, unV, isNil, optI, iV, stepI, evalR, reduceIte, reduceCtorEq, Nat.reduceEqDiff, Int.reduceLT, Int.reduceLE, Int.reduceToNat, Nat.reduceLT, Nat.reduceLeDiff, Int.reduceEq, Int.reduceNeg, IntKind.bits, Nat.reduceAdd, Nat.reduceMul, Nat.reducePow, Int.reducePow, ini, fwi, F_le_Textr0_W, F_le_Textr1_W, F_le_Textr2_W, F_le_Textr3_W, F_le_Textr4_W, F_le_Textr4_g4, F_le_Textr5_W, F_le_Textl0_W, F_le_Textr6_W, F_le_Textr7_W, F_le_Textr8_W, F_le_Textr9_W, F_le_Textr10_W, F_le_Textr11_W, F_le_Textc_W, g3, g4, g5, lenI_sl, q2, hs, hb, CC_of c1]
        rfl
      | false =>
        rw [hpl] at c1
        rw [if_neg (by decide)]
        simp only [fws, cond_true, cond_false, if_true, if_false, unV, isNil, optI, iV, stepI, evalR, reduceIte, reduceCtorEq, Nat.reduceEqDiff, Int.reduceLT, Int.reduceLE, Int.reduceToNat, Nat.reduceLT, Nat.reduceLeDiff, Int.reduceEq, Int.reduceNeg, IntKind.bits, Nat.reduceAdd, Nat.reduceMul, Nat.reducePow, Int.reducePow, ini, fwi, F_le_Textr0_W, F_le_Textr1_W, F_le_Textr2_W, F_le_Textr3_W, F_le_Textr4_W, F_le_Textr4_g4, F_le_Textr5_W, F_le_Textl0_W, F_le_Textr6_W, F_le_Textr7_W, F_le_Textr8_W, F_le_Textr9_W, F_le_Textr10_W, F_le_Textr11_W, F_le_Textc_W, g3, g4, g5, lenI_sl, q2, hs, hb, CC_of c1]
        rfl
    · have q2 : decide (((a + (tw (lst o) a).length : Nat) : Int) = (lst o).length) = true := by rw [decide_eq_true_eq]; omega
      rw [if_neg h2]
      simp only [fws, cond_true, cond_false, if_true, if_false, unV, isNil, optI, iV, stepI, evalR, reduceIte, reduceCtorEq, Nat.reduceEqDiff, Int.reduceLT, Int.reduceLE, Int.reduceToNat, Nat.reduceLT, Nat.reduceLeDiff, Int.reduceEq, Int.reduceNeg, IntKind.bits, Nat.reduceAdd, Nat.reduceMul, Nat.reducePow, Int.reducePow, ini, fwi, F_le_Textr0_W, F_le_Textr1_W, F_le_Textr2_W, F_le_Textr3_W, F_le_Textr4_W, F_le_Textr4_g4, F_le_Textr5_W, F_le_Textl0_W, F_le_Textr6_W, F_le_Textr7_W, F_le_Textr8_W, F_le_Textr9_W, F_le_Textr10_W, F_le_Textr11_W, F_le_Textc_W, g3, g4, g5, lenI_sl, q2]
      rfl
theorem str_app (a b : List UInt8) : (⟨a.toArray⟩ : ByteArray) ++ (⟨b.toArray⟩ : ByteArray) = ⟨(a ++ b).toArray⟩ := by
  apply ByteArray.ext
  rw [ByteArray.data_append]
  simp
theorem loop_ref02_Text {T : Tab} (hP : T 18 = some F_ref02_Plain) (o : Option (List UInt8)) (hl : (lst o).length ≤ 100000) : ∀ (m i : Nat) (acc : List UInt8) (env : Env), i + m = (lst o).length → acc.length ≤ 100 → env 0 = slV byteE o → env 6 = strV acc → env 7 = .int .i64 i →
    W T (.loop F_ref02_Textl0) env [] fun x e h => h = [] ∧ if i + (tw (lst o) i).length < (lst o).length then x = .ret ∧ (if plain ((acc ++ tw (lst o) i).take 100) = true then e 4 = strV ((acc ++ tw (lst o) i).take 100) ∧ e 5 = .int .i64 0 else e 4 = .string ⟨#[]⟩ ∧ e 5 = .int .i64 21) else x = .exit 0 := by
  intro m
  induction m with
  | zero =>
    intro i acc env hi hacc v0 v6 v7
    have h1 : ¬ ((i : Int) < (lst o).length) := by omega
    have hneg : ¬ (i + (tw (lst o) i).length < (lst o).length) := by omega
    rw [w_loop]
    simp only [fws, cond_true, cond_false, if_true, if_false, unV, isNil, optI, iV, stepI, evalR, reduceIte, reduceCtorEq, Nat.reduceEqDiff, Int.reduceLT, Int.reduceLE, Int.reduceToNat, Nat.reduceLT, Nat.reduceLeDiff, Int.reduceEq, Int.reduceNeg, IntKind.bits, Nat.reduceAdd, Nat.reduceMul, Nat.reducePow, Int.reducePow, ini, fwi, F_ref02_Textr0_W, F_ref02_Textr1_W, F_ref02_Textr2_W, F_ref02_Textr3_W, F_ref02_Textr4_W, F_ref02_Textr5_W, F_ref02_Textr7_W, F_ref02_Textr8_W, F_ref02_Textr9_W, F_ref02_Textr10_W, F_ref02_Textr11_W, F_ref02_Textr12_W, F_ref02_Textr6_W, F_ref02_Textl0_W, F_ref02_Textr13_W, F_ref02_Textc_W, v0, v6, v7, lenI_sl, h1, hneg, if_false, and_self]
  | succ m ih =>
    intro i acc env hi hacc v0 v6 v7
    have h1 : ((i : Int) < (lst o).length) := by omega
    have hix : i < (lst o).length := by omega
    have hx := fun H => ix_sl (E := byteE) (n := 1) rfl hix .i64 H
    have w2 : IntKind.i64.wrap ((i : Int) + 1) = ((i + 1 : Nat) : Int) := by rw [wrapI64 (by omega) (by omega)]; rfl
    rw [w_loop]
    by_cases h0 : (lst o)[i] = 0
    · have q : decide ((((lst o)[i]).toNat : Int) = 0) = true := by rw [h0]; rfl
      have c1 := f_ref02_Plain (T := T) hP acc (by omega)
      have hpos : i + ([] : List UInt8).length < (lst o).length := by simpa using hix
      rw [tw_zero hix h0, List.append_nil, List.take_of_length_le hacc]
      cases hpl : plain acc with
      | true =>
        rw [hpl] at c1
        simp only [fws, cond_true, cond_false, if_true, if_false, unV, isNil, optI, iV, stepI, evalR, reduceIte, reduceCtorEq, Nat.reduceEqDiff, Int.reduceLT, Int.reduceLE, Int.reduceToNat, Nat.reduceLT, Nat.reduceLeDiff, Int.reduceEq, Int.reduceNeg, IntKind.bits, Nat.reduceAdd, Nat.reduceMul, Nat.reducePow, Int.reducePow, ini, fwi, F_ref02_Textr0_W, F_ref02_Textr1_W, F_ref02_Textr2_W, F_ref02_Textr3_W, F_ref02_Textr4_W, F_ref02_Textr5_W, F_ref02_Textr7_W, F_ref02_Textr8_W, F_ref02_Textr9_W, F_ref02_Textr10_W, F_ref02_Textr11_W, F_ref02_Textr12_W, F_ref02_Textr6_W, F_ref02_Textl0_W, F_ref02_Textr13_W, F_ref02_Textc_W, v0, v6, v7, lenI_sl, h1, hx, at_cons hix, q, CC_of c1, hpos, and_self]
      | false =>
        rw [hpl] at c1
        simp only [fws, cond_true, cond_false, if_true, if_false, unV, isNil, optI, iV, stepI, evalR, reduceIte, reduceCtorEq, Nat.reduceEqDiff, Int.reduceLT, Int.reduceLE, Int.reduceToNat, Nat.reduceLT, Nat.reduceLeDiff, Int.reduceEq, Int.reduceNeg, IntKind.bits, Nat.reduceAdd, Nat.reduceMul, Nat.reducePow, Int.reducePow, ini, fwi, F_ref02_Textr0_W, F_ref02_Textr1_W, F_ref02_Textr2_W, F_ref02_Textr3_W, F_ref02_Textr4_W, F_ref02_Textr5_W, F_ref02_Textr7_W, F_ref02_Textr8_W, F_ref02_Textr9_W, F_ref02_Textr10_W, F_ref02_Textr11_W, F_ref02_Textr12_W, F_ref02_Textr6_W, F_ref02_Textl0_W, F_ref02_Textr13_W, F_ref02_Textc_W, v0, v6, v7, lenI_sl, h1, hx, at_cons hix, q, CC_of c1, hpos, Bool.false_eq_true, if_false, and_self]
    · have q : decide ((((lst o)[i]).toNat : Int) = 0) = false := by
        rw [decide_eq_false_iff_not]
        intro h
        exact h0 (UInt8.toNat_inj.1 (by show (lst o)[i].toNat = 0; omega))
      rw [tw_cons hix h0, List.length_cons, show i + ((tw (lst o) (i + 1)).length + 1) = i + 1 + (tw (lst o) (i + 1)).length by omega]
      by_cases h100 : acc.length < 100
      · have q2 : ((acc.length : Int) < 100) := by omega
        have hb : ∀ H, b2sI H (immV 1 [.int .u8 ((lst o)[i]).toNat]) = some (strV [(lst o)[i]], H) := fun H => b2sI_imm (l := [(lst o)[i]])
        have hsz : acc.length + 1 ≤ 9223372036854775807 := by omega
        have hap := str_app acc [(lst o)[i]]
        have hh := ih (i + 1) (acc ++ [(lst o)[i]])
        simp only [List.append_assoc, List.cons_append, List.nil_append] at hh
        simp only [fws, cond_true, cond_false, if_true, if_false, unV, isNil, optI, iV, stepI, evalR, reduceIte, reduceCtorEq, Nat.reduceEqDiff, Int.reduceLT, Int.reduceLE, Int.reduceToNat, Nat.reduceLT, Nat.reduceLeDiff, Int.reduceEq, Int.reduceNeg, IntKind.bits, Nat.reduceAdd, Nat.reduceMul, Nat.reducePow, Int.reducePow, ini, fwh, lk, cellsAt, tagOf, spotOf, rdN, spl, fillL, zr, fwi, F_ref02_Textr0_W, F_ref02_Textr1_W, F_ref02_Textr2_W, F_ref02_Textr3_W, F_ref02_Textr4_W, F_ref02_Textr5_W, F_ref02_Textr7_W, F_ref02_Textr8_W, F_ref02_Textr9_W, F_ref02_Textr10_W, F_ref02_Textr11_W, F_ref02_Textr12_W, F_ref02_Textr6_W, F_ref02_Textl0_W, F_ref02_Textr13_W, F_ref02_Textc_W, v0, v6, v7, lenI_sl, lenI_str, h1, hx, at_cons hix, q, q2, w2, hb, hsz, hap]
        refine hh _ (by omega) (by simp; omega) ?_ ?_ ?_
        all_goals (first | (simp only [fws, cond_true, cond_false, if_true, if_false, unV, isNil, optI, iV, stepI, evalR, reduceIte, reduceCtorEq, Nat.reduceEqDiff, Int.reduceLT, Int.reduceLE, Int.reduceToNat, Nat.reduceLT, Nat.reduceLeDiff, Int.reduceEq, Int.reduceNeg, IntKind.bits, Nat.reduceAdd, Nat.reduceMul, Nat.reducePow, Int.reducePow, ini, *]; done) | (simp only [fws, cond_true, cond_false, if_true, if_false, unV, isNil, optI, iV, stepI, evalR, reduceIte, reduceCtorEq, Nat.reduceEqDiff, Int.reduceLT, Int.reduceLE, Int.reduceToNat, Nat.reduceLT, Nat.reduceLeDiff, Int.reduceEq, Int.reduceNeg, IntKind.bits, Nat.reduceAdd, Nat.reduceMul, Nat.reducePow, Int.reducePow, ini]; rfl))
      · have q2 : ¬ ((acc.length : Int) < 100) := by omega
        have ht : (acc ++ (lst o)[i] :: tw (lst o) (i + 1)).take 100 = (acc ++ tw (lst o) (i + 1)).take 100 := by
          rw [List.take_append_of_le_length (by omega), List.take_append_of_le_length (by omega)]
        rw [ht]
        simp only [fws, cond_true, cond_false, if_true, if_false, unV, isNil, optI, iV, stepI, evalR, reduceIte, reduceCtorEq, Nat.reduceEqDiff, Int.reduceLT, Int.reduceLE, Int.reduceToNat, Nat.reduceLT, Nat.reduceLeDiff, Int.reduceEq, Int.reduceNeg, IntKind.bits, Nat.reduceAdd, Nat.reduceMul, Nat.reducePow, Int.reducePow, ini, fwi, F_ref02_Textr0_W, F_ref02_Textr1_W, F_ref02_Textr2_W, F_ref02_Textr3_W, F_ref02_Textr4_W, F_ref02_Textr5_W, F_ref02_Textr7_W, F_ref02_Textr8_W, F_ref02_Textr9_W, F_ref02_Textr10_W, F_ref02_Textr11_W, F_ref02_Textr12_W, F_ref02_Textr6_W, F_ref02_Textl0_W, F_ref02_Textr13_W, F_ref02_Textc_W, v0, v6, v7, lenI_sl, lenI_str, h1, hx, at_cons hix, q, q2, w2]
        refine ih (i + 1) acc _ (by omega) hacc ?_ ?_ ?_
        all_goals (first | (simp only [fws, cond_true, cond_false, if_true, if_false, unV, isNil, optI, iV, stepI, evalR, reduceIte, reduceCtorEq, Nat.reduceEqDiff, Int.reduceLT, Int.reduceLE, Int.reduceToNat, Nat.reduceLT, Nat.reduceLeDiff, Int.reduceEq, Int.reduceNeg, IntKind.bits, Nat.reduceAdd, Nat.reduceMul, Nat.reducePow, Int.reducePow, ini, *]; done) | (simp only [fws, cond_true, cond_false, if_true, if_false, unV, isNil, optI, iV, stepI, evalR, reduceIte, reduceCtorEq, Nat.reduceEqDiff, Int.reduceLT, Int.reduceLE, Int.reduceToNat, Nat.reduceLT, Nat.reduceLeDiff, Int.reduceEq, Int.reduceNeg, IntKind.bits, Nat.reduceAdd, Nat.reduceMul, Nat.reducePow, Int.reducePow, ini]; rfl))
theorem plain_take (t : List UInt8) : plain (t.take 100) = plain t ∧ (plain t = true → t.take 100 = t) := by
  by_cases h : t.length ≤ 100
  · rw [List.take_of_length_le h]; exact ⟨rfl, fun _ => rfl⟩
  · have h1 : plain t = false := by unfold plain; rw [show decide (t.length ≤ 64) = false by simp; omega]; rfl
    have h2 : plain (t.take 100) = false := by unfold plain; rw [show decide ((t.take 100).length ≤ 64) = false by simp; omega]; rfl
    rw [h1, h2]
    exact ⟨rfl, fun h => by cases h⟩
theorem f_ref02_Text {T : Tab} (hP : T 18 = some F_ref02_Plain) (h : T 16 = some F_ref02_Text) (o : Option (List UInt8)) (hl : (lst o).length ≤ 100000) (a : Nat) (ha : a < 18446744073709551616) :
    FnV T 16 [slV byteE o, .int .u64 a] (txt (lst o) a) := by
  refine FnV_of (by simp [pure_int, pure_sl (E := byteE) (o := o) (k := 6) rfl]) ?_
  rw [Ev_fn h rfl]
  have wl : IntKind.u64.wrap ((lst o).length : Int) = (lst o).length := by rw [wrap_u64]; omega
  unfold txt
  by_cases h1 : (lst o).length ≤ a
  · have q : (((lst o).length : Int) ≤ a) := by omega
    rw [if_neg (by omega)]
    simp only [F_ref02_Text, fws, cond_true, cond_false, if_true, if_false, unV, isNil, optI, iV, stepI, evalR, reduceIte, reduceCtorEq, Nat.reduceEqDiff, Int.reduceLT, Int.reduceLE, Int.reduceToNat, Nat.reduceLT, Nat.reduceLeDiff, Int.reduceEq, Int.reduceNeg, IntKind.bits, Nat.reduceAdd, Nat.reduceMul, Nat.reducePow, Int.reducePow, ini, fwi, F_ref02_Textr0_W, F_ref02_Textr1_W, F_ref02_Textr2_W, F_ref02_Textr3_W, F_ref02_Textr4_W, F_ref02_Textr5_W, F_ref02_Textr7_W, F_ref02_Textr8_W, F_ref02_Textr9_W, F_ref02_Textr10_W, F_ref02_Textr11_W, F_ref02_Textr12_W, F_ref02_Textr6_W, F_ref02_Textl0_W, F_ref02_Textr13_W, F_ref02_Textc_W, lenI_sl, wl, q]
    rfl
  · have q : ¬ (((lst o).length : Int) ≤ a) := by omega
    have wa : IntKind.i64.wrap (a : Int) = a := wrapI64 (by omega) (by omega)
    simp only [F_ref02_Text, fws, cond_true, cond_false, if_true, if_false, unV, isNil, optI, iV, stepI, evalR, reduceIte, reduceCtorEq, Nat.reduceEqDiff, Int.reduceLT, Int.reduceLE, Int.reduceToNat, Nat.reduceLT, Nat.reduceLeDiff, Int.reduceEq, Int.reduceNeg, IntKind.bits, Nat.reduceAdd, Nat.reduceMul, Nat.reducePow, Int.reducePow, ini, fwi, F_ref02_Textr0_W, F_ref02_Textr1_W, F_ref02_Textr2_W, F_ref02_Textr3_W, F_ref02_Textr4_W, F_ref02_Textr5_W, F_ref02_Textr7_W, F_ref02_Textr8_W, F_ref02_Textr9_W, F_ref02_Textr10_W, F_ref02_Textr11_W, F_ref02_Textr12_W, F_ref02_Textr6_W, F_ref02_Textl0_W, F_ref02_Textr13_W, F_ref02_Textc_W, lenI_sl, wl, q, wa]
    refine W.mono (loop_ref02_Text hP o hl ((lst o).length - a) a [] _ (by omega) (by simp) ?_ ?_ ?_) fun x e h ⟨g1, g2⟩ => ?_
    · (first | (simp only [fws, cond_true, cond_false, if_true, if_false, unV, isNil, optI, iV, stepI, evalR, reduceIte, reduceCtorEq, Nat.reduceEqDiff, Int.reduceLT, Int.reduceLE, Int.reduceToNat, Nat.reduceLT, Nat.reduceLeDiff, Int.reduceEq, Int.reduceNeg, IntKind.bits, Nat.reduceAdd, Nat.reduceMul, Nat.reducePow, Int.reducePow, ini, *]; done) | (simp only [fws, cond_true, cond_false, if_true, if_false, unV, isNil, optI, iV, stepI, evalR, reduceIte, reduceCtorEq, Nat.reduceEqDiff, Int.reduceLT, Int.reduceLE, Int.reduceToNat, Nat.reduceLT, Nat.reduceLeDiff, Int.reduceEq, Int.reduceNeg, IntKind.bits, Nat.reduceAdd, Nat.reduceMul, Nat.reducePow, Int.reducePow, ini]; rfl))
    · (first | (simp only [fws, cond_true, cond_false, if_true, if_false, unV, isNil, optI, iV, stepI, evalR, reduceIte, reduceCtorEq, Nat.reduceEqDiff, Int.reduceLT, Int.reduceLE, Int.reduceToNat, Nat.reduceLT, Nat.reduceLeDiff, Int.reduceEq, Int.reduceNeg, IntKind.bits, Nat.reduceAdd, Nat.reduceMul, Nat.reducePow, Int.reducePow, ini, *]; done) | (simp only [fws, cond_true, cond_false, if_true, if_false, unV, isNil, optI, iV, stepI, evalR, reduceIte, reduceCtorEq, Nat.reduceEqDiff, Int.reduceLT, Int.reduceLE, Int.reduceToNat, Nat.reduceLT, Nat.reduceLeDiff, Int.reduceEq, Int.reduceNeg, IntKind.bits, Nat.reduceAdd, Nat.reduceMul, Nat.reducePow, Int.reducePow, ini]; rfl))
    · (first | (simp only [fws, cond_true, cond_false, if_true, if_false, unV, isNil, optI, iV, stepI, evalR, reduceIte, reduceCtorEq, Nat.reduceEqDiff, Int.reduceLT, Int.reduceLE, Int.reduceToNat, Nat.reduceLT, Nat.reduceLeDiff, Int.reduceEq, Int.reduceNeg, IntKind.bits, Nat.reduceAdd, Nat.reduceMul, Nat.reducePow, Int.reducePow, ini, *]; done) | (simp only [fws, cond_true, cond_false, if_true, if_false, unV, isNil, optI, iV, stepI, evalR, reduceIte, reduceCtorEq, Nat.reduceEqDiff, Int.reduceLT, Int.reduceLE, Int.reduceToNat, Nat.reduceLT, Nat.reduceLeDiff, Int.reduceEq, Int.reduceNeg, IntKind.bits, Nat.reduceAdd, Nat.reduceMul, Nat.reducePow, Int.reducePow, ini]; rfl))
    subst g1
    rw [List.nil_append] at g2
    obtain ⟨p1, p2⟩ := plain_take (tw (lst o) a)
    by_cases h2 : a + (tw (lst o) a).length < (lst o).length
    · rw [if_pos h2] at g2 ⊢
      obtain ⟨rfl, g2⟩ := g2
      rw [p1] at g2
      by_cases hpl : plain (tw (lst o) a) = true
      · rw [if_pos hpl] at g2 ⊢
        rw [p2 hpl] at g2
        simp only [fws, cond_true, cond_false, if_true, if_false, unV, isNil, optI, iV, stepI, evalR, reduceIte, reduceCtorEq, Nat.reduceEqDiff, Int.reduceLT, Int.reduceLE, Int.reduceToNat, Nat.reduceLT, Nat.reduceLeDiff, Int.reduceEq, Int.reduceNeg, IntKind.bits, Nat.reduceAdd, Nat.reduceMul, Nat.reducePow, Int.reducePow, ini, F_ref02_Textr0_W, F_ref02_Textr1_W, F_ref02_Textr2_W, F_ref02_Textr3_W, F_ref02_Textr4_W, F_ref02_Textr5_W, F_ref02_Textr7_W, F_ref02_Textr8_W, F_ref02_Textr9_W, F_ref02_Textr10_W, F_ref02_Textr11_W, F_ref02_Textr12_W, F_ref02_Textr6_W, F_ref02_Textl0_W, F_ref02_Textr13_W, F_ref02_Textc_W, g2.1, g2.2]
        rfl
      · rw [if_neg hpl] at g2 ⊢
        simp only [fws, cond_true, cond_false, if_true, if_false, unV, isNil, optI, iV, stepI, evalR, reduceIte, reduceCtorEq, Nat.reduceEqDiff, Int.reduceLT, Int.reduceLE, Int.reduceToNat, Nat.reduceLT, Nat.reduceLeDiff, Int.reduceEq, Int.reduceNeg, IntKind.bits, Nat.reduceAdd, Nat.reduceMul, Nat.reducePow, Int.reducePow, ini, F_ref02_Textr0_W, F_ref02_Textr1_W, F_ref02_Textr2_W, F_ref02_Textr3_W, F_ref02_Textr4_W, F_ref02_Textr5_W, F_ref02_Textr7_W, F_ref02_Textr8_W, F_ref02_Textr9_W, F_ref02_Textr10_W, F_ref02_Textr11_W, F_ref02_Textr12_W, F_ref02_Textr6_W, F_ref02_Textl0_W, F_ref02_Textr13_W, F_ref02_Textc_W, g2.1, g2.2]
        rfl
    · rw [if_neg h2] at g2 ⊢
      subst g2
      simp only [fws, cond_true, cond_false, if_true, if_false, unV, isNil, optI, iV, stepI, evalR, reduceIte, reduceCtorEq, Nat.reduceEqDiff, Int.reduceLT, Int.reduceLE, Int.reduceToNat, Nat.reduceLT, Nat.reduceLeDiff, Int.reduceEq, Int.reduceNeg, IntKind.bits, Nat.reduceAdd, Nat.reduceMul, Nat.reducePow, Int.reducePow, ini, F_ref02_Textr0_W, F_ref02_Textr1_W, F_ref02_Textr2_W, F_ref02_Textr3_W, F_ref02_Textr4_W, F_ref02_Textr5_W, F_ref02_Textr7_W, F_ref02_Textr8_W, F_ref02_Textr9_W, F_ref02_Textr10_W, F_ref02_Textr11_W, F_ref02_Textr12_W, F_ref02_Textr6_W, F_ref02_Textl0_W, F_ref02_Textr13_W, F_ref02_Textc_W]
      rfl
theorem law_LeTexts (o : Option (List UInt8)) {a : Nat} (ha : a < 18446744073709551616) (s : List UInt8) : Ev TLe 3 [slV byteE o, .int .u64 a, strV s] [] fun v _ => v = .bool true := by
  rw [Ev_fn rfl rfl]
  by_cases hl : (lst o).length ≤ 4096
  · have q : ¬ ((4096 : Int) < (lst o).length) := by omega
    by_cases hs : s.length ≤ 4096
    · have q2 : ¬ ((4096 : Int) < s.length) := by omega
      have c1 := f_le_Text (T := TLe) rfl rfl o (by omega) a ha
      have c2 := f_ref02_Text (T := TLe) rfl rfl o (by omega) a ha
      have c3 := f_le_Plain (T := TLe) rfl s
      have c4 := f_ref02_Plain (T := TLe) rfl s (by omega)
      obtain ⟨y, k, hy⟩ : ∃ (y : List UInt8) (k : Int), txt (lst o) a = .tuple #[strV y, .int .i64 k] := by
        unfold txt
        split
        · split
          · exact ⟨_, _, rfl⟩
          · exact ⟨[], _, rfl⟩
        · exact ⟨[], _, rfl⟩
      rw [hy] at c1 c2
      simp only [F_law02_LeTexts, fws, cond_true, cond_false, if_true, if_false, unV, isNil, optI, iV, stepI, evalR, reduceIte, reduceCtorEq, Nat.reduceEqDiff, Int.reduceLT, Int.reduceLE, Int.reduceToNat, Nat.reduceLT, Nat.reduceLeDiff, Int.reduceEq, Int.reduceNeg, IntKind.bits, Nat.reduceAdd, Nat.reduceMul, Nat.reducePow, Int.reducePow, ini, fwh, lk, cellsAt, tagOf, spotOf, rdN, spl, fillL, zr, fwi, F_law02_LeTextsr0_W, F_law02_LeTextsr1_W, F_law02_LeTextsr1_g3, F_law02_LeTextsr2_W, F_law02_LeTextsr3_W, F_law02_LeTextsr4_W, F_law02_LeTextsr5_W, F_law02_LeTextsr5_g3, F_law02_LeTextsr5_g8, F_law02_LeTextsr5_g15, F_law02_LeTextsc_W, lenI_sl, lenI_str, q, q2, CC_of c1, CC_of c2, CC_of c3, CC_of c4, strEq_self, CC_of le_alive]
    · have q2 : ((4096 : Int) < s.length) := by omega
      simp only [F_law02_LeTexts, fws, cond_true, cond_false, if_true, if_false, unV, isNil, optI, iV, stepI, evalR, reduceIte, reduceCtorEq, Nat.reduceEqDiff, Int.reduceLT, Int.reduceLE, Int.reduceToNat, Nat.reduceLT, Nat.reduceLeDiff, Int.reduceEq, Int.reduceNeg, IntKind.bits, Nat.reduceAdd, Nat.reduceMul, Nat.reducePow, Int.reducePow, ini, fwi, F_law02_LeTextsr0_W, F_law02_LeTextsr1_W, F_law02_LeTextsr1_g3, F_law02_LeTextsr2_W, F_law02_LeTextsr3_W, F_law02_LeTextsr4_W, F_law02_LeTextsr5_W, F_law02_LeTextsr5_g3, F_law02_LeTextsr5_g8, F_law02_LeTextsr5_g15, F_law02_LeTextsc_W, lenI_sl, lenI_str, q, q2]
  · have q : ((4096 : Int) < (lst o).length) := by omega
    simp only [F_law02_LeTexts, fws, cond_true, cond_false, if_true, if_false, unV, isNil, optI, iV, stepI, evalR, reduceIte, reduceCtorEq, Nat.reduceEqDiff, Int.reduceLT, Int.reduceLE, Int.reduceToNat, Nat.reduceLT, Nat.reduceLeDiff, Int.reduceEq, Int.reduceNeg, IntKind.bits, Nat.reduceAdd, Nat.reduceMul, Nat.reducePow, Int.reducePow, ini, fwi, F_law02_LeTextsr0_W, F_law02_LeTextsr1_W, F_law02_LeTextsr1_g3, F_law02_LeTextsr2_W, F_law02_LeTextsr3_W, F_law02_LeTextsr4_W, F_law02_LeTextsr5_W, F_law02_LeTextsr5_g3, F_law02_LeTextsr5_g8, F_law02_LeTextsr5_g15, F_law02_LeTextsc_W, lenI_sl, q]
end Go.Proofs.Ytleogcfmlpmbiaa
