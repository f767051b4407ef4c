/- The law: what is read is within its limits. -/
import Derived.Test.YtdkdifjjpbfohaaDyt
namespace Go.Proofs.Ytdkdifjjpbfohaa
open Go Fw
set_option linter.unusedSimpArgs false
set_option linter.unusedVariables false
set_option linter.unusedSectionVars false

theorem plain_len {l : List UInt8} (h : plain l = true) : l.length ≤ 100000000 := by
  unfold plain at h
  rw [Bool.and_eq_true, decide_eq_true_eq] at h
  omega
theorem ld_str {l : List (List UInt8)} {i : Nat} (h : i < l.length) (H : Heap) : loadI H (atI strE l i) = some (strV l[i], H) := by
  rw [at_cons h]; rfl
section
variable {s0 s1 : List UInt8} {on : Option (List (List UInt8))} {X : Entry} {cs : List Value} {b : Bool} {t2 t6 t1 t0 : List Value}
/-- What is known of the cells. -/
structure CsOk (cs : List Value) (s0 s1 : List UInt8) (on : Option (List (List UInt8))) : Prop where
  cs : ∃ t2 t6, cs = strV s0 :: strV s1 :: slV strE on :: t2 ∧ t2.drop 3 = .bool true :: t6
  p0 : plain s0 = true
  p1 : plain s1 = true
  gd : ∀ s ∈ lst on, good s
  ln : (lst on).length ≤ 16
variable (c : CsOk cs s0 s1 on)
include c
theorem lw9 {env : Env} (e5 : env 5 = ptrA 1 0) : W TDyn (.seq (.reg F_law09_DynNeedsr9) (.cond (.t 55) (.seq (.reg F_law09_DynNeedsr10) .ret) .skip)) env [X, blk 40 cs] fun x e h => h = [X, blk 40 cs] ∧ x = .normal ∧ e 5 = ptrA 1 0 := by
  obtain ⟨t2, t6, rfl, c6⟩ := c.cs
  have q : ¬ ((16 : Int) < (lst on).length) := by have := c.ln; omega
  have f0 := f_ref02_Plain (T := TDyn) rfl s0 (plain_len c.p0)
  have f1 := f_ref02_Plain (T := TDyn) rfl s1 (plain_len c.p1)
  rw [c.p0] at f0
  rw [c.p1] at f1
  simp only [fws, cond_true, cond_false, if_true, if_false, unV, isNil, optI, iV, stepI, evalR, reduceIte, reduceCtorEq, Nat.reduceEqDiff, Int.reduceLT, Int.reduceLE, Int.reduceToNat, Nat.reduceLT, Nat.reduceLeDiff, Int.reduceEq, Int.reduceNeg, IntKind.bits, Nat.reduceAdd, Nat.reduceMul, Nat.reducePow, Int.reducePow, ini, fwh, lk, cellsAt, tagOf, spotOf, rdN, spl, fillL, zr, fwi, F_law09_DynNeedsr0_W, F_law09_DynNeedsr1_W, F_law09_DynNeedsr2_W, F_law09_DynNeedsr3_W, F_law09_DynNeedsr4_W, F_law09_DynNeedsr5_W, F_law09_DynNeedsr6_W, F_law09_DynNeedsr7_W, F_law09_DynNeedsr8_W, F_law09_DynNeedsr8_g3, F_law09_DynNeedsr9_W, F_law09_DynNeedsr9_g4, F_law09_DynNeedsr9_g10, F_law09_DynNeedsr9_g16, F_law09_DynNeedsr10_W, F_law09_DynNeedsr11_W, F_law09_DynNeedsr12_W, F_law09_DynNeedsr14_W, F_law09_DynNeedsr14_g6, F_law09_DynNeedsr15_W, F_law09_DynNeedsr13_W, F_law09_DynNeedsl0_W, F_law09_DynNeedsr16_W, F_law09_DynNeedsr17_W, F_law09_DynNeedsr17_g3, F_law09_DynNeedsr17_g9, F_law09_DynNeedsr17_g13, F_law09_DynNeedsr17_g20, F_law09_DynNeedsr17_g24, F_law09_DynNeedsr17_g29, F_law09_DynNeedsr17_g36, F_law09_DynNeedsr17_g40, F_law09_DynNeedsr17_g47, F_law09_DynNeedsr17_g51, F_law09_DynNeedsr17_g56, F_law09_DynNeedsr17_g63, F_law09_DynNeedsc_W, e5, c6, lenI_sl, q, CC_of f0, CC_of f1]
  exact ⟨trivial, trivial, trivial⟩
theorem loop_law {T : Tab} : ∀ (k i : Nat) (env : Env), i + k = (lst on).length → env 5 = ptrA 1 0 → env 7 = .int .i64 i →
    W TDyn (.loop F_law09_DynNeedsl0) env [X, blk 40 cs] fun x e h => h = [X, blk 40 cs] ∧ x = .exit 0 ∧ e 5 = ptrA 1 0 := by
  obtain ⟨t2, t6, rfl, c6⟩ := c.cs
  have hl := c.ln
  intro k
  induction k with
  | zero =>
    intro i env hi e5 e7
    have q : ¬ ((i : Int) < (lst on).length) := by omega
    rw [w_loop]
    simp only [fws, cond_true, cond_false, if_true, if_false, unV, isNil, optI, iV, stepI, evalR, reduceIte, reduceCtorEq, Nat.reduceEqDiff, Int.reduceLT, Int.reduceLE, Int.reduceToNat, Nat.reduceLT, Nat.reduceLeDiff, Int.reduceEq, Int.reduceNeg, IntKind.bits, Nat.reduceAdd, Nat.reduceMul, Nat.reducePow, Int.reducePow, ini, fwh, lk, cellsAt, tagOf, spotOf, rdN, spl, fillL, zr, fwi, F_law09_DynNeedsr0_W, F_law09_DynNeedsr1_W, F_law09_DynNeedsr2_W, F_law09_DynNeedsr3_W, F_law09_DynNeedsr4_W, F_law09_DynNeedsr5_W, F_law09_DynNeedsr6_W, F_law09_DynNeedsr7_W, F_law09_DynNeedsr8_W, F_law09_DynNeedsr8_g3, F_law09_DynNeedsr9_W, F_law09_DynNeedsr9_g4, F_law09_DynNeedsr9_g10, F_law09_DynNeedsr9_g16, F_law09_DynNeedsr10_W, F_law09_DynNeedsr11_W, F_law09_DynNeedsr12_W, F_law09_DynNeedsr14_W, F_law09_DynNeedsr14_g6, F_law09_DynNeedsr15_W, F_law09_DynNeedsr13_W, F_law09_DynNeedsl0_W, F_law09_DynNeedsr16_W, F_law09_DynNeedsr17_W, F_law09_DynNeedsr17_g3, F_law09_DynNeedsr17_g9, F_law09_DynNeedsr17_g13, F_law09_DynNeedsr17_g20, F_law09_DynNeedsr17_g24, F_law09_DynNeedsr17_g29, F_law09_DynNeedsr17_g36, F_law09_DynNeedsr17_g40, F_law09_DynNeedsr17_g47, F_law09_DynNeedsr17_g51, F_law09_DynNeedsr17_g56, F_law09_DynNeedsr17_g63, F_law09_DynNeedsc_W, e5, e7, lenI_sl, q]
    exact ⟨trivial, trivial, trivial⟩
  | succ k ih =>
    intro i env hi e5 e7
    have hix : i < (lst on).length := by omega
    have q : ((i : Int) < (lst on).length) := by omega
    have hx := fun H => ix_sl (E := strE) (o := on) (n := 1) rfl hix .i64 H
    have hld := fun H => ld_str hix H
    have hg := c.gd _ (List.getElem_mem hix)
    have f0 := f_ref02_Plain (T := TDyn) rfl (lst on)[i] (plain_len hg.1)
    rw [hg.1] at f0
    have b0 : strEq ⟨(lst on)[i].toArray⟩ ⟨#[]⟩ = false := by
      show strEq ⟨(lst on)[i].toArray⟩ ⟨([] : List UInt8).toArray⟩ = false
      rw [strEq_str]; exact decide_eq_false hg.2
    have w2 : IntKind.i64.wrap ((i : Int) + 1) = ((i + 1 : Nat) : Int) := by rw [wrapI64 (by omega) (by omega)]; rfl
    rw [w_loop]
    simp only [fws, cond_true, cond_false, if_true, if_false, unV, isNil, optI, iV, stepI, evalR, reduceIte, reduceCtorEq, Nat.reduceEqDiff, Int.reduceLT, Int.reduceLE, Int.reduceToNat, Nat.reduceLT, Nat.reduceLeDiff, Int.reduceEq, Int.reduceNeg, IntKind.bits, Nat.reduceAdd, Nat.reduceMul, Nat.reducePow, Int.reducePow, ini, fwh, lk, cellsAt, tagOf, spotOf, rdN, spl, fillL, zr, fwi, F_law09_DynNeedsr0_W, F_law09_DynNeedsr1_W, F_law09_DynNeedsr2_W, F_law09_DynNeedsr3_W, F_law09_DynNeedsr4_W, F_law09_DynNeedsr5_W, F_law09_DynNeedsr6_W, F_law09_DynNeedsr7_W, F_law09_DynNeedsr8_W, F_law09_DynNeedsr8_g3, F_law09_DynNeedsr9_W, F_law09_DynNeedsr9_g4, F_law09_DynNeedsr9_g10, F_law09_DynNeedsr9_g16, F_law09_DynNeedsr10_W, F_law09_DynNeedsr11_W, F_law09_DynNeedsr12_W, F_law09_DynNeedsr14_W, F_law09_DynNeedsr14_g6, F_law09_DynNeedsr15_W, F_law09_DynNeedsr13_W, F_law09_DynNeedsl0_W, F_law09_DynNeedsr16_W, F_law09_DynNeedsr17_W, F_law09_DynNeedsr17_g3, F_law09_DynNeedsr17_g9, F_law09_DynNeedsr17_g13, F_law09_DynNeedsr17_g20, F_law09_DynNeedsr17_g24, F_law09_DynNeedsr17_g29, F_law09_DynNeedsr17_g36, F_law09_DynNeedsr17_g40, F_law09_DynNeedsr17_g47, F_law09_DynNeedsr17_g51, F_law09_DynNeedsr17_g56, F_law09_DynNeedsr17_g63, F_law09_DynNeedsc_W, e5, e7, lenI_sl, q, hx, hld, b0, CC_of f0, w2]
    refine ih (i + 1) _ (by omega) ?_ ?_
    all_goals (first | assumption | rfl)
end
theorem Ar_of {m : List (Int × Int)} {x y : Int} (h : hasM m x = hasM m y) : Ar (hasM m x) (valM m x) (valM m y) := by
  cases hx : hasM m x with
  | true => exact .inl rfl
  | false => exact .inr ⟨rfl, valM_no hx, valM_no (h ▸ hx)⟩
theorem pd_cs {p : PD} (h : p.ok) : ∃ (x0 y0 x1 y1 x2 y2 x3 y3 x4 y4 x5 y5 x6 y6 q0 q1 : Int) (g0 g1 g2 g3 g4 g5 g6 : Bool), p.cs = cs40 p.s0 p.s1 p.on p.b3 p.b4 p.b5 q0 q1 p.i0 p.i1 p.i2 p.i3 p.i4 p.i5 p.i6 p.i7 g0 x0 y0 g1 x1 y1 g2 x2 y2 g3 x3 y3 g4 x4 y4 p.pr p.pk g5 x5 y5 g6 x6 y6 ∧ Ar g0 x0 y0 ∧ Ar g1 x1 y1 ∧ Ar g2 x2 y2 ∧ Ar g3 x3 y3 ∧ Ar g4 x4 y4 ∧ (g2 = false → p.pr = false) ∧ (g4 = false → p.pk = false) := by
  obtain ⟨s0, s1, on, b3, b4, b5, i0, i1, i2, i3, i4, i5, i6, i7, m, pa, pr, pk⟩ := p
  obtain ⟨hs, ⟨p1, p2, p3, p4, p5, p6, p7⟩, hpr, hpa⟩ := h.wd
  dsimp only at hs p1 p2 p3 p4 p5 p6 p7 hpr hpa
  rcases hpa with ⟨k1, k2, k3⟩ | ⟨k2, k3⟩
  · subst k2 k3
    refine ⟨valM m 17, valM m 18, valM m 7, valM m 8, valM m 23, valM m 2, valM m 36, valM m 35, valM m 1610612753, valM m 1610612754, valM m 25, valM m 27, valM m 26, valM m 28, valM m 5, valM m 10, hasM m 17, hasM m 7, hasM m 23, hasM m 36, hasM m 1610612753, hasM m 25, hasM m 26, ?_, Ar_of p2, Ar_of p3, Ar_of p4, Ar_of p5, Ar_of p7, hpr, fun h => by rw [k1] at h; cases h⟩
    simp only [PD.cs, wR, arC, cs40, D3, List.cons_append, List.nil_append, hs]
  · subst k2 k3
    refine ⟨valM m 17, valM m 18, valM m 7, valM m 8, valM m 23, valM m 2, valM m 36, valM m 35, valM m 1610612751, valM m 1610612752, valM m 25, valM m 27, valM m 26, valM m 28, valM m 5, valM m 10, hasM m 17, hasM m 7, hasM m 23, hasM m 36, hasM m 1610612751, hasM m 25, hasM m 26, ?_, Ar_of p2, Ar_of p3, Ar_of p4, Ar_of p5, Ar_of p6, hpr, fun _ => rfl⟩
    simp only [PD.cs, wR, arC, cs40, D3, List.cons_append, List.nil_append, hs]
theorem csok {p : PD} (h : p.ok) : CsOk p.cs p.s0 p.s1 p.on := by
  have hs := h.wd.strs
  have h6 : ∃ t6, (wR p.b3 p.b4 p.b5 p.i0 p.i1 p.i2 p.i3 p.i4 p.i5 p.i6 p.i7 p.m p.pa p.pr p.pk).drop 3 = .bool true :: t6 := by
    simp only [wR, arC, List.cons_append, List.nil_append, hs, List.drop_succ_cons, List.drop_zero]
    exact ⟨_, rfl⟩
  obtain ⟨t6, h6⟩ := h6
  exact ⟨⟨_, t6, rfl, h6⟩, h.p0, h.p1, h.gd, h.ln⟩
theorem pfD : PF TDyn := ⟨rfl, rfl, rfl, rfl, rfl, rfl, rfl, rfl, rfl, rfl, rfl, rfl, rfl, rfl, rfl, rfl, rfl, rfl, rfl⟩
theorem qfD : QF TDyn := ⟨rfl, rfl, rfl, rfl, rfl, rfl, rfl, rfl, rfl, rfl, rfl⟩
def KL (v : Value) (_ : Heap) : Prop := v = .bool true
/-- From the library on. -/
theorem law_tail {X : Entry} {env : Env} {p : PD} (hp : p.ok) (e5 : env 5 = ptrA 1 0) (e6 : env 6 = .int .i64 0) :
    W TDyn (.seq (.seq (.reg F_law09_DynNeedsr7) (.cond (.t 27) (.seq (.reg F_law09_DynNeedsr8) .ret) .skip)) (.seq (.seq (.reg F_law09_DynNeedsr9) (.cond (.t 55) (.seq (.reg F_law09_DynNeedsr10) .ret) .skip)) (.seq (.seq (.reg F_law09_DynNeedsr11) (.block 0 (.loop F_law09_DynNeedsl0))) (.seq (.reg F_law09_DynNeedsr16) (.seq (.reg F_law09_DynNeedsr17) .ret))))) env [X, blk 40 p.cs] (retQ [.tmp 2] KL) := by
  have c := csok hp
  have key : W TDyn (.seq (.reg F_law09_DynNeedsr7) (.cond (.t 27) (.seq (.reg F_law09_DynNeedsr8) .ret) .skip)) env [X, blk 40 p.cs] fun x e h => h = [X, blk 40 p.cs] ∧ x = .normal ∧ e 5 = ptrA 1 0 := by
    simp only [fws, cond_true, cond_false, if_true, if_false, unV, isNil, optI, iV, stepI, evalR, reduceIte, reduceCtorEq, Nat.reduceEqDiff, Int.reduceLT, Int.reduceLE, Int.reduceToNat, Nat.reduceLT, Nat.reduceLeDiff, Int.reduceEq, Int.reduceNeg, IntKind.bits, Nat.reduceAdd, Nat.reduceMul, Nat.reducePow, Int.reducePow, ini, fwh, lk, cellsAt, tagOf, spotOf, rdN, spl, fillL, zr, fwi, F_law09_DynNeedsr0_W, F_law09_DynNeedsr1_W, F_law09_DynNeedsr2_W, F_law09_DynNeedsr3_W, F_law09_DynNeedsr4_W, F_law09_DynNeedsr5_W, F_law09_DynNeedsr6_W, F_law09_DynNeedsr7_W, F_law09_DynNeedsr8_W, F_law09_DynNeedsr8_g3, F_law09_DynNeedsr9_W, F_law09_DynNeedsr9_g4, F_law09_DynNeedsr9_g10, F_law09_DynNeedsr9_g16, F_law09_DynNeedsr10_W, F_law09_DynNeedsr11_W, F_law09_DynNeedsr12_W, F_law09_DynNeedsr14_W, F_law09_DynNeedsr14_g6, F_law09_DynNeedsr15_W, F_law09_DynNeedsr13_W, F_law09_DynNeedsl0_W, F_law09_DynNeedsr16_W, F_law09_DynNeedsr17_W, F_law09_DynNeedsr17_g3, F_law09_DynNeedsr17_g9, F_law09_DynNeedsr17_g13, F_law09_DynNeedsr17_g20, F_law09_DynNeedsr17_g24, F_law09_DynNeedsr17_g29, F_law09_DynNeedsr17_g36, F_law09_DynNeedsr17_g40, F_law09_DynNeedsr17_g47, F_law09_DynNeedsr17_g51, F_law09_DynNeedsr17_g56, F_law09_DynNeedsr17_g63, F_law09_DynNeedsc_W, e5, e6]
    exact ⟨trivial, trivial, trivial⟩
  rw [w_seq]
  refine W.mono key fun x e h ⟨q1, q2, e5⟩ => ?_
  subst h q2
  rw [seqQ_normal, w_seq]
  refine W.mono (lw9 c e5) fun x e h ⟨q1, q2, e5⟩ => ?_
  subst h q2
  rw [seqQ_normal, w_seq]
  have key : W TDyn (.seq (.reg F_law09_DynNeedsr11) (.block 0 (.loop F_law09_DynNeedsl0))) e [X, blk 40 p.cs] fun x e h => h = [X, blk 40 p.cs] ∧ x = .normal ∧ e 5 = ptrA 1 0 := by
    simp only [fws, cond_true, cond_false, if_true, if_false, unV, isNil, optI, iV, stepI, evalR, reduceIte, reduceCtorEq, Nat.reduceEqDiff, Int.reduceLT, Int.reduceLE, Int.reduceToNat, Nat.reduceLT, Nat.reduceLeDiff, Int.reduceEq, Int.reduceNeg, IntKind.bits, Nat.reduceAdd, Nat.reduceMul, Nat.reducePow, Int.reducePow, ini, fwi, F_law09_DynNeedsr0_W, F_law09_DynNeedsr1_W, F_law09_DynNeedsr2_W, F_law09_DynNeedsr3_W, F_law09_DynNeedsr4_W, F_law09_DynNeedsr5_W, F_law09_DynNeedsr6_W, F_law09_DynNeedsr7_W, F_law09_DynNeedsr8_W, F_law09_DynNeedsr8_g3, F_law09_DynNeedsr9_W, F_law09_DynNeedsr9_g4, F_law09_DynNeedsr9_g10, F_law09_DynNeedsr9_g16, F_law09_DynNeedsr10_W, F_law09_DynNeedsr11_W, F_law09_DynNeedsr12_W, F_law09_DynNeedsr14_W, F_law09_DynNeedsr14_g6, F_law09_DynNeedsr15_W, F_law09_DynNeedsr13_W, F_law09_DynNeedsr16_W, F_law09_DynNeedsr17_W, F_law09_DynNeedsr17_g3, F_law09_DynNeedsr17_g9, F_law09_DynNeedsr17_g13, F_law09_DynNeedsr17_g20, F_law09_DynNeedsr17_g24, F_law09_DynNeedsr17_g29, F_law09_DynNeedsr17_g36, F_law09_DynNeedsr17_g40, F_law09_DynNeedsr17_g47, F_law09_DynNeedsr17_g51, F_law09_DynNeedsr17_g56, F_law09_DynNeedsr17_g63, F_law09_DynNeedsc_W]
    refine W.mono (loop_law c (T := TDyn) (lst p.on).length 0 _ (Nat.zero_add _) ?_ ?_) fun x e h ⟨q1, q2, e5⟩ => ?_
    · exact e5
    · rfl
    · subst q2
      simp only [fws, cond_true, cond_false, if_true, if_false, unV, isNil, optI, iV, stepI, evalR, reduceIte, reduceCtorEq, Nat.reduceEqDiff, Int.reduceLT, Int.reduceLE, Int.reduceToNat, Nat.reduceLT, Nat.reduceLeDiff, Int.reduceEq, Int.reduceNeg, IntKind.bits, Nat.reduceAdd, Nat.reduceMul, Nat.reducePow, Int.reducePow, ini]
      exact ⟨q1, trivial, e5⟩
  refine W.mono key fun x e h ⟨q1, q2, e5⟩ => ?_
  subst h q2
  rw [seqQ_normal, w_seq]
  have key : W TDyn (.reg F_law09_DynNeedsr16) e [X, blk 40 p.cs] fun x e h => h = [X, blk 40 p.cs, blk 3 [.bool false, .int .u64 0, .int .u64 0]] ∧ x = .normal ∧ e 5 = ptrA 1 0 ∧ e 8 = ptrA 2 0 := by
    simp only [fws, cond_true, cond_false, if_true, if_false, unV, isNil, optI, iV, stepI, evalR, reduceIte, reduceCtorEq, Nat.reduceEqDiff, Int.reduceLT, Int.reduceLE, Int.reduceToNat, Nat.reduceLT, Nat.reduceLeDiff, Int.reduceEq, Int.reduceNeg, IntKind.bits, Nat.reduceAdd, Nat.reduceMul, Nat.reducePow, Int.reducePow, ini, fwh, lk, cellsAt, tagOf, spotOf, rdN, spl, fillL, zr, fwi, F_law09_DynNeedsr0_W, F_law09_DynNeedsr1_W, F_law09_DynNeedsr2_W, F_law09_DynNeedsr3_W, F_law09_DynNeedsr4_W, F_law09_DynNeedsr5_W, F_law09_DynNeedsr6_W, F_law09_DynNeedsr7_W, F_law09_DynNeedsr8_W, F_law09_DynNeedsr8_g3, F_law09_DynNeedsr9_W, F_law09_DynNeedsr9_g4, F_law09_DynNeedsr9_g10, F_law09_DynNeedsr9_g16, F_law09_DynNeedsr10_W, F_law09_DynNeedsr11_W, F_law09_DynNeedsr12_W, F_law09_DynNeedsr14_W, F_law09_DynNeedsr14_g6, F_law09_DynNeedsr15_W, F_law09_DynNeedsr13_W, F_law09_DynNeedsl0_W, F_law09_DynNeedsr16_W, F_law09_DynNeedsr17_W, F_law09_DynNeedsr17_g3, F_law09_DynNeedsr17_g9, F_law09_DynNeedsr17_g13, F_law09_DynNeedsr17_g20, F_law09_DynNeedsr17_g24, F_law09_DynNeedsr17_g29, F_law09_DynNeedsr17_g36, F_law09_DynNeedsr17_g40, F_law09_DynNeedsr17_g47, F_law09_DynNeedsr17_g51, F_law09_DynNeedsr17_g56, F_law09_DynNeedsr17_g63, F_law09_DynNeedsc_W]
    exact ⟨trivial, trivial, e5, trivial⟩
  refine W.mono key fun x e h ⟨q1, q2, e5, e8⟩ => ?_
  subst h q2
  rw [seqQ_normal, w_seq]
  obtain ⟨x0, y0, x1, y1, x2, y2, x3, y3, x4, y4, x5, y5, x6, y6, q0, q1, g0, g1, g2, g3, g4, g5, g6, hcs, A0, A1, A2, A3, A4, P2, P4⟩ := pd_cs hp
  rw [hcs]
  refine W.mono (last_one e5 e8 A0 A1 A2 A3 A4 P2 P4) fun x e h ⟨q1, q2⟩ => ?_
  subst q1
  simp only [fws, cond_true, cond_false, if_true, if_false, unV, isNil, optI, iV, stepI, evalR, reduceIte, reduceCtorEq, Nat.reduceEqDiff, Int.reduceLT, Int.reduceLE, Int.reduceToNat, Nat.reduceLT, Nat.reduceLeDiff, Int.reduceEq, Int.reduceNeg, IntKind.bits, Nat.reduceAdd, Nat.reduceMul, Nat.reducePow, Int.reducePow, ini, q2]
  rfl
theorem all_cs {p : PD} (h : p.ok) : p.cs.length = 40 ∧ p.cs.all oneC = true := by
  obtain ⟨x0, y0, x1, y1, x2, y2, x3, y3, x4, y4, x5, y5, x6, y6, q0, q1, g0, g1, g2, g3, g4, g5, g6, hcs, _⟩ := pd_cs h
  rw [hcs]
  refine ⟨rfl, ?_⟩
  simp only [List.all_cons, List.all_nil, oneC_string, oneC_sl, oneC_bool, oneC_int, Bool.and_self]
theorem law_DynNeeds (o : Option (List UInt8)) : Ev TDyn 11 [slV byteE o] [] fun v _ => v = .bool true := by
  rw [Ev_fn rfl rfl]
  by_cases hl : (262144 : Int) < (lst o).length
  · simp only [F_law09_DynNeeds, fws, cond_true, cond_false, if_true, if_false, unV, isNil, optI, iV, stepI, evalR, reduceIte, reduceCtorEq, Nat.reduceEqDiff, Int.reduceLT, Int.reduceLE, Int.reduceToNat, Nat.reduceLT, Nat.reduceLeDiff, Int.reduceEq, Int.reduceNeg, IntKind.bits, Nat.reduceAdd, Nat.reduceMul, Nat.reducePow, Int.reducePow, ini, fwh, lk, cellsAt, tagOf, spotOf, rdN, spl, fillL, zr, fwi, F_law09_DynNeedsr0_W, F_law09_DynNeedsr1_W, F_law09_DynNeedsr2_W, F_law09_DynNeedsr3_W, F_law09_DynNeedsr4_W, F_law09_DynNeedsr5_W, F_law09_DynNeedsr6_W, F_law09_DynNeedsr7_W, F_law09_DynNeedsr8_W, F_law09_DynNeedsr8_g3, F_law09_DynNeedsr9_W, F_law09_DynNeedsr9_g4, F_law09_DynNeedsr9_g10, F_law09_DynNeedsr9_g16, F_law09_DynNeedsr10_W, F_law09_DynNeedsr11_W, F_law09_DynNeedsr12_W, F_law09_DynNeedsr14_W, F_law09_DynNeedsr14_g6, F_law09_DynNeedsr15_W, F_law09_DynNeedsr13_W, F_law09_DynNeedsl0_W, F_law09_DynNeedsr16_W, F_law09_DynNeedsr17_W, F_law09_DynNeedsr17_g3, F_law09_DynNeedsr17_g9, F_law09_DynNeedsr17_g13, F_law09_DynNeedsr17_g20, F_law09_DynNeedsr17_g24, F_law09_DynNeedsr17_g29, F_law09_DynNeedsr17_g36, F_law09_DynNeedsr17_g40, F_law09_DynNeedsr17_g47, F_law09_DynNeedsr17_g51, F_law09_DynNeedsr17_g56, F_law09_DynNeedsr17_g63, F_law09_DynNeedsc_W, lenI_sl, hl]
  show W TDyn F_law09_DynNeedsc _ _ (retQ [.tmp 2] KL)
  unfold F_law09_DynNeedsc
  have hl2 : (lst o).length ≤ 100000000 := by omega
  obtain ⟨⟨d, e1⟩, hd, c1⟩ := f_ref08_Parse qfD o hl2
  dsimp only at hd
  obtain ⟨x, hx, c2⟩ := f_dyn_Parse pfD d hd o hl2
  unfold HX.v Hd.v Hd.cs at c1
  unfold Hd.v Hd.cs at c2
  dsimp only at c1
  rw [w_seq]
  have key : W TDyn (.reg F_law09_DynNeedsr0) (ini [slV byteE o]) [] fun x e h => h = [] ∧ x = .normal ∧ e 0 = slV byteE o := by
    simp only [fws, cond_true, cond_false, if_true, if_false, unV, isNil, optI, iV, stepI, evalR, reduceIte, reduceCtorEq, Nat.reduceEqDiff, Int.reduceLT, Int.reduceLE, Int.reduceToNat, Nat.reduceLT, Nat.reduceLeDiff, Int.reduceEq, Int.reduceNeg, IntKind.bits, Nat.reduceAdd, Nat.reduceMul, Nat.reducePow, Int.reducePow, ini, fwh, lk, cellsAt, tagOf, spotOf, rdN, spl, fillL, zr, fwi, F_law09_DynNeedsr0_W, F_law09_DynNeedsr1_W, F_law09_DynNeedsr2_W, F_law09_DynNeedsr3_W, F_law09_DynNeedsr4_W, F_law09_DynNeedsr5_W, F_law09_DynNeedsr6_W, F_law09_DynNeedsr7_W, F_law09_DynNeedsr8_W, F_law09_DynNeedsr8_g3, F_law09_DynNeedsr9_W, F_law09_DynNeedsr9_g4, F_law09_DynNeedsr9_g10, F_law09_DynNeedsr9_g16, F_law09_DynNeedsr10_W, F_law09_DynNeedsr11_W, F_law09_DynNeedsr12_W, F_law09_DynNeedsr14_W, F_law09_DynNeedsr14_g6, F_law09_DynNeedsr15_W, F_law09_DynNeedsr13_W, F_law09_DynNeedsl0_W, F_law09_DynNeedsr16_W, F_law09_DynNeedsr17_W, F_law09_DynNeedsr17_g3, F_law09_DynNeedsr17_g9, F_law09_DynNeedsr17_g13, F_law09_DynNeedsr17_g20, F_law09_DynNeedsr17_g24, F_law09_DynNeedsr17_g29, F_law09_DynNeedsr17_g36, F_law09_DynNeedsr17_g40, F_law09_DynNeedsr17_g47, F_law09_DynNeedsr17_g51, F_law09_DynNeedsr17_g56, F_law09_DynNeedsr17_g63, F_law09_DynNeedsc_W]
    exact ⟨trivial, trivial, trivial⟩
  refine W.mono key fun y e h ⟨q1, q2, e0⟩ => ?_
  subst h q2
  rw [seqQ_normal, w_seq]
  have key : W TDyn (.seq (.reg F_law09_DynNeedsr1) (.cond (.t 11) (.seq (.reg F_law09_DynNeedsr2) .ret) .skip)) e [] fun x e h => h = [] ∧ x = .normal ∧ e 0 = slV byteE o := by
    simp only [fws, cond_true, cond_false, if_true, if_false, unV, isNil, optI, iV, stepI, evalR, reduceIte, reduceCtorEq, Nat.reduceEqDiff, Int.reduceLT, Int.reduceLE, Int.reduceToNat, Nat.reduceLT, Nat.reduceLeDiff, Int.reduceEq, Int.reduceNeg, IntKind.bits, Nat.reduceAdd, Nat.reduceMul, Nat.reducePow, Int.reducePow, ini, fwh, lk, cellsAt, tagOf, spotOf, rdN, spl, fillL, zr, fwi, F_law09_DynNeedsr0_W, F_law09_DynNeedsr1_W, F_law09_DynNeedsr2_W, F_law09_DynNeedsr3_W, F_law09_DynNeedsr4_W, F_law09_DynNeedsr5_W, F_law09_DynNeedsr6_W, F_law09_DynNeedsr7_W, F_law09_DynNeedsr8_W, F_law09_DynNeedsr8_g3, F_law09_DynNeedsr9_W, F_law09_DynNeedsr9_g4, F_law09_DynNeedsr9_g10, F_law09_DynNeedsr9_g16, F_law09_DynNeedsr10_W, F_law09_DynNeedsr11_W, F_law09_DynNeedsr12_W, F_law09_DynNeedsr14_W, F_law09_DynNeedsr14_g6, F_law09_DynNeedsr15_W, F_law09_DynNeedsr13_W, F_law09_DynNeedsl0_W, F_law09_DynNeedsr16_W, F_law09_DynNeedsr17_W, F_law09_DynNeedsr17_g3, F_law09_DynNeedsr17_g9, F_law09_DynNeedsr17_g13, F_law09_DynNeedsr17_g20, F_law09_DynNeedsr17_g24, F_law09_DynNeedsr17_g29, F_law09_DynNeedsr17_g36, F_law09_DynNeedsr17_g40, F_law09_DynNeedsr17_g47, F_law09_DynNeedsr17_g51, F_law09_DynNeedsr17_g56, F_law09_DynNeedsr17_g63, F_law09_DynNeedsc_W, e0, lenI_sl, hl]
    exact ⟨trivial, trivial, trivial⟩
  refine W.mono key fun y e h ⟨q1, q2, e0⟩ => ?_
  subst h q2
  rw [seqQ_normal, w_seq]
  have key : W TDyn (.reg F_law09_DynNeedsr3) e [] fun x e h => h = [blk 16 d.cs] ∧ x = .normal ∧ e 0 = slV byteE o ∧ e 3 = ptrA 0 0 ∧ e 4 = .int .i64 e1 := by
    unfold Hd.cs
    simp only [fws, cond_true, cond_false, if_true, if_false, unV, isNil, optI, iV, stepI, evalR, reduceIte, reduceCtorEq, Nat.reduceEqDiff, Int.reduceLT, Int.reduceLE, Int.reduceToNat, Nat.reduceLT, Nat.reduceLeDiff, Int.reduceEq, Int.reduceNeg, IntKind.bits, Nat.reduceAdd, Nat.reduceMul, Nat.reducePow, Int.reducePow, ini, fwh, lk, cellsAt, tagOf, spotOf, rdN, spl, fillL, zr, fwi, F_law09_DynNeedsr0_W, F_law09_DynNeedsr1_W, F_law09_DynNeedsr2_W, F_law09_DynNeedsr3_W, F_law09_DynNeedsr4_W, F_law09_DynNeedsr5_W, F_law09_DynNeedsr6_W, F_law09_DynNeedsr7_W, F_law09_DynNeedsr8_W, F_law09_DynNeedsr8_g3, F_law09_DynNeedsr9_W, F_law09_DynNeedsr9_g4, F_law09_DynNeedsr9_g10, F_law09_DynNeedsr9_g16, F_law09_DynNeedsr10_W, F_law09_DynNeedsr11_W, F_law09_DynNeedsr12_W, F_law09_DynNeedsr14_W, F_law09_DynNeedsr14_g6, F_law09_DynNeedsr15_W, F_law09_DynNeedsr13_W, F_law09_DynNeedsl0_W, F_law09_DynNeedsr16_W, F_law09_DynNeedsr17_W, F_law09_DynNeedsr17_g3, F_law09_DynNeedsr17_g9, F_law09_DynNeedsr17_g13, F_law09_DynNeedsr17_g20, F_law09_DynNeedsr17_g24, F_law09_DynNeedsr17_g29, F_law09_DynNeedsr17_g36, F_law09_DynNeedsr17_g40, F_law09_DynNeedsr17_g47, F_law09_DynNeedsr17_g51, F_law09_DynNeedsr17_g56, F_law09_DynNeedsr17_g63, F_law09_DynNeedsc_W, e0, CC_of c1, oneC_sl]
    exact ⟨trivial, trivial, trivial, trivial, trivial⟩
  refine W.mono key fun y e h ⟨q1, q2, e0, e3, e4⟩ => ?_
  subst h q2
  rw [seqQ_normal]
  by_cases he : e1 = 0
  rotate_left
  · simp only [fws, cond_true, cond_false, if_true, if_false, unV, isNil, optI, iV, stepI, evalR, reduceIte, reduceCtorEq, Nat.reduceEqDiff, Int.reduceLT, Int.reduceLE, Int.reduceToNat, Nat.reduceLT, Nat.reduceLeDiff, Int.reduceEq, Int.reduceNeg, IntKind.bits, Nat.reduceAdd, Nat.reduceMul, Nat.reducePow, Int.reducePow, ini, fwh, lk, cellsAt, tagOf, spotOf, rdN, spl, fillL, zr, fwi, F_law09_DynNeedsr0_W, F_law09_DynNeedsr1_W, F_law09_DynNeedsr2_W, F_law09_DynNeedsr3_W, F_law09_DynNeedsr4_W, F_law09_DynNeedsr5_W, F_law09_DynNeedsr6_W, F_law09_DynNeedsr7_W, F_law09_DynNeedsr8_W, F_law09_DynNeedsr8_g3, F_law09_DynNeedsr9_W, F_law09_DynNeedsr9_g4, F_law09_DynNeedsr9_g10, F_law09_DynNeedsr9_g16, F_law09_DynNeedsr10_W, F_law09_DynNeedsr11_W, F_law09_DynNeedsr12_W, F_law09_DynNeedsr14_W, F_law09_DynNeedsr14_g6, F_law09_DynNeedsr15_W, F_law09_DynNeedsr13_W, F_law09_DynNeedsl0_W, F_law09_DynNeedsr16_W, F_law09_DynNeedsr17_W, F_law09_DynNeedsr17_g3, F_law09_DynNeedsr17_g9, F_law09_DynNeedsr17_g13, F_law09_DynNeedsr17_g20, F_law09_DynNeedsr17_g24, F_law09_DynNeedsr17_g29, F_law09_DynNeedsr17_g36, F_law09_DynNeedsr17_g40, F_law09_DynNeedsr17_g47, F_law09_DynNeedsr17_g51, F_law09_DynNeedsr17_g56, F_law09_DynNeedsr17_g63, F_law09_DynNeedsc_W, e4, he, CC_of dyn_alive]
    rfl
  rw [he] at e4
  rw [w_seq]
  have key : W TDyn (.seq (.reg F_law09_DynNeedsr4) (.cond (.t 18) (.seq (.reg F_law09_DynNeedsr5) .ret) .skip)) e [blk 16 d.cs] fun x e h => h = [blk 16 d.cs] ∧ x = .normal ∧ e 0 = slV byteE o ∧ e 3 = ptrA 0 0 := by
    simp only [fws, cond_true, cond_false, if_true, if_false, unV, isNil, optI, iV, stepI, evalR, reduceIte, reduceCtorEq, Nat.reduceEqDiff, Int.reduceLT, Int.reduceLE, Int.reduceToNat, Nat.reduceLT, Nat.reduceLeDiff, Int.reduceEq, Int.reduceNeg, IntKind.bits, Nat.reduceAdd, Nat.reduceMul, Nat.reducePow, Int.reducePow, ini, fwh, lk, cellsAt, tagOf, spotOf, rdN, spl, fillL, zr, fwi, F_law09_DynNeedsr0_W, F_law09_DynNeedsr1_W, F_law09_DynNeedsr2_W, F_law09_DynNeedsr3_W, F_law09_DynNeedsr4_W, F_law09_DynNeedsr5_W, F_law09_DynNeedsr6_W, F_law09_DynNeedsr7_W, F_law09_DynNeedsr8_W, F_law09_DynNeedsr8_g3, F_law09_DynNeedsr9_W, F_law09_DynNeedsr9_g4, F_law09_DynNeedsr9_g10, F_law09_DynNeedsr9_g16, F_law09_DynNeedsr10_W, F_law09_DynNeedsr11_W, F_law09_DynNeedsr12_W, F_law09_DynNeedsr14_W, F_law09_DynNeedsr14_g6, F_law09_DynNeedsr15_W, F_law09_DynNeedsr13_W, F_law09_DynNeedsl0_W, F_law09_DynNeedsr16_W, F_law09_DynNeedsr17_W, F_law09_DynNeedsr17_g3, F_law09_DynNeedsr17_g9, F_law09_DynNeedsr17_g13, F_law09_DynNeedsr17_g20, F_law09_DynNeedsr17_g24, F_law09_DynNeedsr17_g29, F_law09_DynNeedsr17_g36, F_law09_DynNeedsr17_g40, F_law09_DynNeedsr17_g47, F_law09_DynNeedsr17_g51, F_law09_DynNeedsr17_g56, F_law09_DynNeedsr17_g63, F_law09_DynNeedsc_W, e4]
    exact ⟨trivial, trivial, e0, e3⟩
  refine W.mono key fun y e h ⟨q1, q2, e0, e3⟩ => ?_
  subst h q2
  rw [seqQ_normal, w_seq]
  cases x with
  | err er =>
    have key : W TDyn (.reg F_law09_DynNeedsr6) e [blk 16 d.cs] fun x e h => h = [blk 16 d.cs, blk 40 Zc] ∧ x = .normal ∧ e 5 = ptrA 1 0 ∧ e 6 = .int .i64 er := by
      unfold PR.v at c2
      unfold Hd.cs
      simp only [fws, cond_true, cond_false, if_true, if_false, unV, isNil, optI, iV, stepI, evalR, reduceIte, reduceCtorEq, Nat.reduceEqDiff, Int.reduceLT, Int.reduceLE, Int.reduceToNat, Nat.reduceLT, Nat.reduceLeDiff, Int.reduceEq, Int.reduceNeg, IntKind.bits, Nat.reduceAdd, Nat.reduceMul, Nat.reducePow, Int.reducePow, ini, fwh, lk, cellsAt, tagOf, spotOf, rdN, spl, fillL, zr, fwi, F_law09_DynNeedsr0_W, F_law09_DynNeedsr1_W, F_law09_DynNeedsr2_W, F_law09_DynNeedsr3_W, F_law09_DynNeedsr4_W, F_law09_DynNeedsr5_W, F_law09_DynNeedsr6_W, F_law09_DynNeedsr7_W, F_law09_DynNeedsr8_W, F_law09_DynNeedsr8_g3, F_law09_DynNeedsr9_W, F_law09_DynNeedsr9_g4, F_law09_DynNeedsr9_g10, F_law09_DynNeedsr9_g16, F_law09_DynNeedsr10_W, F_law09_DynNeedsr11_W, F_law09_DynNeedsr12_W, F_law09_DynNeedsr14_W, F_law09_DynNeedsr14_g6, F_law09_DynNeedsr15_W, F_law09_DynNeedsr13_W, F_law09_DynNeedsl0_W, F_law09_DynNeedsr16_W, F_law09_DynNeedsr17_W, F_law09_DynNeedsr17_g3, F_law09_DynNeedsr17_g9, F_law09_DynNeedsr17_g13, F_law09_DynNeedsr17_g20, F_law09_DynNeedsr17_g24, F_law09_DynNeedsr17_g29, F_law09_DynNeedsr17_g36, F_law09_DynNeedsr17_g40, F_law09_DynNeedsr17_g47, F_law09_DynNeedsr17_g51, F_law09_DynNeedsr17_g56, F_law09_DynNeedsr17_g63, F_law09_DynNeedsc_W, e0, e3, CC_of c2]
      exact ⟨trivial, trivial, trivial, trivial⟩
    refine W.mono key fun y e h ⟨q1, q2, e5, e6⟩ => ?_
    subst h q2
    rw [seqQ_normal]
    have hne : er ≠ 0 := hx
    simp only [fws, cond_true, cond_false, if_true, if_false, unV, isNil, optI, iV, stepI, evalR, reduceIte, reduceCtorEq, Nat.reduceEqDiff, Int.reduceLT, Int.reduceLE, Int.reduceToNat, Nat.reduceLT, Nat.reduceLeDiff, Int.reduceEq, Int.reduceNeg, IntKind.bits, Nat.reduceAdd, Nat.reduceMul, Nat.reducePow, Int.reducePow, ini, fwh, lk, cellsAt, tagOf, spotOf, rdN, spl, fillL, zr, fwi, F_law09_DynNeedsr0_W, F_law09_DynNeedsr1_W, F_law09_DynNeedsr2_W, F_law09_DynNeedsr3_W, F_law09_DynNeedsr4_W, F_law09_DynNeedsr5_W, F_law09_DynNeedsr6_W, F_law09_DynNeedsr7_W, F_law09_DynNeedsr8_W, F_law09_DynNeedsr8_g3, F_law09_DynNeedsr9_W, F_law09_DynNeedsr9_g4, F_law09_DynNeedsr9_g10, F_law09_DynNeedsr9_g16, F_law09_DynNeedsr10_W, F_law09_DynNeedsr11_W, F_law09_DynNeedsr12_W, F_law09_DynNeedsr14_W, F_law09_DynNeedsr14_g6, F_law09_DynNeedsr15_W, F_law09_DynNeedsr13_W, F_law09_DynNeedsl0_W, F_law09_DynNeedsr16_W, F_law09_DynNeedsr17_W, F_law09_DynNeedsr17_g3, F_law09_DynNeedsr17_g9, F_law09_DynNeedsr17_g13, F_law09_DynNeedsr17_g20, F_law09_DynNeedsr17_g24, F_law09_DynNeedsr17_g29, F_law09_DynNeedsr17_g36, F_law09_DynNeedsr17_g40, F_law09_DynNeedsr17_g47, F_law09_DynNeedsr17_g51, F_law09_DynNeedsr17_g56, F_law09_DynNeedsr17_g63, F_law09_DynNeedsc_W, e5, e6, hne, CC_of f_ref09_Same, CC_of dyn_alive]
    rfl
  | ok p =>
    have hp : p.ok := hx
    obtain ⟨a1, a2⟩ := all_cs hp
    have key : W TDyn (.reg F_law09_DynNeedsr6) e [blk 16 d.cs] fun x e h => h = [blk 16 d.cs, blk 40 p.cs] ∧ x = .normal ∧ e 5 = ptrA 1 0 ∧ e 6 = .int .i64 0 := by
      unfold PR.v at c2
      unfold Hd.cs
      have z1 : spl Zc 0 p.cs = p.cs := by
        rw [spl_eq _ _ _ (by simp [a1])]
        simp [a1]
      have z2 : decide (p.cs.length = 40) = true := decide_eq_true a1
      simp only [fws, cond_true, cond_false, if_true, if_false, unV, isNil, optI, iV, stepI, evalR, reduceIte, reduceCtorEq, Nat.reduceEqDiff, Int.reduceLT, Int.reduceLE, Int.reduceToNat, Nat.reduceLT, Nat.reduceLeDiff, Int.reduceEq, Int.reduceNeg, IntKind.bits, Nat.reduceAdd, Nat.reduceMul, Nat.reducePow, Int.reducePow, ini, fwh, lk, cellsAt, tagOf, spotOf, fillL, zr, rdN, fwi, F_law09_DynNeedsr0_W, F_law09_DynNeedsr1_W, F_law09_DynNeedsr2_W, F_law09_DynNeedsr3_W, F_law09_DynNeedsr4_W, F_law09_DynNeedsr5_W, F_law09_DynNeedsr6_W, F_law09_DynNeedsr7_W, F_law09_DynNeedsr8_W, F_law09_DynNeedsr8_g3, F_law09_DynNeedsr9_W, F_law09_DynNeedsr9_g4, F_law09_DynNeedsr9_g10, F_law09_DynNeedsr9_g16, F_law09_DynNeedsr10_W, F_law09_DynNeedsr11_W, F_law09_DynNeedsr12_W, F_law09_DynNeedsr14_W, F_law09_DynNeedsr14_g6, F_law09_DynNeedsr15_W, F_law09_DynNeedsr13_W, F_law09_DynNeedsl0_W, F_law09_DynNeedsr16_W, F_law09_DynNeedsr17_W, F_law09_DynNeedsr17_g3, F_law09_DynNeedsr17_g9, F_law09_DynNeedsr17_g13, F_law09_DynNeedsr17_g20, F_law09_DynNeedsr17_g24, F_law09_DynNeedsr17_g29, F_law09_DynNeedsr17_g36, F_law09_DynNeedsr17_g40, F_law09_DynNeedsr17_g47, F_law09_DynNeedsr17_g51, F_law09_DynNeedsr17_g56, F_law09_DynNeedsr17_g63, F_law09_DynNeedsc_W, e0, e3, CC_of c2, z1, z2, a2]
      exact ⟨trivial, trivial, trivial, trivial⟩
    refine W.mono key fun y e h ⟨q1, q2, e5, e6⟩ => ?_
    subst h q2
    rw [seqQ_normal]
    exact law_tail hp e5 e6
end Go.Proofs.Ytdkdifjjpbfohaa
