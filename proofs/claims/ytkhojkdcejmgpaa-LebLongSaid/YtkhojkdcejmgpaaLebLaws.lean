/- The statements of the package leb: each law answers true. -/
import Derived.Test.YtkhojkdcejmgpaaLebF
import Derived.Test.YtkhojkdcejmgpaaFw24
import Derived.OpenShut
namespace Go.Proofs.Ytkhojkdcejmgpaa
open Go Fw
set_option linter.unusedSimpArgs false
set_option linter.unusedVariables false

theorem tmod128 (n : Int) : (0 ≤ n → n.tmod 128 = n % 128) ∧ (n < 0 → n.tmod 128 = -((-n) % 128)) := by
  refine ⟨fun h => tmodN h, fun h => ?_⟩
  have : n = -(-n) := by omega
  conv => lhs; rw [this]
  rw [Int.neg_tmod, tmodN (by omega)]
theorem rest128 {n : Int} (h1 : -9223372036854775808 ≤ n) (h2 : n < 9223372036854775808) : IntKind.i64.wrap ((IntKind.i64.wrap (n - n % 128)).tdiv 128) = n / 128 := by
  have e : n - n % 128 = 128 * (n / 128) := by omega
  rw [wrapI64 (x := n - n % 128) (by omega) (by omega), e, Int.mul_tdiv_cancel_left _ (by decide), wrapI64 (by omega) (by omega)]
theorem loop_ref03_PutS {T : Tab} : ∀ (f : Nat) (n : Int) (l : List UInt8) (v : Value) (H : Heap) (env : Env), -(64 * 128 ^ f) ≤ n → n < 64 * 128 ^ f → -9223372036854775808 ≤ n → n < 9223372036854775808 → l.length + f ≤ 1000 → env 0 = .int .i64 n → env 3 = v → Acc byteE [] v H l →
    W T (.loop F_ref03_PutSl0) env H fun x e h => x = .ret ∧ Acc byteE [] (e 2) h (l ++ putS (f + 1) n) := by
  intro f
  induction f with
  | zero =>
    intro n l v H env h1 h2 h3 h4 hl e0 e3 ha
    have hin : -64 ≤ n ∧ n ≤ 63 := by omega
    have e1 : putS 1 n = [UInt8.ofNat (n % 128).toNat] := by rw [putS, if_pos hin]
    have w1 : IntKind.u8.wrap (n % 128) = n % 128 := by rw [wrap_u8]; omega
    obtain ⟨tm1, tm2⟩ := tmod128 n
    have tm : (0 ≤ n ∧ n.tmod 128 = n % 128) ∨ (n < 0 ∧ n.tmod 128 = -((-n) % 128)) := by
      rcases Int.lt_or_le n 0 with h | h
      · exact .inr ⟨h, tm2 h⟩
      · exact .inl ⟨h, tm1 h⟩
    clear tm1 tm2
    obtain ⟨v', H', a1, a2⟩ := ha.byte (x := n % 128) (by omega) (by omega) (by omega)
    rw [w_loop, e1]
    by_cases hneg : n.tmod 128 < 0
    · have w2 : IntKind.i64.wrap (n.tmod 128 + 128) = n % 128 := by rw [wrapI64 (by omega) (by omega)]; omega
      have w3 := rest128 h3 h4
      simp only [fws, cond_true, cond_false, if_true, if_false, unV, isNil, optI, iV, stepI, evalR, reduceIte, reduceCtorEq, Nat.reduceEqDiff, Int.reduceLT, Int.reduceLE, Int.reduceToNat, Nat.reduceLT, Nat.reduceLeDiff, Int.reduceEq, Int.reduceNeg, IntKind.bits, Nat.reduceAdd, Nat.reduceMul, Nat.reducePow, Int.reducePow, ini, fwh, lk, cellsAt, tagOf, spotOf, rdN, spl, fillL, zr, fwi, F_ref03_PutSr0_W, F_ref03_PutSr1_W, F_ref03_PutSr2_W, F_ref03_PutSr3_W, F_ref03_PutSr4_W, F_ref03_PutSr5_W, F_ref03_PutSr6_W, F_ref03_PutSr6_g2, F_ref03_PutSr7_W, F_ref03_PutSr8_W, F_ref03_PutSr9_W, F_ref03_PutSl0_W, F_ref03_PutSc_W, e0, e3, hneg, w1, w2, w3, hin.1, hin.2, srcOf_immV, a1]
      exact ⟨trivial, a2⟩
    · have w2 : n.tmod 128 = n % 128 := by omega
      have w3 := rest128 h3 h4
      rw [w2] at hneg
      simp only [fws, cond_true, cond_false, if_true, if_false, unV, isNil, optI, iV, stepI, evalR, reduceIte, reduceCtorEq, Nat.reduceEqDiff, Int.reduceLT, Int.reduceLE, Int.reduceToNat, Nat.reduceLT, Nat.reduceLeDiff, Int.reduceEq, Int.reduceNeg, IntKind.bits, Nat.reduceAdd, Nat.reduceMul, Nat.reducePow, Int.reducePow, ini, fwh, lk, cellsAt, tagOf, spotOf, rdN, spl, fillL, zr, fwi, F_ref03_PutSr0_W, F_ref03_PutSr1_W, F_ref03_PutSr2_W, F_ref03_PutSr3_W, F_ref03_PutSr4_W, F_ref03_PutSr5_W, F_ref03_PutSr6_W, F_ref03_PutSr6_g2, F_ref03_PutSr7_W, F_ref03_PutSr8_W, F_ref03_PutSr9_W, F_ref03_PutSl0_W, F_ref03_PutSc_W, e0, e3, hneg, w1, w2, w3, hin.1, hin.2, srcOf_immV, a1]
      exact ⟨trivial, a2⟩
  | succ f ih =>
    intro n l v H env h1 h2 h3 h4 hl e0 e3 ha
    have w1 : IntKind.u8.wrap (n % 128) = n % 128 := by rw [wrap_u8]; omega
    obtain ⟨tm1, tm2⟩ := tmod128 n
    have tm : (0 ≤ n ∧ n.tmod 128 = n % 128) ∨ (n < 0 ∧ n.tmod 128 = -((-n) % 128)) := by
      rcases Int.lt_or_le n 0 with h | h
      · exact .inr ⟨h, tm2 h⟩
      · exact .inl ⟨h, tm1 h⟩
    clear tm1 tm2
    rw [w_loop]
    have hfin : ∀ env', env' 0 = .int .i64 n → env' 3 = v → env' 4 = .int .i64 (n % 128) → W T (.seq (.reg F_ref03_PutSr5) (.seq (.seq (.reg F_ref03_PutSr6) (.cond (.t 21) (.seq (.reg F_ref03_PutSr7) .ret) .skip)) (.seq (.reg F_ref03_PutSr8) (.reg F_ref03_PutSr9)))) env' H
        (blockQ 1 (seqQ T (.loop F_ref03_PutSl0) fun x e h => x = .ret ∧ Acc byteE [] (e 2) h (l ++ putS (f + 1 + 1) n))) := fun env' v0 v3 v4 => by
      have w3 := rest128 h3 h4
      by_cases hin : -64 ≤ n ∧ n ≤ 63
      · obtain ⟨v', H', a1, a2⟩ := ha.byte (x := n % 128) (by omega) (by omega) (by omega)
        have e1 : putS (f + 1 + 1) n = [UInt8.ofNat (n % 128).toNat] := by rw [putS, if_pos hin]
        simp only [fws, cond_true, cond_false, if_true, if_false, unV, isNil, optI, iV, stepI, evalR, reduceIte, reduceCtorEq, Nat.reduceEqDiff, Int.reduceLT, Int.reduceLE, Int.reduceToNat, Nat.reduceLT, Nat.reduceLeDiff, Int.reduceEq, Int.reduceNeg, IntKind.bits, Nat.reduceAdd, Nat.reduceMul, Nat.reducePow, Int.reducePow, ini, fwh, lk, cellsAt, tagOf, spotOf, rdN, spl, fillL, zr, fwi, F_ref03_PutSr0_W, F_ref03_PutSr1_W, F_ref03_PutSr2_W, F_ref03_PutSr3_W, F_ref03_PutSr4_W, F_ref03_PutSr5_W, F_ref03_PutSr6_W, F_ref03_PutSr6_g2, F_ref03_PutSr7_W, F_ref03_PutSr8_W, F_ref03_PutSr9_W, F_ref03_PutSl0_W, F_ref03_PutSc_W, v0, v3, v4, w1, w3, hin.1, hin.2, srcOf_immV, a1]
        rw [e1]
        exact ⟨trivial, a2⟩
      · have e1 : putS (f + 1 + 1) n = UInt8.ofNat ((n % 128).toNat + 128) :: putS (f + 1) (n / 128) := by rw [putS, if_neg hin]
        have w4 : IntKind.u8.wrap (n % 128 + 128) = n % 128 + 128 := by rw [wrap_u8]; omega
        obtain ⟨v', H', a1, a2⟩ := ha.byte (x := n % 128 + 128) (by omega) (by omega) (by omega)
        have e2 : (n % 128 + 128).toNat = (n % 128).toNat + 128 := by omega
        have hp : (128 : Int) ^ (f + 1) = 128 ^ f * 128 := Int.pow_succ ..
        rw [hp] at h1 h2
        by_cases hq : -64 ≤ n
        · have hq2 : ¬ (n ≤ 63) := by omega
          simp only [fws, cond_true, cond_false, if_true, if_false, unV, isNil, optI, iV, stepI, evalR, reduceIte, reduceCtorEq, Nat.reduceEqDiff, Int.reduceLT, Int.reduceLE, Int.reduceToNat, Nat.reduceLT, Nat.reduceLeDiff, Int.reduceEq, Int.reduceNeg, IntKind.bits, Nat.reduceAdd, Nat.reduceMul, Nat.reducePow, Int.reducePow, ini, fwh, lk, cellsAt, tagOf, spotOf, rdN, spl, fillL, zr, fwi, F_ref03_PutSr0_W, F_ref03_PutSr1_W, F_ref03_PutSr2_W, F_ref03_PutSr3_W, F_ref03_PutSr4_W, F_ref03_PutSr5_W, F_ref03_PutSr6_W, F_ref03_PutSr6_g2, F_ref03_PutSr7_W, F_ref03_PutSr8_W, F_ref03_PutSr9_W, F_ref03_PutSl0_W, F_ref03_PutSc_W, v0, v3, v4, w1, w3, w4, hq, hq2, srcOf_immV, a1]
          refine W.mono (ih (n / 128) _ v' H' _ (by omega) (by omega) (by omega) (by omega) (by simp; omega) ?_ ?_ a2) fun x e hh ⟨g1, g2⟩ => ⟨g1, ?_⟩
          · (first | (simp only [fws, cond_true, cond_false, if_true, if_false, unV, isNil, optI, iV, stepI, evalR, reduceIte, reduceCtorEq, Nat.reduceEqDiff, Int.reduceLT, Int.reduceLE, Int.reduceToNat, Nat.reduceLT, Nat.reduceLeDiff, Int.reduceEq, Int.reduceNeg, IntKind.bits, Nat.reduceAdd, Nat.reduceMul, Nat.reducePow, Int.reducePow, ini, *]; done) | (simp only [fws, cond_true, cond_false, if_true, if_false, unV, isNil, optI, iV, stepI, evalR, reduceIte, reduceCtorEq, Nat.reduceEqDiff, Int.reduceLT, Int.reduceLE, Int.reduceToNat, Nat.reduceLT, Nat.reduceLeDiff, Int.reduceEq, Int.reduceNeg, IntKind.bits, Nat.reduceAdd, Nat.reduceMul, Nat.reducePow, Int.reducePow, ini]; rfl))
          · (first | (simp only [fws, cond_true, cond_false, if_true, if_false, unV, isNil, optI, iV, stepI, evalR, reduceIte, reduceCtorEq, Nat.reduceEqDiff, Int.reduceLT, Int.reduceLE, Int.reduceToNat, Nat.reduceLT, Nat.reduceLeDiff, Int.reduceEq, Int.reduceNeg, IntKind.bits, Nat.reduceAdd, Nat.reduceMul, Nat.reducePow, Int.reducePow, ini, *]; done) | (simp only [fws, cond_true, cond_false, if_true, if_false, unV, isNil, optI, iV, stepI, evalR, reduceIte, reduceCtorEq, Nat.reduceEqDiff, Int.reduceLT, Int.reduceLE, Int.reduceToNat, Nat.reduceLT, Nat.reduceLeDiff, Int.reduceEq, Int.reduceNeg, IntKind.bits, Nat.reduceAdd, Nat.reduceMul, Nat.reducePow, Int.reducePow, ini]; rfl))
          rw [e2, List.append_assoc] at g2
          rw [e1]
          exact g2
        · simp only [fws, cond_true, cond_false, if_true, if_false, unV, isNil, optI, iV, stepI, evalR, reduceIte, reduceCtorEq, Nat.reduceEqDiff, Int.reduceLT, Int.reduceLE, Int.reduceToNat, Nat.reduceLT, Nat.reduceLeDiff, Int.reduceEq, Int.reduceNeg, IntKind.bits, Nat.reduceAdd, Nat.reduceMul, Nat.reducePow, Int.reducePow, ini, fwh, lk, cellsAt, tagOf, spotOf, rdN, spl, fillL, zr, fwi, F_ref03_PutSr0_W, F_ref03_PutSr1_W, F_ref03_PutSr2_W, F_ref03_PutSr3_W, F_ref03_PutSr4_W, F_ref03_PutSr5_W, F_ref03_PutSr6_W, F_ref03_PutSr6_g2, F_ref03_PutSr7_W, F_ref03_PutSr8_W, F_ref03_PutSr9_W, F_ref03_PutSl0_W, F_ref03_PutSc_W, v0, v3, v4, w1, w3, w4, hq, srcOf_immV, a1]
          refine W.mono (ih (n / 128) _ v' H' _ (by omega) (by omega) (by omega) (by omega) (by simp; omega) ?_ ?_ a2) fun x e hh ⟨g1, g2⟩ => ⟨g1, ?_⟩
          · (first | (simp only [fws, cond_true, cond_false, if_true, if_false, unV, isNil, optI, iV, stepI, evalR, reduceIte, reduceCtorEq, Nat.reduceEqDiff, Int.reduceLT, Int.reduceLE, Int.reduceToNat, Nat.reduceLT, Nat.reduceLeDiff, Int.reduceEq, Int.reduceNeg, IntKind.bits, Nat.reduceAdd, Nat.reduceMul, Nat.reducePow, Int.reducePow, ini, *]; done) | (simp only [fws, cond_true, cond_false, if_true, if_false, unV, isNil, optI, iV, stepI, evalR, reduceIte, reduceCtorEq, Nat.reduceEqDiff, Int.reduceLT, Int.reduceLE, Int.reduceToNat, Nat.reduceLT, Nat.reduceLeDiff, Int.reduceEq, Int.reduceNeg, IntKind.bits, Nat.reduceAdd, Nat.reduceMul, Nat.reducePow, Int.reducePow, ini]; rfl))
          · (first | (simp only [fws, cond_true, cond_false, if_true, if_false, unV, isNil, optI, iV, stepI, evalR, reduceIte, reduceCtorEq, Nat.reduceEqDiff, Int.reduceLT, Int.reduceLE, Int.reduceToNat, Nat.reduceLT, Nat.reduceLeDiff, Int.reduceEq, Int.reduceNeg, IntKind.bits, Nat.reduceAdd, Nat.reduceMul, Nat.reducePow, Int.reducePow, ini, *]; done) | (simp only [fws, cond_true, cond_false, if_true, if_false, unV, isNil, optI, iV, stepI, evalR, reduceIte, reduceCtorEq, Nat.reduceEqDiff, Int.reduceLT, Int.reduceLE, Int.reduceToNat, Nat.reduceLT, Nat.reduceLeDiff, Int.reduceEq, Int.reduceNeg, IntKind.bits, Nat.reduceAdd, Nat.reduceMul, Nat.reducePow, Int.reducePow, ini]; rfl))
          rw [e2, List.append_assoc] at g2
          rw [e1]
          exact g2
    by_cases hneg : n.tmod 128 < 0
    · have w2 : IntKind.i64.wrap (n.tmod 128 + 128) = n % 128 := by rw [wrapI64 (by omega) (by omega)]; omega
      have := hfin (upd (upd (upd (upd (upd (upd (upd (upd env 6 (.int .i64 n)) 7 (.int .i64 (n.tmod 128))) 4 (.int .i64 (n.tmod 128))) 8 (.int .i64 (n.tmod 128))) 9 (.bool true)) 10 (.int .i64 (n.tmod 128))) 11 (.int .i64 (n % 128))) 4 (.int .i64 (n % 128))) (by (first | (simp only [fws, cond_true, cond_false, if_true, if_false, unV, isNil, optI, iV, stepI, evalR, reduceIte, reduceCtorEq, Nat.reduceEqDiff, Int.reduceLT, Int.reduceLE, Int.reduceToNat, Nat.reduceLT, Nat.reduceLeDiff, Int.reduceEq, Int.reduceNeg, IntKind.bits, Nat.reduceAdd, Nat.reduceMul, Nat.reducePow, Int.reducePow, ini, *]; done) | (simp only [fws, cond_true, cond_false, if_true, if_false, unV, isNil, optI, iV, stepI, evalR, reduceIte, reduceCtorEq, Nat.reduceEqDiff, Int.reduceLT, Int.reduceLE, Int.reduceToNat, Nat.reduceLT, Nat.reduceLeDiff, Int.reduceEq, Int.reduceNeg, IntKind.bits, Nat.reduceAdd, Nat.reduceMul, Nat.reducePow, Int.reducePow, ini]; rfl))) (by (first | (simp only [fws, cond_true, cond_false, if_true, if_false, unV, isNil, optI, iV, stepI, evalR, reduceIte, reduceCtorEq, Nat.reduceEqDiff, Int.reduceLT, Int.reduceLE, Int.reduceToNat, Nat.reduceLT, Nat.reduceLeDiff, Int.reduceEq, Int.reduceNeg, IntKind.bits, Nat.reduceAdd, Nat.reduceMul, Nat.reducePow, Int.reducePow, ini, *]; done) | (simp only [fws, cond_true, cond_false, if_true, if_false, unV, isNil, optI, iV, stepI, evalR, reduceIte, reduceCtorEq, Nat.reduceEqDiff, Int.reduceLT, Int.reduceLE, Int.reduceToNat, Nat.reduceLT, Nat.reduceLeDiff, Int.reduceEq, Int.reduceNeg, IntKind.bits, Nat.reduceAdd, Nat.reduceMul, Nat.reducePow, Int.reducePow, ini]; rfl))) (by (first | (simp only [fws, cond_true, cond_false, if_true, if_false, unV, isNil, optI, iV, stepI, evalR, reduceIte, reduceCtorEq, Nat.reduceEqDiff, Int.reduceLT, Int.reduceLE, Int.reduceToNat, Nat.reduceLT, Nat.reduceLeDiff, Int.reduceEq, Int.reduceNeg, IntKind.bits, Nat.reduceAdd, Nat.reduceMul, Nat.reducePow, Int.reducePow, ini, *]; done) | (simp only [fws, cond_true, cond_false, if_true, if_false, unV, isNil, optI, iV, stepI, evalR, reduceIte, reduceCtorEq, Nat.reduceEqDiff, Int.reduceLT, Int.reduceLE, Int.reduceToNat, Nat.reduceLT, Nat.reduceLeDiff, Int.reduceEq, Int.reduceNeg, IntKind.bits, Nat.reduceAdd, Nat.reduceMul, Nat.reducePow, Int.reducePow, ini]; rfl)))
      simp only [fws, cond_true, cond_false, if_true, if_false, unV, isNil, optI, iV, stepI, evalR, reduceIte, reduceCtorEq, Nat.reduceEqDiff, Int.reduceLT, Int.reduceLE, Int.reduceToNat, Nat.reduceLT, Nat.reduceLeDiff, Int.reduceEq, Int.reduceNeg, IntKind.bits, Nat.reduceAdd, Nat.reduceMul, Nat.reducePow, Int.reducePow, ini, F_ref03_PutSr0_W, F_ref03_PutSr1_W, F_ref03_PutSr2_W, F_ref03_PutSr3_W, F_ref03_PutSr4_W, F_ref03_PutSr5_W, F_ref03_PutSr6_W, F_ref03_PutSr6_g2, F_ref03_PutSr7_W, F_ref03_PutSr8_W, F_ref03_PutSr9_W, F_ref03_PutSl0_W, F_ref03_PutSc_W, e0, e3, hneg, w2] at this ⊢
      exact this
    · have w2 : n.tmod 128 = n % 128 := by omega
      rw [w2] at hneg
      have := hfin (upd (upd (upd (upd (upd env 6 (.int .i64 n)) 7 (.int .i64 (n % 128))) 4 (.int .i64 (n % 128))) 8 (.int .i64 (n % 128))) 9 (.bool false)) (by (first | (simp only [fws, cond_true, cond_false, if_true, if_false, unV, isNil, optI, iV, stepI, evalR, reduceIte, reduceCtorEq, Nat.reduceEqDiff, Int.reduceLT, Int.reduceLE, Int.reduceToNat, Nat.reduceLT, Nat.reduceLeDiff, Int.reduceEq, Int.reduceNeg, IntKind.bits, Nat.reduceAdd, Nat.reduceMul, Nat.reducePow, Int.reducePow, ini, *]; done) | (simp only [fws, cond_true, cond_false, if_true, if_false, unV, isNil, optI, iV, stepI, evalR, reduceIte, reduceCtorEq, Nat.reduceEqDiff, Int.reduceLT, Int.reduceLE, Int.reduceToNat, Nat.reduceLT, Nat.reduceLeDiff, Int.reduceEq, Int.reduceNeg, IntKind.bits, Nat.reduceAdd, Nat.reduceMul, Nat.reducePow, Int.reducePow, ini]; rfl))) (by (first | (simp only [fws, cond_true, cond_false, if_true, if_false, unV, isNil, optI, iV, stepI, evalR, reduceIte, reduceCtorEq, Nat.reduceEqDiff, Int.reduceLT, Int.reduceLE, Int.reduceToNat, Nat.reduceLT, Nat.reduceLeDiff, Int.reduceEq, Int.reduceNeg, IntKind.bits, Nat.reduceAdd, Nat.reduceMul, Nat.reducePow, Int.reducePow, ini, *]; done) | (simp only [fws, cond_true, cond_false, if_true, if_false, unV, isNil, optI, iV, stepI, evalR, reduceIte, reduceCtorEq, Nat.reduceEqDiff, Int.reduceLT, Int.reduceLE, Int.reduceToNat, Nat.reduceLT, Nat.reduceLeDiff, Int.reduceEq, Int.reduceNeg, IntKind.bits, Nat.reduceAdd, Nat.reduceMul, Nat.reducePow, Int.reducePow, ini]; rfl))) (by (first | (simp only [fws, cond_true, cond_false, if_true, if_false, unV, isNil, optI, iV, stepI, evalR, reduceIte, reduceCtorEq, Nat.reduceEqDiff, Int.reduceLT, Int.reduceLE, Int.reduceToNat, Nat.reduceLT, Nat.reduceLeDiff, Int.reduceEq, Int.reduceNeg, IntKind.bits, Nat.reduceAdd, Nat.reduceMul, Nat.reducePow, Int.reducePow, ini, *]; done) | (simp only [fws, cond_true, cond_false, if_true, if_false, unV, isNil, optI, iV, stepI, evalR, reduceIte, reduceCtorEq, Nat.reduceEqDiff, Int.reduceLT, Int.reduceLE, Int.reduceToNat, Nat.reduceLT, Nat.reduceLeDiff, Int.reduceEq, Int.reduceNeg, IntKind.bits, Nat.reduceAdd, Nat.reduceMul, Nat.reducePow, Int.reducePow, ini]; rfl)))
      simp only [fws, cond_true, cond_false, if_true, if_false, unV, isNil, optI, iV, stepI, evalR, reduceIte, reduceCtorEq, Nat.reduceEqDiff, Int.reduceLT, Int.reduceLE, Int.reduceToNat, Nat.reduceLT, Nat.reduceLeDiff, Int.reduceEq, Int.reduceNeg, IntKind.bits, Nat.reduceAdd, Nat.reduceMul, Nat.reducePow, Int.reducePow, ini, F_ref03_PutSr0_W, F_ref03_PutSr1_W, F_ref03_PutSr2_W, F_ref03_PutSr3_W, F_ref03_PutSr4_W, F_ref03_PutSr5_W, F_ref03_PutSr6_W, F_ref03_PutSr6_g2, F_ref03_PutSr7_W, F_ref03_PutSr8_W, F_ref03_PutSr9_W, F_ref03_PutSl0_W, F_ref03_PutSc_W, e0, e3, hneg, w2] at this ⊢
      exact this

theorem f_ref03_PutS {T : Tab} (h : T 26 = some F_ref03_PutS) {n : Int} (h1 : -9223372036854775808 ≤ n) (h2 : n < 9223372036854775808) : FnV T 26 [.int .i64 n] (imm byteE (putS 10 n)) := by
  refine FnV_of rfl ?_
  rw [Ev_fn h rfl]
  simp only [F_ref03_PutS, fws, cond_true, cond_false, if_true, if_false, unV, isNil, optI, iV, stepI, evalR, reduceIte, reduceCtorEq, Nat.reduceEqDiff, Int.reduceLT, Int.reduceLE, Int.reduceToNat, Nat.reduceLT, Nat.reduceLeDiff, Int.reduceEq, Int.reduceNeg, IntKind.bits, Nat.reduceAdd, Nat.reduceMul, Nat.reducePow, Int.reducePow, ini, F_ref03_PutSr0_W, F_ref03_PutSr1_W, F_ref03_PutSr2_W, F_ref03_PutSr3_W, F_ref03_PutSr4_W, F_ref03_PutSr5_W, F_ref03_PutSr6_W, F_ref03_PutSr6_g2, F_ref03_PutSr7_W, F_ref03_PutSr8_W, F_ref03_PutSr9_W, F_ref03_PutSl0_W, F_ref03_PutSc_W]
  refine W.mono (loop_ref03_PutS 9 n [] _ [] _ (by omega) (by omega) h1 h2 (by simp) ?_ ?_ Acc.nil) fun x e hh ⟨g1, g2⟩ => ?_
  · (first | (simp only [fws, cond_true, cond_false, if_true, if_false, unV, isNil, optI, iV, stepI, evalR, reduceIte, reduceCtorEq, Nat.reduceEqDiff, Int.reduceLT, Int.reduceLE, Int.reduceToNat, Nat.reduceLT, Nat.reduceLeDiff, Int.reduceEq, Int.reduceNeg, IntKind.bits, Nat.reduceAdd, Nat.reduceMul, Nat.reducePow, Int.reducePow, ini, *]; done) | (simp only [fws, cond_true, cond_false, if_true, if_false, unV, isNil, optI, iV, stepI, evalR, reduceIte, reduceCtorEq, Nat.reduceEqDiff, Int.reduceLT, Int.reduceLE, Int.reduceToNat, Nat.reduceLT, Nat.reduceLeDiff, Int.reduceEq, Int.reduceNeg, IntKind.bits, Nat.reduceAdd, Nat.reduceMul, Nat.reducePow, Int.reducePow, ini]; rfl))
  · (first | (simp only [fws, cond_true, cond_false, if_true, if_false, unV, isNil, optI, iV, stepI, evalR, reduceIte, reduceCtorEq, Nat.reduceEqDiff, Int.reduceLT, Int.reduceLE, Int.reduceToNat, Nat.reduceLT, Nat.reduceLeDiff, Int.reduceEq, Int.reduceNeg, IntKind.bits, Nat.reduceAdd, Nat.reduceMul, Nat.reducePow, Int.reducePow, ini, *]; done) | (simp only [fws, cond_true, cond_false, if_true, if_false, unV, isNil, optI, iV, stepI, evalR, reduceIte, reduceCtorEq, Nat.reduceEqDiff, Int.reduceLT, Int.reduceLE, Int.reduceToNat, Nat.reduceLT, Nat.reduceLeDiff, Int.reduceEq, Int.reduceNeg, IntKind.bits, Nat.reduceAdd, Nat.reduceMul, Nat.reducePow, Int.reducePow, ini]; rfl))
  subst g1
  simp only [fws, cond_true, cond_false, if_true, if_false, unV, isNil, optI, iV, stepI, evalR, reduceIte, reduceCtorEq, Nat.reduceEqDiff, Int.reduceLT, Int.reduceLE, Int.reduceToNat, Nat.reduceLT, Nat.reduceLeDiff, Int.reduceEq, Int.reduceNeg, IntKind.bits, Nat.reduceAdd, Nat.reduceMul, Nat.reducePow, Int.reducePow, ini]
  exact g2.frz (k := 7) (by decide) putS_ne

abbrev isI64 (n : Int) : Prop := -9223372036854775808 ≤ n ∧ n < 9223372036854775808
theorem nat_u64 {n : Int} (h : (Lit.int .u64 n).wf = true) : ∃ m : Nat, n = m ∧ m < 18446744073709551616 := by
  have := Go.bounds_u64 h
  exact ⟨n.toNat, by omega, by omega⟩
theorem i64_of {n : Int} (h : (Lit.int .i64 n).wf = true) : isI64 n := by
  simp [Lit.wf, IntKind.min, IntKind.max, IntKind.bits, IntKind.signed] at h
  exact ⟨by omega, by omega⟩

theorem law_LebPuts {n : Nat} {m : Int} (hn : n < 18446744073709551616) (hm : isI64 m) : Ev TLeb 6 [.int .u64 n, .int .i64 m] [] fun v _ => v = .bool true := by
  rw [Ev_fn rfl rfl]
  simp only [F_law03_LebPuts, fws, cond_true, cond_false, if_true, if_false, unV, isNil, optI, iV, stepI, evalR, reduceIte, reduceCtorEq, Nat.reduceEqDiff, Int.reduceLT, Int.reduceLE, Int.reduceToNat, Nat.reduceLT, Nat.reduceLeDiff, Int.reduceEq, Int.reduceNeg, IntKind.bits, Nat.reduceAdd, Nat.reduceMul, Nat.reducePow, Int.reducePow, ini, fwi, F_law03_LebPutsr0_W, F_law03_LebPutsr1_g7, F_law03_LebPutsr1_g16, F_law03_LebPutsr1_W, F_law03_LebPutsc_W, CC_of (f_leb_PutU (T := TLeb) rfl hn), CC_of (f_ref03_PutU (T := TLeb) rfl hn), CC_of (f_leb_PutS (T := TLeb) rfl hm.1 hm.2), CC_of (f_ref03_PutS (T := TLeb) rfl hm.1 hm.2), CC_of leb_alive]

theorem putU_len : ∀ (f n : Nat), (putU f n).length ≤ f
  | 0, _ => Nat.le_refl _
  | f + 1, n => by
    rw [putU]
    split
    · simp
    · have := putU_len f (n / 128)
      simp only [List.length_cons]
      omega
theorem putU_mono : ∀ (f a b : Nat), a ≤ b → (putU f a).length ≤ (putU f b).length
  | 0, _, _, _ => Nat.le_refl _
  | f + 1, a, b, h => by
    have := putU_mono f (a / 128) (b / 128) (Nat.div_le_div_right h)
    rw [putU, putU]
    split
    · split <;> simp
    · rw [if_neg (by omega)]
      simp only [List.length_cons]
      omega
theorem putS_len : ∀ (f : Nat) (n : Int), (putS f n).length ≤ f
  | 0, _ => Nat.le_refl _
  | f + 1, n => by
    rw [putS]
    split
    · simp
    · have := putS_len f (n / 128)
      simp only [List.length_cons]
      omega
/-- Only the last byte is below 128. -/
def lastLow (l : List UInt8) : Prop := ∀ i (h : i < l.length), (l[i].toNat < 128 ↔ i + 1 = l.length)
theorem lastLow_cons {c : UInt8} {l : List UInt8} (hc : 128 ≤ c.toNat) (hl : l ≠ []) (h : lastLow l) : lastLow (c :: l) := fun i hi => by
  have h0 : 0 < l.length := by cases l with | nil => exact absurd rfl hl | cons => simp
  cases i with
  | zero => simp only [List.getElem_cons_zero, List.length_cons]; omega
  | succ i =>
    simp only [List.length_cons] at hi
    have := h i (by omega)
    simp only [List.getElem_cons_succ, List.length_cons]
    omega
theorem putU_low : ∀ (f n : Nat), n < 128 ^ f → lastLow (putU f n)
  | 0, _, _ => fun i hi => by simp [putU] at hi
  | f + 1, n, hn => by
    rw [putU]
    split
    · intro i hi
      simp only [List.length_singleton] at hi
      have : i = 0 := by omega
      subst this
      simp [UInt8.toNat_ofNat']
      omega
    · rename_i hge
      have hp : 128 ^ (f + 1) = 128 ^ f * 128 := Nat.pow_succ ..
      cases f with
      | zero => exfalso; simp at hn; omega
      | succ f =>
        refine lastLow_cons ?_ putU_ne (putU_low (f + 1) (n / 128) (by omega))
        rw [UInt8.toNat_ofNat']
        omega
theorem putS_low : ∀ (f : Nat) (n : Int), -(64 * 128 ^ f) ≤ n → n < 64 * 128 ^ f → lastLow (putS (f + 1) n) := by
  intro f
  induction f with
  | zero =>
    intro n h1 h2
    rw [putS, if_pos (by omega)]
    intro i hi
    simp only [List.length_singleton] at hi
    have : i = 0 := by omega
    subst this
    simp [UInt8.toNat_ofNat']
    omega
  | succ f ih =>
    intro n h1 h2
    rw [putS]
    split
    · intro i hi
      simp only [List.length_singleton] at hi
      have : i = 0 := by omega
      subst this
      simp [UInt8.toNat_ofNat']
      omega
    · have hp : (128 : Int) ^ (f + 1) = 128 ^ f * 128 := Int.pow_succ ..
      rw [hp] at h1 h2
      refine lastLow_cons ?_ putS_ne (ih (n / 128) (by omega) (by omega))
      rw [UInt8.toNat_ofNat']
      omega

theorem loop_LebShort0 {T : Tab} (x z : List UInt8) (hl : x.length ≤ 1000) (hx : lastLow x) : ∀ (m i : Nat) (env : Env), i + m = x.length → env 7 = imm byteE x → env 9 = imm byteE z → env 10 = .int .i64 i →
    W T (.loop F_law03_LebShortl0) env [] fun q e h => q = .exit 0 ∧ h = [] ∧ e 9 = imm byteE z := by
  intro m
  induction m with
  | zero =>
    intro i env hi v7 v9 v10
    have h1 : ¬ ((i : Int) < x.length) := by omega
    rw [w_loop]
    simp only [fws, cond_true, cond_false, if_true, if_false, unV, isNil, optI, iV, stepI, evalR, reduceIte, reduceCtorEq, Nat.reduceEqDiff, Int.reduceLT, Int.reduceLE, Int.reduceToNat, Nat.reduceLT, Nat.reduceLeDiff, Int.reduceEq, Int.reduceNeg, IntKind.bits, Nat.reduceAdd, Nat.reduceMul, Nat.reducePow, Int.reducePow, ini, fwi, F_law03_LebShortr0_W, F_law03_LebShortr1_W, F_law03_LebShortr2_W, F_law03_LebShortr2_g3, F_law03_LebShortr2_g8, F_law03_LebShortr2_g13, F_law03_LebShortr2_g18, F_law03_LebShortr2_g22, F_law03_LebShortr3_W, F_law03_LebShortr4_W, F_law03_LebShortr5_W, F_law03_LebShortr7_W, F_law03_LebShortr8_W, F_law03_LebShortr6_W, F_law03_LebShortl0_W, F_law03_LebShortr9_W, F_law03_LebShortr10_W, F_law03_LebShortr12_W, F_law03_LebShortr13_W, F_law03_LebShortr11_W, F_law03_LebShortl1_W, F_law03_LebShortr14_W, F_law03_LebShortc_W, v7, v9, v10, h1, and_self]
  | succ m ih =>
    intro i env hi v7 v9 v10
    have h1 : ((i : Int) < x.length) := by omega
    have hix : i < x.length := by omega
    have w1 : IntKind.i64.wrap ((x.length : Int) - 1) = (x.length : Int) - 1 := wrapI64 (by omega) (by omega)
    have w2 : IntKind.i64.wrap ((i : Int) + 1) = ((i + 1 : Nat) : Int) := by rw [wrapI64 (by omega) (by omega)]; rfl
    have hx2 := ix_at (E := byteE) (n := 1) rfl hix
    have key : decide ((x[i].toNat : Int) < 128) = decide ((i : Int) = (x.length : Int) - 1) := by
      have := hx i hix
      rw [Bool.eq_iff_iff, decide_eq_true_eq, decide_eq_true_eq]
      omega
    rw [w_loop]
    simp only [fws, cond_true, cond_false, if_true, if_false, unV, isNil, optI, iV, stepI, evalR, reduceIte, reduceCtorEq, Nat.reduceEqDiff, Int.reduceLT, Int.reduceLE, Int.reduceToNat, Nat.reduceLT, Nat.reduceLeDiff, Int.reduceEq, Int.reduceNeg, IntKind.bits, Nat.reduceAdd, Nat.reduceMul, Nat.reducePow, Int.reducePow, ini, fwi, F_law03_LebShortr0_W, F_law03_LebShortr1_W, F_law03_LebShortr2_W, F_law03_LebShortr2_g3, F_law03_LebShortr2_g8, F_law03_LebShortr2_g13, F_law03_LebShortr2_g18, F_law03_LebShortr2_g22, F_law03_LebShortr3_W, F_law03_LebShortr4_W, F_law03_LebShortr5_W, F_law03_LebShortr7_W, F_law03_LebShortr8_W, F_law03_LebShortr6_W, F_law03_LebShortl0_W, F_law03_LebShortr9_W, F_law03_LebShortr10_W, F_law03_LebShortr12_W, F_law03_LebShortr13_W, F_law03_LebShortr11_W, F_law03_LebShortl1_W, F_law03_LebShortr14_W, F_law03_LebShortc_W, v7, v9, v10, h1, hx2, at_cons hix, w1, w2, key]
    refine W.mono (ih (i + 1) _ (by omega) ?_ ?_ ?_) fun q e h hq => hq
    · (first | (simp only [fws, cond_true, cond_false, if_true, if_false, unV, isNil, optI, iV, stepI, evalR, reduceIte, reduceCtorEq, Nat.reduceEqDiff, Int.reduceLT, Int.reduceLE, Int.reduceToNat, Nat.reduceLT, Nat.reduceLeDiff, Int.reduceEq, Int.reduceNeg, IntKind.bits, Nat.reduceAdd, Nat.reduceMul, Nat.reducePow, Int.reducePow, ini, *]; done) | (simp only [fws, cond_true, cond_false, if_true, if_false, unV, isNil, optI, iV, stepI, evalR, reduceIte, reduceCtorEq, Nat.reduceEqDiff, Int.reduceLT, Int.reduceLE, Int.reduceToNat, Nat.reduceLT, Nat.reduceLeDiff, Int.reduceEq, Int.reduceNeg, IntKind.bits, Nat.reduceAdd, Nat.reduceMul, Nat.reducePow, Int.reducePow, ini]; rfl))
    · (first | (simp only [fws, cond_true, cond_false, if_true, if_false, unV, isNil, optI, iV, stepI, evalR, reduceIte, reduceCtorEq, Nat.reduceEqDiff, Int.reduceLT, Int.reduceLE, Int.reduceToNat, Nat.reduceLT, Nat.reduceLeDiff, Int.reduceEq, Int.reduceNeg, IntKind.bits, Nat.reduceAdd, Nat.reduceMul, Nat.reducePow, Int.reducePow, ini, *]; done) | (simp only [fws, cond_true, cond_false, if_true, if_false, unV, isNil, optI, iV, stepI, evalR, reduceIte, reduceCtorEq, Nat.reduceEqDiff, Int.reduceLT, Int.reduceLE, Int.reduceToNat, Nat.reduceLT, Nat.reduceLeDiff, Int.reduceEq, Int.reduceNeg, IntKind.bits, Nat.reduceAdd, Nat.reduceMul, Nat.reducePow, Int.reducePow, ini]; rfl))
    · (first | (simp only [fws, cond_true, cond_false, if_true, if_false, unV, isNil, optI, iV, stepI, evalR, reduceIte, reduceCtorEq, Nat.reduceEqDiff, Int.reduceLT, Int.reduceLE, Int.reduceToNat, Nat.reduceLT, Nat.reduceLeDiff, Int.reduceEq, Int.reduceNeg, IntKind.bits, Nat.reduceAdd, Nat.reduceMul, Nat.reducePow, Int.reducePow, ini, *]; done) | (simp only [fws, cond_true, cond_false, if_true, if_false, unV, isNil, optI, iV, stepI, evalR, reduceIte, reduceCtorEq, Nat.reduceEqDiff, Int.reduceLT, Int.reduceLE, Int.reduceToNat, Nat.reduceLT, Nat.reduceLeDiff, Int.reduceEq, Int.reduceNeg, IntKind.bits, Nat.reduceAdd, Nat.reduceMul, Nat.reducePow, Int.reducePow, ini]; rfl))
theorem loop_LebShort1 {T : Tab} (z : List UInt8) (hl : z.length ≤ 1000) (hx : lastLow z) : ∀ (m i : Nat) (env : Env), i + m = z.length → env 9 = imm byteE z → env 11 = .int .i64 i →
    W T (.loop F_law03_LebShortl1) env [] fun q _ h => q = .exit 2 ∧ h = [] := by
  intro m
  induction m with
  | zero =>
    intro i env hi v9 v10
    have h1 : ¬ ((i : Int) < z.length) := by omega
    rw [w_loop]
    simp only [fws, cond_true, cond_false, if_true, if_false, unV, isNil, optI, iV, stepI, evalR, reduceIte, reduceCtorEq, Nat.reduceEqDiff, Int.reduceLT, Int.reduceLE, Int.reduceToNat, Nat.reduceLT, Nat.reduceLeDiff, Int.reduceEq, Int.reduceNeg, IntKind.bits, Nat.reduceAdd, Nat.reduceMul, Nat.reducePow, Int.reducePow, ini, fwi, F_law03_LebShortr0_W, F_law03_LebShortr1_W, F_law03_LebShortr2_W, F_law03_LebShortr2_g3, F_law03_LebShortr2_g8, F_law03_LebShortr2_g13, F_law03_LebShortr2_g18, F_law03_LebShortr2_g22, F_law03_LebShortr3_W, F_law03_LebShortr4_W, F_law03_LebShortr5_W, F_law03_LebShortr7_W, F_law03_LebShortr8_W, F_law03_LebShortr6_W, F_law03_LebShortl0_W, F_law03_LebShortr9_W, F_law03_LebShortr10_W, F_law03_LebShortr12_W, F_law03_LebShortr13_W, F_law03_LebShortr11_W, F_law03_LebShortl1_W, F_law03_LebShortr14_W, F_law03_LebShortc_W, v9, v10, h1, and_self]
  | succ m ih =>
    intro i env hi v9 v10
    have h1 : ((i : Int) < z.length) := by omega
    have hix : i < z.length := by omega
    have w1 : IntKind.i64.wrap ((z.length : Int) - 1) = (z.length : Int) - 1 := wrapI64 (by omega) (by omega)
    have w2 : IntKind.i64.wrap ((i : Int) + 1) = ((i + 1 : Nat) : Int) := by rw [wrapI64 (by omega) (by omega)]; rfl
    have hx2 := ix_at (E := byteE) (n := 1) rfl hix
    have key : decide ((z[i].toNat : Int) < 128) = decide ((i : Int) = (z.length : Int) - 1) := by
      have := hx i hix
      rw [Bool.eq_iff_iff, decide_eq_true_eq, decide_eq_true_eq]
      omega
    rw [w_loop]
    simp only [fws, cond_true, cond_false, if_true, if_false, unV, isNil, optI, iV, stepI, evalR, reduceIte, reduceCtorEq, Nat.reduceEqDiff, Int.reduceLT, Int.reduceLE, Int.reduceToNat, Nat.reduceLT, Nat.reduceLeDiff, Int.reduceEq, Int.reduceNeg, IntKind.bits, Nat.reduceAdd, Nat.reduceMul, Nat.reducePow, Int.reducePow, ini, fwi, F_law03_LebShortr0_W, F_law03_LebShortr1_W, F_law03_LebShortr2_W, F_law03_LebShortr2_g3, F_law03_LebShortr2_g8, F_law03_LebShortr2_g13, F_law03_LebShortr2_g18, F_law03_LebShortr2_g22, F_law03_LebShortr3_W, F_law03_LebShortr4_W, F_law03_LebShortr5_W, F_law03_LebShortr7_W, F_law03_LebShortr8_W, F_law03_LebShortr6_W, F_law03_LebShortl0_W, F_law03_LebShortr9_W, F_law03_LebShortr10_W, F_law03_LebShortr12_W, F_law03_LebShortr13_W, F_law03_LebShortr11_W, F_law03_LebShortl1_W, F_law03_LebShortr14_W, F_law03_LebShortc_W, v9, v10, h1, hx2, at_cons hix, w1, w2, key]
    refine W.mono (ih (i + 1) _ (by omega) ?_ ?_) fun q e h hq => hq
    · (first | (simp only [fws, cond_true, cond_false, if_true, if_false, unV, isNil, optI, iV, stepI, evalR, reduceIte, reduceCtorEq, Nat.reduceEqDiff, Int.reduceLT, Int.reduceLE, Int.reduceToNat, Nat.reduceLT, Nat.reduceLeDiff, Int.reduceEq, Int.reduceNeg, IntKind.bits, Nat.reduceAdd, Nat.reduceMul, Nat.reducePow, Int.reducePow, ini, *]; done) | (simp only [fws, cond_true, cond_false, if_true, if_false, unV, isNil, optI, iV, stepI, evalR, reduceIte, reduceCtorEq, Nat.reduceEqDiff, Int.reduceLT, Int.reduceLE, Int.reduceToNat, Nat.reduceLT, Nat.reduceLeDiff, Int.reduceEq, Int.reduceNeg, IntKind.bits, Nat.reduceAdd, Nat.reduceMul, Nat.reducePow, Int.reducePow, ini]; rfl))
    · (first | (simp only [fws, cond_true, cond_false, if_true, if_false, unV, isNil, optI, iV, stepI, evalR, reduceIte, reduceCtorEq, Nat.reduceEqDiff, Int.reduceLT, Int.reduceLE, Int.reduceToNat, Nat.reduceLT, Nat.reduceLeDiff, Int.reduceEq, Int.reduceNeg, IntKind.bits, Nat.reduceAdd, Nat.reduceMul, Nat.reducePow, Int.reducePow, ini, *]; done) | (simp only [fws, cond_true, cond_false, if_true, if_false, unV, isNil, optI, iV, stepI, evalR, reduceIte, reduceCtorEq, Nat.reduceEqDiff, Int.reduceLT, Int.reduceLE, Int.reduceToNat, Nat.reduceLT, Nat.reduceLeDiff, Int.reduceEq, Int.reduceNeg, IntKind.bits, Nat.reduceAdd, Nat.reduceMul, Nat.reducePow, Int.reducePow, ini]; rfl))

theorem law_LebShort {a b : Nat} {c : Int} (ha : a < 18446744073709551616) (hb : b < 18446744073709551616) (hc : isI64 c) : Ev TLeb 7 [.int .u64 a, .int .u64 b, .int .i64 c] [] fun v _ => v = .bool true := by
  rw [Ev_fn rfl rfl]
  have x0 : 0 < (putU 10 a).length := by have := putU_ne (f := 9) (n := a); cases h : putU 10 a with | nil => exact absurd h this | cons => simp
  have z0 : 0 < (putS 10 c).length := by have := putS_ne (f := 9) (n := c); cases h : putS 10 c with | nil => exact absurd h this | cons => simp
  have x1 := putU_len 10 a
  have z1 := putS_len 10 c
  have q1 : ¬ (((putU 10 a).length : Int) < 1) := by omega
  have q2 : ¬ ((10 : Int) < (putU 10 a).length) := by omega
  have q3 : ¬ (((putS 10 c).length : Int) < 1) := by omega
  have q4 : ¬ ((10 : Int) < (putS 10 c).length) := by omega
  by_cases hab : (a : Int) ≤ b
  · have hm := putU_mono 10 a b (by omega)
    have q5 : ¬ (((putU 10 b).length : Int) < (putU 10 a).length) := by omega
    simp only [F_law03_LebShort, fws, cond_true, cond_false, if_true, if_false, unV, isNil, optI, iV, stepI, evalR, reduceIte, reduceCtorEq, Nat.reduceEqDiff, Int.reduceLT, Int.reduceLE, Int.reduceToNat, Nat.reduceLT, Nat.reduceLeDiff, Int.reduceEq, Int.reduceNeg, IntKind.bits, Nat.reduceAdd, Nat.reduceMul, Nat.reducePow, Int.reducePow, ini, fwi, F_law03_LebShortr0_W, F_law03_LebShortr1_W, F_law03_LebShortr2_W, F_law03_LebShortr2_g3, F_law03_LebShortr2_g8, F_law03_LebShortr2_g13, F_law03_LebShortr2_g18, F_law03_LebShortr2_g22, F_law03_LebShortr3_W, F_law03_LebShortr4_W, F_law03_LebShortr5_W, F_law03_LebShortr7_W, F_law03_LebShortr8_W, F_law03_LebShortr6_W, F_law03_LebShortl0_W, F_law03_LebShortr9_W, F_law03_LebShortr10_W, F_law03_LebShortr12_W, F_law03_LebShortr13_W, F_law03_LebShortr11_W, F_law03_LebShortl1_W, F_law03_LebShortr14_W, F_law03_LebShortc_W, CC_of (f_leb_PutU (T := TLeb) rfl ha), CC_of (f_leb_PutU (T := TLeb) rfl hb), CC_of (f_leb_PutS (T := TLeb) rfl hc.1 hc.2), q1, q2, q3, q4, q5, hab]
    refine W.mono (loop_LebShort0 (putU 10 a) (putS 10 c) (by omega) (putU_low 10 a (by omega)) _ 0 _ (Nat.zero_add _) ?_ ?_ ?_) fun x e h ⟨g1, g2, g3⟩ => ?_
    · (first | (simp only [fws, cond_true, cond_false, if_true, if_false, unV, isNil, optI, iV, stepI, evalR, reduceIte, reduceCtorEq, Nat.reduceEqDiff, Int.reduceLT, Int.reduceLE, Int.reduceToNat, Nat.reduceLT, Nat.reduceLeDiff, Int.reduceEq, Int.reduceNeg, IntKind.bits, Nat.reduceAdd, Nat.reduceMul, Nat.reducePow, Int.reducePow, ini, *]; done) | (simp only [fws, cond_true, cond_false, if_true, if_false, unV, isNil, optI, iV, stepI, evalR, reduceIte, reduceCtorEq, Nat.reduceEqDiff, Int.reduceLT, Int.reduceLE, Int.reduceToNat, Nat.reduceLT, Nat.reduceLeDiff, Int.reduceEq, Int.reduceNeg, IntKind.bits, Nat.reduceAdd, Nat.reduceMul, Nat.reducePow, Int.reducePow, ini]; rfl))
    · (first | (simp only [fws, cond_true, cond_false, if_true, if_false, unV, isNil, optI, iV, stepI, evalR, reduceIte, reduceCtorEq, Nat.reduceEqDiff, Int.reduceLT, Int.reduceLE, Int.reduceToNat, Nat.reduceLT, Nat.reduceLeDiff, Int.reduceEq, Int.reduceNeg, IntKind.bits, Nat.reduceAdd, Nat.reduceMul, Nat.reducePow, Int.reducePow, ini, *]; done) | (simp only [fws, cond_true, cond_false, if_true, if_false, unV, isNil, optI, iV, stepI, evalR, reduceIte, reduceCtorEq, Nat.reduceEqDiff, Int.reduceLT, Int.reduceLE, Int.reduceToNat, Nat.reduceLT, Nat.reduceLeDiff, Int.reduceEq, Int.reduceNeg, IntKind.bits, Nat.reduceAdd, Nat.reduceMul, Nat.reducePow, Int.reducePow, ini]; rfl))
    · (first | (simp only [fws, cond_true, cond_false, if_true, if_false, unV, isNil, optI, iV, stepI, evalR, reduceIte, reduceCtorEq, Nat.reduceEqDiff, Int.reduceLT, Int.reduceLE, Int.reduceToNat, Nat.reduceLT, Nat.reduceLeDiff, Int.reduceEq, Int.reduceNeg, IntKind.bits, Nat.reduceAdd, Nat.reduceMul, Nat.reducePow, Int.reducePow, ini, *]; done) | (simp only [fws, cond_true, cond_false, if_true, if_false, unV, isNil, optI, iV, stepI, evalR, reduceIte, reduceCtorEq, Nat.reduceEqDiff, Int.reduceLT, Int.reduceLE, Int.reduceToNat, Nat.reduceLT, Nat.reduceLeDiff, Int.reduceEq, Int.reduceNeg, IntKind.bits, Nat.reduceAdd, Nat.reduceMul, Nat.reducePow, Int.reducePow, ini]; rfl))
    subst g1; subst g2
    simp only [fws, cond_true, cond_false, if_true, if_false, unV, isNil, optI, iV, stepI, evalR, reduceIte, reduceCtorEq, Nat.reduceEqDiff, Int.reduceLT, Int.reduceLE, Int.reduceToNat, Nat.reduceLT, Nat.reduceLeDiff, Int.reduceEq, Int.reduceNeg, IntKind.bits, Nat.reduceAdd, Nat.reduceMul, Nat.reducePow, Int.reducePow, ini, F_law03_LebShortr0_W, F_law03_LebShortr1_W, F_law03_LebShortr2_W, F_law03_LebShortr2_g3, F_law03_LebShortr2_g8, F_law03_LebShortr2_g13, F_law03_LebShortr2_g18, F_law03_LebShortr2_g22, F_law03_LebShortr3_W, F_law03_LebShortr4_W, F_law03_LebShortr5_W, F_law03_LebShortr7_W, F_law03_LebShortr8_W, F_law03_LebShortr6_W, F_law03_LebShortl0_W, F_law03_LebShortr9_W, F_law03_LebShortr10_W, F_law03_LebShortr12_W, F_law03_LebShortr13_W, F_law03_LebShortr11_W, F_law03_LebShortl1_W, F_law03_LebShortr14_W, F_law03_LebShortc_W, g3]
    refine W.mono (loop_LebShort1 (putS 10 c) (by omega) (putS_low 9 c (by have := hc.1; omega) (by have := hc.2; omega)) _ 0 _ (Nat.zero_add _) ?_ ?_) fun x e h ⟨g1, g2⟩ => ?_
    · (first | (simp only [fws, cond_true, cond_false, if_true, if_false, unV, isNil, optI, iV, stepI, evalR, reduceIte, reduceCtorEq, Nat.reduceEqDiff, Int.reduceLT, Int.reduceLE, Int.reduceToNat, Nat.reduceLT, Nat.reduceLeDiff, Int.reduceEq, Int.reduceNeg, IntKind.bits, Nat.reduceAdd, Nat.reduceMul, Nat.reducePow, Int.reducePow, ini, *]; done) | (simp only [fws, cond_true, cond_false, if_true, if_false, unV, isNil, optI, iV, stepI, evalR, reduceIte, reduceCtorEq, Nat.reduceEqDiff, Int.reduceLT, Int.reduceLE, Int.reduceToNat, Nat.reduceLT, Nat.reduceLeDiff, Int.reduceEq, Int.reduceNeg, IntKind.bits, Nat.reduceAdd, Nat.reduceMul, Nat.reducePow, Int.reducePow, ini]; rfl))
    · (first | (simp only [fws, cond_true, cond_false, if_true, if_false, unV, isNil, optI, iV, stepI, evalR, reduceIte, reduceCtorEq, Nat.reduceEqDiff, Int.reduceLT, Int.reduceLE, Int.reduceToNat, Nat.reduceLT, Nat.reduceLeDiff, Int.reduceEq, Int.reduceNeg, IntKind.bits, Nat.reduceAdd, Nat.reduceMul, Nat.reducePow, Int.reducePow, ini, *]; done) | (simp only [fws, cond_true, cond_false, if_true, if_false, unV, isNil, optI, iV, stepI, evalR, reduceIte, reduceCtorEq, Nat.reduceEqDiff, Int.reduceLT, Int.reduceLE, Int.reduceToNat, Nat.reduceLT, Nat.reduceLeDiff, Int.reduceEq, Int.reduceNeg, IntKind.bits, Nat.reduceAdd, Nat.reduceMul, Nat.reducePow, Int.reducePow, ini]; rfl))
    subst g1; subst g2
    simp only [fws, cond_true, cond_false, if_true, if_false, unV, isNil, optI, iV, stepI, evalR, reduceIte, reduceCtorEq, Nat.reduceEqDiff, Int.reduceLT, Int.reduceLE, Int.reduceToNat, Nat.reduceLT, Nat.reduceLeDiff, Int.reduceEq, Int.reduceNeg, IntKind.bits, Nat.reduceAdd, Nat.reduceMul, Nat.reducePow, Int.reducePow, ini, F_law03_LebShortr0_W, F_law03_LebShortr1_W, F_law03_LebShortr2_W, F_law03_LebShortr2_g3, F_law03_LebShortr2_g8, F_law03_LebShortr2_g13, F_law03_LebShortr2_g18, F_law03_LebShortr2_g22, F_law03_LebShortr3_W, F_law03_LebShortr4_W, F_law03_LebShortr5_W, F_law03_LebShortr7_W, F_law03_LebShortr8_W, F_law03_LebShortr6_W, F_law03_LebShortl0_W, F_law03_LebShortr9_W, F_law03_LebShortr10_W, F_law03_LebShortr12_W, F_law03_LebShortr13_W, F_law03_LebShortr11_W, F_law03_LebShortl1_W, F_law03_LebShortr14_W, F_law03_LebShortc_W, CC_of leb_alive]
  · simp only [F_law03_LebShort, fws, cond_true, cond_false, if_true, if_false, unV, isNil, optI, iV, stepI, evalR, reduceIte, reduceCtorEq, Nat.reduceEqDiff, Int.reduceLT, Int.reduceLE, Int.reduceToNat, Nat.reduceLT, Nat.reduceLeDiff, Int.reduceEq, Int.reduceNeg, IntKind.bits, Nat.reduceAdd, Nat.reduceMul, Nat.reducePow, Int.reducePow, ini, fwi, F_law03_LebShortr0_W, F_law03_LebShortr1_W, F_law03_LebShortr2_W, F_law03_LebShortr2_g3, F_law03_LebShortr2_g8, F_law03_LebShortr2_g13, F_law03_LebShortr2_g18, F_law03_LebShortr2_g22, F_law03_LebShortr3_W, F_law03_LebShortr4_W, F_law03_LebShortr5_W, F_law03_LebShortr7_W, F_law03_LebShortr8_W, F_law03_LebShortr6_W, F_law03_LebShortl0_W, F_law03_LebShortr9_W, F_law03_LebShortr10_W, F_law03_LebShortr12_W, F_law03_LebShortr13_W, F_law03_LebShortr11_W, F_law03_LebShortl1_W, F_law03_LebShortr14_W, F_law03_LebShortc_W, CC_of (f_leb_PutU (T := TLeb) rfl ha), CC_of (f_leb_PutU (T := TLeb) rfl hb), CC_of (f_leb_PutS (T := TLeb) rfl hc.1 hc.2), q1, q2, q3, q4, hab]
    refine W.mono (loop_LebShort0 (putU 10 a) (putS 10 c) (by omega) (putU_low 10 a (by omega)) _ 0 _ (Nat.zero_add _) ?_ ?_ ?_) fun x e h ⟨g1, g2, g3⟩ => ?_
    · (first | (simp only [fws, cond_true, cond_false, if_true, if_false, unV, isNil, optI, iV, stepI, evalR, reduceIte, reduceCtorEq, Nat.reduceEqDiff, Int.reduceLT, Int.reduceLE, Int.reduceToNat, Nat.reduceLT, Nat.reduceLeDiff, Int.reduceEq, Int.reduceNeg, IntKind.bits, Nat.reduceAdd, Nat.reduceMul, Nat.reducePow, Int.reducePow, ini, *]; done) | (simp only [fws, cond_true, cond_false, if_true, if_false, unV, isNil, optI, iV, stepI, evalR, reduceIte, reduceCtorEq, Nat.reduceEqDiff, Int.reduceLT, Int.reduceLE, Int.reduceToNat, Nat.reduceLT, Nat.reduceLeDiff, Int.reduceEq, Int.reduceNeg, IntKind.bits, Nat.reduceAdd, Nat.reduceMul, Nat.reducePow, Int.reducePow, ini]; rfl))
    · (first | (simp only [fws, cond_true, cond_false, if_true, if_false, unV, isNil, optI, iV, stepI, evalR, reduceIte, reduceCtorEq, Nat.reduceEqDiff, Int.reduceLT, Int.reduceLE, Int.reduceToNat, Nat.reduceLT, Nat.reduceLeDiff, Int.reduceEq, Int.reduceNeg, IntKind.bits, Nat.reduceAdd, Nat.reduceMul, Nat.reducePow, Int.reducePow, ini, *]; done) | (simp only [fws, cond_true, cond_false, if_true, if_false, unV, isNil, optI, iV, stepI, evalR, reduceIte, reduceCtorEq, Nat.reduceEqDiff, Int.reduceLT, Int.reduceLE, Int.reduceToNat, Nat.reduceLT, Nat.reduceLeDiff, Int.reduceEq, Int.reduceNeg, IntKind.bits, Nat.reduceAdd, Nat.reduceMul, Nat.reducePow, Int.reducePow, ini]; rfl))
    · (first | (simp only [fws, cond_true, cond_false, if_true, if_false, unV, isNil, optI, iV, stepI, evalR, reduceIte, reduceCtorEq, Nat.reduceEqDiff, Int.reduceLT, Int.reduceLE, Int.reduceToNat, Nat.reduceLT, Nat.reduceLeDiff, Int.reduceEq, Int.reduceNeg, IntKind.bits, Nat.reduceAdd, Nat.reduceMul, Nat.reducePow, Int.reducePow, ini, *]; done) | (simp only [fws, cond_true, cond_false, if_true, if_false, unV, isNil, optI, iV, stepI, evalR, reduceIte, reduceCtorEq, Nat.reduceEqDiff, Int.reduceLT, Int.reduceLE, Int.reduceToNat, Nat.reduceLT, Nat.reduceLeDiff, Int.reduceEq, Int.reduceNeg, IntKind.bits, Nat.reduceAdd, Nat.reduceMul, Nat.reducePow, Int.reducePow, ini]; rfl))
    subst g1; subst g2
    simp only [fws, cond_true, cond_false, if_true, if_false, unV, isNil, optI, iV, stepI, evalR, reduceIte, reduceCtorEq, Nat.reduceEqDiff, Int.reduceLT, Int.reduceLE, Int.reduceToNat, Nat.reduceLT, Nat.reduceLeDiff, Int.reduceEq, Int.reduceNeg, IntKind.bits, Nat.reduceAdd, Nat.reduceMul, Nat.reducePow, Int.reducePow, ini, F_law03_LebShortr0_W, F_law03_LebShortr1_W, F_law03_LebShortr2_W, F_law03_LebShortr2_g3, F_law03_LebShortr2_g8, F_law03_LebShortr2_g13, F_law03_LebShortr2_g18, F_law03_LebShortr2_g22, F_law03_LebShortr3_W, F_law03_LebShortr4_W, F_law03_LebShortr5_W, F_law03_LebShortr7_W, F_law03_LebShortr8_W, F_law03_LebShortr6_W, F_law03_LebShortl0_W, F_law03_LebShortr9_W, F_law03_LebShortr10_W, F_law03_LebShortr12_W, F_law03_LebShortr13_W, F_law03_LebShortr11_W, F_law03_LebShortl1_W, F_law03_LebShortr14_W, F_law03_LebShortc_W, g3]
    refine W.mono (loop_LebShort1 (putS 10 c) (by omega) (putS_low 9 c (by have := hc.1; omega) (by have := hc.2; omega)) _ 0 _ (Nat.zero_add _) ?_ ?_) fun x e h ⟨g1, g2⟩ => ?_
    · (first | (simp only [fws, cond_true, cond_false, if_true, if_false, unV, isNil, optI, iV, stepI, evalR, reduceIte, reduceCtorEq, Nat.reduceEqDiff, Int.reduceLT, Int.reduceLE, Int.reduceToNat, Nat.reduceLT, Nat.reduceLeDiff, Int.reduceEq, Int.reduceNeg, IntKind.bits, Nat.reduceAdd, Nat.reduceMul, Nat.reducePow, Int.reducePow, ini, *]; done) | (simp only [fws, cond_true, cond_false, if_true, if_false, unV, isNil, optI, iV, stepI, evalR, reduceIte, reduceCtorEq, Nat.reduceEqDiff, Int.reduceLT, Int.reduceLE, Int.reduceToNat, Nat.reduceLT, Nat.reduceLeDiff, Int.reduceEq, Int.reduceNeg, IntKind.bits, Nat.reduceAdd, Nat.reduceMul, Nat.reducePow, Int.reducePow, ini]; rfl))
    · (first | (simp only [fws, cond_true, cond_false, if_true, if_false, unV, isNil, optI, iV, stepI, evalR, reduceIte, reduceCtorEq, Nat.reduceEqDiff, Int.reduceLT, Int.reduceLE, Int.reduceToNat, Nat.reduceLT, Nat.reduceLeDiff, Int.reduceEq, Int.reduceNeg, IntKind.bits, Nat.reduceAdd, Nat.reduceMul, Nat.reducePow, Int.reducePow, ini, *]; done) | (simp only [fws, cond_true, cond_false, if_true, if_false, unV, isNil, optI, iV, stepI, evalR, reduceIte, reduceCtorEq, Nat.reduceEqDiff, Int.reduceLT, Int.reduceLE, Int.reduceToNat, Nat.reduceLT, Nat.reduceLeDiff, Int.reduceEq, Int.reduceNeg, IntKind.bits, Nat.reduceAdd, Nat.reduceMul, Nat.reducePow, Int.reducePow, ini]; rfl))
    subst g1; subst g2
    simp only [fws, cond_true, cond_false, if_true, if_false, unV, isNil, optI, iV, stepI, evalR, reduceIte, reduceCtorEq, Nat.reduceEqDiff, Int.reduceLT, Int.reduceLE, Int.reduceToNat, Nat.reduceLT, Nat.reduceLeDiff, Int.reduceEq, Int.reduceNeg, IntKind.bits, Nat.reduceAdd, Nat.reduceMul, Nat.reducePow, Int.reducePow, ini, F_law03_LebShortr0_W, F_law03_LebShortr1_W, F_law03_LebShortr2_W, F_law03_LebShortr2_g3, F_law03_LebShortr2_g8, F_law03_LebShortr2_g13, F_law03_LebShortr2_g18, F_law03_LebShortr2_g22, F_law03_LebShortr3_W, F_law03_LebShortr4_W, F_law03_LebShortr5_W, F_law03_LebShortr7_W, F_law03_LebShortr8_W, F_law03_LebShortr6_W, F_law03_LebShortl0_W, F_law03_LebShortr9_W, F_law03_LebShortr10_W, F_law03_LebShortr12_W, F_law03_LebShortr13_W, F_law03_LebShortr11_W, F_law03_LebShortl1_W, F_law03_LebShortr14_W, F_law03_LebShortc_W, CC_of leb_alive]
end Go.Proofs.Ytkhojkdcejmgpaa
