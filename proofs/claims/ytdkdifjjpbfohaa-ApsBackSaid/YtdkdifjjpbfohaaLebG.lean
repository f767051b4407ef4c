/- What the document puts; how far a reader goes. -/
import Derived.Test.YtdkdifjjpbfohaaLebF
import Derived.Test.YtdkdifjjpbfohaaFw24
namespace Go.Proofs.Ytdkdifjjpbfohaa
open Go Fw
set_option linter.unusedSimpArgs false
set_option linter.unusedVariables false

theorem tmod128 (n : Int) : (0 ≤ n → n.tmod 128 = n % 128) ∧ (n < 0 → n.tmod 128 = -((-n) % 128)) := by
  refine ⟨fun h => tmodN h, fun h => ?_⟩
  have : n = -(-n) := by omega
  conv => lhs; rw [this]
  rw [Int.neg_tmod, tmodN (by omega)]
theorem rest128 {n : Int} (h1 : -9223372036854775808 ≤ n) (h2 : n < 9223372036854775808) : IntKind.i64.wrap ((IntKind.i64.wrap (n - n % 128)).tdiv 128) = n / 128 := by
  have e : n - n % 128 = 128 * (n / 128) := by omega
  rw [wrapI64 (x := n - n % 128) (by omega) (by omega), e, Int.mul_tdiv_cancel_left _ (by decide), wrapI64 (by omega) (by omega)]
theorem loop_ref03_PutS {T : Tab} : ∀ (f : Nat) (n : Int) (l : List UInt8) (v : Value) (H : Heap) (env : Env), -(64 * 128 ^ f) ≤ n → n < 64 * 128 ^ f → -9223372036854775808 ≤ n → n < 9223372036854775808 → l.length + f ≤ 1000 → env 0 = .int .i64 n → env 3 = v → Acc byteE [] v H l →
    W T (.loop F_ref03_PutSl0) env H fun x e h => x = .ret ∧ Acc byteE [] (e 2) h (l ++ putS (f + 1) n) := by
  intro f
  induction f with
  | zero =>
    intro n l v H env h1 h2 h3 h4 hl e0 e3 ha
    have hin : -64 ≤ n ∧ n ≤ 63 := by omega
    have e1 : putS 1 n = [UInt8.ofNat (n % 128).toNat] := by rw [putS, if_pos hin]
    have w1 : IntKind.u8.wrap (n % 128) = n % 128 := by rw [wrap_u8]; omega
    obtain ⟨tm1, tm2⟩ := tmod128 n
    have tm : (0 ≤ n ∧ n.tmod 128 = n % 128) ∨ (n < 0 ∧ n.tmod 128 = -((-n) % 128)) := by
      rcases Int.lt_or_le n 0 with h | h
      · exact .inr ⟨h, tm2 h⟩
      · exact .inl ⟨h, tm1 h⟩
    clear tm1 tm2
    obtain ⟨v', H', a1, a2⟩ := ha.byte (x := n % 128) (by omega) (by omega) (by omega)
    rw [w_loop, e1]
    by_cases hneg : n.tmod 128 < 0
    · have w2 : IntKind.i64.wrap (n.tmod 128 + 128) = n % 128 := by rw [wrapI64 (by omega) (by omega)]; omega
      have w3 := rest128 h3 h4
      simp only [fws, cond_true, cond_false, if_true, if_false, unV, isNil, optI, iV, stepI, evalR, reduceIte, reduceCtorEq, Nat.reduceEqDiff, Int.reduceLT, Int.reduceLE, Int.reduceToNat, Nat.reduceLT, Nat.reduceLeDiff, Int.reduceEq, Int.reduceNeg, IntKind.bits, Nat.reduceAdd, Nat.reduceMul, Nat.reducePow, Int.reducePow, ini, fwh, lk, cellsAt, tagOf, spotOf, rdN, spl, fillL, zr, fwi, F_ref03_PutSr0_W, F_ref03_PutSr1_W, F_ref03_PutSr2_W, F_ref03_PutSr3_W, F_ref03_PutSr4_W, F_ref03_PutSr5_W, F_ref03_PutSr6_W, F_ref03_PutSr6_g2, F_ref03_PutSr7_W, F_ref03_PutSr8_W, F_ref03_PutSr9_W, F_ref03_PutSl0_W, F_ref03_PutSc_W, F_ref03_PutSr0_W, F_ref03_PutSr1_W, F_ref03_PutSr2_W, F_ref03_PutSr3_W, F_ref03_PutSr4_W, F_ref03_PutSr5_W, F_ref03_PutSr6_W, F_ref03_PutSr6_g2, F_ref03_PutSr7_W, F_ref03_PutSr8_W, F_ref03_PutSr9_W, F_ref03_PutSl0_W, F_ref03_PutSc_W, e0, e3, hneg, w1, w2, w3, hin.1, hin.2, srcOf_immV, a1]
      exact ⟨trivial, a2⟩
    · have w2 : n.tmod 128 = n % 128 := by omega
      have w3 := rest128 h3 h4
      rw [w2] at hneg
      simp only [fws, cond_true, cond_false, if_true, if_false, unV, isNil, optI, iV, stepI, evalR, reduceIte, reduceCtorEq, Nat.reduceEqDiff, Int.reduceLT, Int.reduceLE, Int.reduceToNat, Nat.reduceLT, Nat.reduceLeDiff, Int.reduceEq, Int.reduceNeg, IntKind.bits, Nat.reduceAdd, Nat.reduceMul, Nat.reducePow, Int.reducePow, ini, fwh, lk, cellsAt, tagOf, spotOf, rdN, spl, fillL, zr, fwi, F_ref03_PutSr0_W, F_ref03_PutSr1_W, F_ref03_PutSr2_W, F_ref03_PutSr3_W, F_ref03_PutSr4_W, F_ref03_PutSr5_W, F_ref03_PutSr6_W, F_ref03_PutSr6_g2, F_ref03_PutSr7_W, F_ref03_PutSr8_W, F_ref03_PutSr9_W, F_ref03_PutSl0_W, F_ref03_PutSc_W, F_ref03_PutSr0_W, F_ref03_PutSr1_W, F_ref03_PutSr2_W, F_ref03_PutSr3_W, F_ref03_PutSr4_W, F_ref03_PutSr5_W, F_ref03_PutSr6_W, F_ref03_PutSr6_g2, F_ref03_PutSr7_W, F_ref03_PutSr8_W, F_ref03_PutSr9_W, F_ref03_PutSl0_W, F_ref03_PutSc_W, e0, e3, hneg, w1, w2, w3, hin.1, hin.2, srcOf_immV, a1]
      exact ⟨trivial, a2⟩
  | succ f ih =>
    intro n l v H env h1 h2 h3 h4 hl e0 e3 ha
    have w1 : IntKind.u8.wrap (n % 128) = n % 128 := by rw [wrap_u8]; omega
    obtain ⟨tm1, tm2⟩ := tmod128 n
    have tm : (0 ≤ n ∧ n.tmod 128 = n % 128) ∨ (n < 0 ∧ n.tmod 128 = -((-n) % 128)) := by
      rcases Int.lt_or_le n 0 with h | h
      · exact .inr ⟨h, tm2 h⟩
      · exact .inl ⟨h, tm1 h⟩
    clear tm1 tm2
    rw [w_loop]
    have hfin : ∀ env', env' 0 = .int .i64 n → env' 3 = v → env' 4 = .int .i64 (n % 128) → W T (.seq (.reg F_ref03_PutSr5) (.seq (.seq (.reg F_ref03_PutSr6) (.cond (.t 21) (.seq (.reg F_ref03_PutSr7) .ret) .skip)) (.seq (.reg F_ref03_PutSr8) (.reg F_ref03_PutSr9)))) env' H
        (blockQ 1 (seqQ T (.loop F_ref03_PutSl0) fun x e h => x = .ret ∧ Acc byteE [] (e 2) h (l ++ putS (f + 1 + 1) n))) := fun env' v0 v3 v4 => by
      have w3 := rest128 h3 h4
      by_cases hin : -64 ≤ n ∧ n ≤ 63
      · obtain ⟨v', H', a1, a2⟩ := ha.byte (x := n % 128) (by omega) (by omega) (by omega)
        have e1 : putS (f + 1 + 1) n = [UInt8.ofNat (n % 128).toNat] := by rw [putS, if_pos hin]
        simp only [fws, cond_true, cond_false, if_true, if_false, unV, isNil, optI, iV, stepI, evalR, reduceIte, reduceCtorEq, Nat.reduceEqDiff, Int.reduceLT, Int.reduceLE, Int.reduceToNat, Nat.reduceLT, Nat.reduceLeDiff, Int.reduceEq, Int.reduceNeg, IntKind.bits, Nat.reduceAdd, Nat.reduceMul, Nat.reducePow, Int.reducePow, ini, fwh, lk, cellsAt, tagOf, spotOf, rdN, spl, fillL, zr, fwi, F_ref03_PutSr0_W, F_ref03_PutSr1_W, F_ref03_PutSr2_W, F_ref03_PutSr3_W, F_ref03_PutSr4_W, F_ref03_PutSr5_W, F_ref03_PutSr6_W, F_ref03_PutSr6_g2, F_ref03_PutSr7_W, F_ref03_PutSr8_W, F_ref03_PutSr9_W, F_ref03_PutSl0_W, F_ref03_PutSc_W, F_ref03_PutSr0_W, F_ref03_PutSr1_W, F_ref03_PutSr2_W, F_ref03_PutSr3_W, F_ref03_PutSr4_W, F_ref03_PutSr5_W, F_ref03_PutSr6_W, F_ref03_PutSr6_g2, F_ref03_PutSr7_W, F_ref03_PutSr8_W, F_ref03_PutSr9_W, F_ref03_PutSl0_W, F_ref03_PutSc_W, v0, v3, v4, w1, w3, hin.1, hin.2, srcOf_immV, a1]
        rw [e1]
        exact ⟨trivial, a2⟩
      · have e1 : putS (f + 1 + 1) n = UInt8.ofNat ((n % 128).toNat + 128) :: putS (f + 1) (n / 128) := by rw [putS, if_neg hin]
        have w4 : IntKind.u8.wrap (n % 128 + 128) = n % 128 + 128 := by rw [wrap_u8]; omega
        obtain ⟨v', H', a1, a2⟩ := ha.byte (x := n % 128 + 128) (by omega) (by omega) (by omega)
        have e2 : (n % 128 + 128).toNat = (n % 128).toNat + 128 := by omega
        have hp : (128 : Int) ^ (f + 1) = 128 ^ f * 128 := Int.pow_succ ..
        rw [hp] at h1 h2
        by_cases hq : -64 ≤ n
        · have hq2 : ¬ (n ≤ 63) := by omega
          simp only [fws, cond_true, cond_false, if_true, if_false, unV, isNil, optI, iV, stepI, evalR, reduceIte, reduceCtorEq, Nat.reduceEqDiff, Int.reduceLT, Int.reduceLE, Int.reduceToNat, Nat.reduceLT, Nat.reduceLeDiff, Int.reduceEq, Int.reduceNeg, IntKind.bits, Nat.reduceAdd, Nat.reduceMul, Nat.reducePow, Int.reducePow, ini, fwh, lk, cellsAt, tagOf, spotOf, rdN, spl, fillL, zr, fwi, F_ref03_PutSr0_W, F_ref03_PutSr1_W, F_ref03_PutSr2_W, F_ref03_PutSr3_W, F_ref03_PutSr4_W, F_ref03_PutSr5_W, F_ref03_PutSr6_W, F_ref03_PutSr6_g2, F_ref03_PutSr7_W, F_ref03_PutSr8_W, F_ref03_PutSr9_W, F_ref03_PutSl0_W, F_ref03_PutSc_W, F_ref03_PutSr0_W, F_ref03_PutSr1_W, F_ref03_PutSr2_W, F_ref03_PutSr3_W, F_ref03_PutSr4_W, F_ref03_PutSr5_W, F_ref03_PutSr6_W, F_ref03_PutSr6_g2, F_ref03_PutSr7_W, F_ref03_PutSr8_W, F_ref03_PutSr9_W, F_ref03_PutSl0_W, F_ref03_PutSc_W, v0, v3, v4, w1, w3, w4, hq, hq2, srcOf_immV, a1]
          refine W.mono (ih (n / 128) _ v' H' _ (by omega) (by omega) (by omega) (by omega) (by simp; omega) ?_ ?_ a2) fun x e hh ⟨g1, g2⟩ => ⟨g1, ?_⟩
          · (first | assumption | rfl)
          · (first | assumption | rfl)
          rw [e2, List.append_assoc] at g2
          rw [e1]
          exact g2
        · simp only [fws, cond_true, cond_false, if_true, if_false, unV, isNil, optI, iV, stepI, evalR, reduceIte, reduceCtorEq, Nat.reduceEqDiff, Int.reduceLT, Int.reduceLE, Int.reduceToNat, Nat.reduceLT, Nat.reduceLeDiff, Int.reduceEq, Int.reduceNeg, IntKind.bits, Nat.reduceAdd, Nat.reduceMul, Nat.reducePow, Int.reducePow, ini, fwh, lk, cellsAt, tagOf, spotOf, rdN, spl, fillL, zr, fwi, F_ref03_PutSr0_W, F_ref03_PutSr1_W, F_ref03_PutSr2_W, F_ref03_PutSr3_W, F_ref03_PutSr4_W, F_ref03_PutSr5_W, F_ref03_PutSr6_W, F_ref03_PutSr6_g2, F_ref03_PutSr7_W, F_ref03_PutSr8_W, F_ref03_PutSr9_W, F_ref03_PutSl0_W, F_ref03_PutSc_W, F_ref03_PutSr0_W, F_ref03_PutSr1_W, F_ref03_PutSr2_W, F_ref03_PutSr3_W, F_ref03_PutSr4_W, F_ref03_PutSr5_W, F_ref03_PutSr6_W, F_ref03_PutSr6_g2, F_ref03_PutSr7_W, F_ref03_PutSr8_W, F_ref03_PutSr9_W, F_ref03_PutSl0_W, F_ref03_PutSc_W, v0, v3, v4, w1, w3, w4, hq, srcOf_immV, a1]
          refine W.mono (ih (n / 128) _ v' H' _ (by omega) (by omega) (by omega) (by omega) (by simp; omega) ?_ ?_ a2) fun x e hh ⟨g1, g2⟩ => ⟨g1, ?_⟩
          · (first | assumption | rfl)
          · (first | assumption | rfl)
          rw [e2, List.append_assoc] at g2
          rw [e1]
          exact g2
    by_cases hneg : n.tmod 128 < 0
    · have w2 : IntKind.i64.wrap (n.tmod 128 + 128) = n % 128 := by rw [wrapI64 (by omega) (by omega)]; omega
      have := hfin (upd (upd (upd (upd (upd (upd (upd (upd env 6 (.int .i64 n)) 7 (.int .i64 (n.tmod 128))) 4 (.int .i64 (n.tmod 128))) 8 (.int .i64 (n.tmod 128))) 9 (.bool true)) 10 (.int .i64 (n.tmod 128))) 11 (.int .i64 (n % 128))) 4 (.int .i64 (n % 128))) (by (first | assumption | rfl)) (by (first | assumption | rfl)) (by (first | assumption | rfl))
      simp only [fws, cond_true, cond_false, if_true, if_false, unV, isNil, optI, iV, stepI, evalR, reduceIte, reduceCtorEq, Nat.reduceEqDiff, Int.reduceLT, Int.reduceLE, Int.reduceToNat, Nat.reduceLT, Nat.reduceLeDiff, Int.reduceEq, Int.reduceNeg, IntKind.bits, Nat.reduceAdd, Nat.reduceMul, Nat.reducePow, Int.reducePow, ini, F_ref03_PutSr0_W, F_ref03_PutSr1_W, F_ref03_PutSr2_W, F_ref03_PutSr3_W, F_ref03_PutSr4_W, F_ref03_PutSr5_W, F_ref03_PutSr6_W, F_ref03_PutSr6_g2, F_ref03_PutSr7_W, F_ref03_PutSr8_W, F_ref03_PutSr9_W, F_ref03_PutSl0_W, F_ref03_PutSc_W, F_ref03_PutSr0_W, F_ref03_PutSr1_W, F_ref03_PutSr2_W, F_ref03_PutSr3_W, F_ref03_PutSr4_W, F_ref03_PutSr5_W, F_ref03_PutSr6_W, F_ref03_PutSr6_g2, F_ref03_PutSr7_W, F_ref03_PutSr8_W, F_ref03_PutSr9_W, F_ref03_PutSl0_W, F_ref03_PutSc_W, e0, e3, hneg, w2] at this ⊢
      exact this
    · have w2 : n.tmod 128 = n % 128 := by omega
      rw [w2] at hneg
      have := hfin (upd (upd (upd (upd (upd env 6 (.int .i64 n)) 7 (.int .i64 (n % 128))) 4 (.int .i64 (n % 128))) 8 (.int .i64 (n % 128))) 9 (.bool false)) (by (first | assumption | rfl)) (by (first | assumption | rfl)) (by (first | assumption | rfl))
      simp only [fws, cond_true, cond_false, if_true, if_false, unV, isNil, optI, iV, stepI, evalR, reduceIte, reduceCtorEq, Nat.reduceEqDiff, Int.reduceLT, Int.reduceLE, Int.reduceToNat, Nat.reduceLT, Nat.reduceLeDiff, Int.reduceEq, Int.reduceNeg, IntKind.bits, Nat.reduceAdd, Nat.reduceMul, Nat.reducePow, Int.reducePow, ini, F_ref03_PutSr0_W, F_ref03_PutSr1_W, F_ref03_PutSr2_W, F_ref03_PutSr3_W, F_ref03_PutSr4_W, F_ref03_PutSr5_W, F_ref03_PutSr6_W, F_ref03_PutSr6_g2, F_ref03_PutSr7_W, F_ref03_PutSr8_W, F_ref03_PutSr9_W, F_ref03_PutSl0_W, F_ref03_PutSc_W, F_ref03_PutSr0_W, F_ref03_PutSr1_W, F_ref03_PutSr2_W, F_ref03_PutSr3_W, F_ref03_PutSr4_W, F_ref03_PutSr5_W, F_ref03_PutSr6_W, F_ref03_PutSr6_g2, F_ref03_PutSr7_W, F_ref03_PutSr8_W, F_ref03_PutSr9_W, F_ref03_PutSl0_W, F_ref03_PutSc_W, e0, e3, hneg, w2] at this ⊢
      exact this

theorem f_ref03_PutS {T : Tab} (h : T 15 = some F_ref03_PutS) {n : Int} (h1 : -9223372036854775808 ≤ n) (h2 : n < 9223372036854775808) : FnV T 15 [.int .i64 n] (imm byteE (putS 10 n)) := by
  refine FnV_of rfl ?_
  rw [Ev_fn h rfl]
  simp only [F_ref03_PutS, fws, cond_true, cond_false, if_true, if_false, unV, isNil, optI, iV, stepI, evalR, reduceIte, reduceCtorEq, Nat.reduceEqDiff, Int.reduceLT, Int.reduceLE, Int.reduceToNat, Nat.reduceLT, Nat.reduceLeDiff, Int.reduceEq, Int.reduceNeg, IntKind.bits, Nat.reduceAdd, Nat.reduceMul, Nat.reducePow, Int.reducePow, ini, F_ref03_PutSr0_W, F_ref03_PutSr1_W, F_ref03_PutSr2_W, F_ref03_PutSr3_W, F_ref03_PutSr4_W, F_ref03_PutSr5_W, F_ref03_PutSr6_W, F_ref03_PutSr6_g2, F_ref03_PutSr7_W, F_ref03_PutSr8_W, F_ref03_PutSr9_W, F_ref03_PutSl0_W, F_ref03_PutSc_W, F_ref03_PutSr0_W, F_ref03_PutSr1_W, F_ref03_PutSr2_W, F_ref03_PutSr3_W, F_ref03_PutSr4_W, F_ref03_PutSr5_W, F_ref03_PutSr6_W, F_ref03_PutSr6_g2, F_ref03_PutSr7_W, F_ref03_PutSr8_W, F_ref03_PutSr9_W, F_ref03_PutSl0_W, F_ref03_PutSc_W]
  refine W.mono (loop_ref03_PutS 9 n [] _ [] _ (by omega) (by omega) h1 h2 (by simp) ?_ ?_ Acc.nil) fun x e hh ⟨g1, g2⟩ => ?_
  · (first | assumption | rfl)
  · (first | assumption | rfl)
  subst g1
  simp only [fws, cond_true, cond_false, if_true, if_false, unV, isNil, optI, iV, stepI, evalR, reduceIte, reduceCtorEq, Nat.reduceEqDiff, Int.reduceLT, Int.reduceLE, Int.reduceToNat, Nat.reduceLT, Nat.reduceLeDiff, Int.reduceEq, Int.reduceNeg, IntKind.bits, Nat.reduceAdd, Nat.reduceMul, Nat.reducePow, Int.reducePow, ini]
  exact g2.frz (k := 7) (by decide) putS_ne

theorem gr_long : ∀ {f : Nat} {l : List UInt8}, gr f l = .long → f ≤ l.length
  | 0, l, _ => Nat.zero_le _
  | f + 1, [], h => by cases h
  | f + 1, c :: l, h => by
    simp only [gr] at h
    split at h
    · cases h
    · cases hg : gr f l with
      | ok g r => rw [hg] at h; cases h
      | short => rw [hg] at h; cases h
      | long => have := gr_long hg; simp only [List.length_cons]; omega
theorem sR_le (l : List UInt8) : (sR l).2.1 ≤ l.length := by
  unfold sR
  cases hg : gr 10 l with
  | ok g r =>
    have := (gr_ok hg).2.2
    have h2 : g.length ≤ l.length := by rw [this]; simp
    simp only []
    split <;> exact h2
  | short => exact Nat.le_refl _
  | long => exact gr_long hg

end Go.Proofs.Ytdkdifjjpbfohaa
