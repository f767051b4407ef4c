/- What the functions of the package leb and of the document's answer do: numbers in groups of seven bits are put. -/
import Derived.Test.YtdkdifjjpbfohaaIrLeb
import Derived.Laws.BitsAllLaws
namespace Go.Proofs.Ytdkdifjjpbfohaa
open Go Fw
set_option linter.unusedSimpArgs false
set_option linter.unusedVariables false

theorem leb_alive : FnV TLeb 16 [] (.bool true) := FnV_run 60 rfl (by kernel_rfl)

def putU : Nat → Nat → List UInt8
  | 0, _ => []
  | f + 1, n => if n < 128 then [UInt8.ofNat n] else UInt8.ofNat (n % 128 + 128) :: putU f (n / 128)
def putS : Nat → Int → List UInt8
  | 0, _ => []
  | f + 1, n => if -64 ≤ n ∧ n ≤ 63 then [UInt8.ofNat (n % 128).toNat] else UInt8.ofNat ((n % 128).toNat + 128) :: putS f (n / 128)

theorem or128 {x : Int} (h0 : 0 ≤ x) (h1 : x < 256) : Go.bits .or .u8 x 128 = x % 128 + 128 := by
  obtain ⟨n, rfl⟩ := Int.eq_ofNat_of_zero_le h0
  have hn : n < 256 := by omega
  have key : ((List.range 256).all fun m => decide (Go.bits .or .u8 (m : Int) 128 = (m : Int) % 128 + 128)) = true := by kernel_rfl
  exact of_decide_eq_true (List.all_eq_true.1 key n (by simpa using hn))

theorem loop_leb_PutU {T : Tab} : ∀ (f n : Nat) (l : List UInt8) (v : Value) (H : Heap) (env : Env), n < 128 ^ (f + 1) → n < 18446744073709551616 → l.length + f ≤ 1000 → env 0 = .int .u64 n → env 3 = v → Acc byteE [] v H l →
    W T (.loop F_leb_PutUl0) env H fun x e h => x = .exit 0 ∧ ∃ (n' : Nat) (v' : Value) (l' : List UInt8), e 0 = .int .u64 n' ∧ e 3 = v' ∧ n' < 128 ∧ l'.length ≤ 1000 ∧ Acc byteE [] v' h l' ∧ l' ++ [UInt8.ofNat n'] = l ++ putU (f + 1) n := by
  intro f
  induction f with
  | zero =>
    intro n l v H env hn _ hl e0 e3 ha
    have : ¬ ((128 : Int) ≤ n) := by omega
    rw [w_loop]
    simp only [fws, cond_true, cond_false, if_true, if_false, unV, isNil, optI, iV, stepI, evalR, reduceIte, reduceCtorEq, Nat.reduceEqDiff, Int.reduceLT, Int.reduceLE, Int.reduceToNat, Nat.reduceLT, Nat.reduceLeDiff, Int.reduceEq, Int.reduceNeg, IntKind.bits, Nat.reduceAdd, Nat.reduceMul, Nat.reducePow, Int.reducePow, ini, F_leb_PutUr0_W, F_leb_PutUr1_W, F_leb_PutUr2_W, F_leb_PutUr3_W, F_leb_PutUr4_W, F_leb_PutUl0_W, F_leb_PutUr5_W, F_leb_PutUc_W, e0, e3, this]
    exact ⟨trivial, n, v, l, rfl, rfl, by omega, by omega, ha, by simp only [putU]; rw [if_pos (by omega)]⟩
  | succ f ih =>
    intro n l v H env hn h64 hl e0 e3 ha
    rw [w_loop]
    by_cases h : (128 : Int) ≤ n
    · have w1 : Go.bits .or .u8 (IntKind.u8.wrap n) 128 = (n % 128 : Int) + 128 := by
        rw [wrap_u8, or128 (by omega) (by omega)]
        omega
      have w2 : (n : Int).fdiv 128 = ((n / 128 : Nat) : Int) := by
        rw [Int.fdiv_eq_ediv_of_nonneg _ (by omega)]; rfl
      obtain ⟨v', H', h1, h2⟩ := ha.byte (x := (n % 128 : Int) + 128) (by omega) (by omega) (by omega)
      simp only [fws, cond_true, cond_false, if_true, if_false, unV, isNil, optI, iV, stepI, evalR, reduceIte, reduceCtorEq, Nat.reduceEqDiff, Int.reduceLT, Int.reduceLE, Int.reduceToNat, Nat.reduceLT, Nat.reduceLeDiff, Int.reduceEq, Int.reduceNeg, IntKind.bits, Nat.reduceAdd, Nat.reduceMul, Nat.reducePow, Int.reducePow, ini, fwh, lk, cellsAt, tagOf, spotOf, rdN, spl, fillL, zr, fwi, F_leb_PutUr0_W, F_leb_PutUr1_W, F_leb_PutUr2_W, F_leb_PutUr3_W, F_leb_PutUr4_W, F_leb_PutUl0_W, F_leb_PutUr5_W, F_leb_PutUc_W, e0, e3, h, w1, w2, srcOf_immV, h1]
      refine W.mono (ih (n / 128) _ v' H' _ (by rw [Nat.pow_succ] at hn; omega) (by omega) (by simp; omega) ?_ ?_ h2) fun x e hh ⟨g1, n', v2, l', g2, g3, g4, g5, g6, g7⟩ => ⟨g1, n', v2, l', g2, g3, g4, g5, g6, ?_⟩
      · simp only [fws, cond_true, cond_false, if_true, if_false, unV, isNil, optI, iV, stepI, evalR, reduceIte, reduceCtorEq, Nat.reduceEqDiff, Int.reduceLT, Int.reduceLE, Int.reduceToNat, Nat.reduceLT, Nat.reduceLeDiff, Int.reduceEq, Int.reduceNeg, IntKind.bits, Nat.reduceAdd, Nat.reduceMul, Nat.reducePow, Int.reducePow, ini]
      · simp only [fws, cond_true, cond_false, if_true, if_false, unV, isNil, optI, iV, stepI, evalR, reduceIte, reduceCtorEq, Nat.reduceEqDiff, Int.reduceLT, Int.reduceLE, Int.reduceToNat, Nat.reduceLT, Nat.reduceLeDiff, Int.reduceEq, Int.reduceNeg, IntKind.bits, Nat.reduceAdd, Nat.reduceMul, Nat.reducePow, Int.reducePow, ini]
      have e1 : ((n % 128 : Int) + 128).toNat = n % 128 + 128 := by omega
      rw [g7, e1, List.append_assoc]
      conv => rhs; rw [putU, if_neg (by omega)]
      rfl
    · simp only [fws, cond_true, cond_false, if_true, if_false, unV, isNil, optI, iV, stepI, evalR, reduceIte, reduceCtorEq, Nat.reduceEqDiff, Int.reduceLT, Int.reduceLE, Int.reduceToNat, Nat.reduceLT, Nat.reduceLeDiff, Int.reduceEq, Int.reduceNeg, IntKind.bits, Nat.reduceAdd, Nat.reduceMul, Nat.reducePow, Int.reducePow, ini, F_leb_PutUr0_W, F_leb_PutUr1_W, F_leb_PutUr2_W, F_leb_PutUr3_W, F_leb_PutUr4_W, F_leb_PutUl0_W, F_leb_PutUr5_W, F_leb_PutUc_W, e0, e3, h]
      exact ⟨trivial, n, v, l, rfl, rfl, by omega, by omega, ha, by simp only [putU]; rw [if_pos (by omega)]⟩

theorem f_leb_PutU {T : Tab} (h : T 12 = some F_leb_PutU) {n : Nat} (hn : n < 18446744073709551616) : FnV T 12 [.int .u64 n] (imm byteE (putU 10 n)) := by
  refine FnV_of rfl ?_
  rw [Ev_fn h rfl]
  simp only [F_leb_PutU, fws, cond_true, cond_false, if_true, if_false, unV, isNil, optI, iV, stepI, evalR, reduceIte, reduceCtorEq, Nat.reduceEqDiff, Int.reduceLT, Int.reduceLE, Int.reduceToNat, Nat.reduceLT, Nat.reduceLeDiff, Int.reduceEq, Int.reduceNeg, IntKind.bits, Nat.reduceAdd, Nat.reduceMul, Nat.reducePow, Int.reducePow, ini, F_leb_PutUr0_W, F_leb_PutUr1_W, F_leb_PutUr2_W, F_leb_PutUr3_W, F_leb_PutUr4_W, F_leb_PutUl0_W, F_leb_PutUr5_W, F_leb_PutUc_W]
  refine W.mono (loop_leb_PutU 9 n [] _ [] _ (by omega) hn (by simp) ?_ ?_ Acc.nil) fun x e hh ⟨g1, n', v2, l', g2, g3, g4, g5, g6, g7⟩ => ?_
  · simp only [fws, cond_true, cond_false, if_true, if_false, unV, isNil, optI, iV, stepI, evalR, reduceIte, reduceCtorEq, Nat.reduceEqDiff, Int.reduceLT, Int.reduceLE, Int.reduceToNat, Nat.reduceLT, Nat.reduceLeDiff, Int.reduceEq, Int.reduceNeg, IntKind.bits, Nat.reduceAdd, Nat.reduceMul, Nat.reducePow, Int.reducePow, ini]
  · simp only [fws, cond_true, cond_false, if_true, if_false, unV, isNil, optI, iV, stepI, evalR, reduceIte, reduceCtorEq, Nat.reduceEqDiff, Int.reduceLT, Int.reduceLE, Int.reduceToNat, Nat.reduceLT, Nat.reduceLeDiff, Int.reduceEq, Int.reduceNeg, IntKind.bits, Nat.reduceAdd, Nat.reduceMul, Nat.reducePow, Int.reducePow, ini]
  subst g1
  obtain ⟨v', H', h1, h2⟩ := g6.byte (x := n') (by omega) (by omega) (by omega)
  have w1 : IntKind.u8.wrap n' = n' := by rw [wrap_u8]; omega
  simp only [fws, cond_true, cond_false, if_true, if_false, unV, isNil, optI, iV, stepI, evalR, reduceIte, reduceCtorEq, Nat.reduceEqDiff, Int.reduceLT, Int.reduceLE, Int.reduceToNat, Nat.reduceLT, Nat.reduceLeDiff, Int.reduceEq, Int.reduceNeg, IntKind.bits, Nat.reduceAdd, Nat.reduceMul, Nat.reducePow, Int.reducePow, ini, fwh, lk, cellsAt, tagOf, spotOf, rdN, spl, fillL, zr, fwi, F_leb_PutUr0_W, F_leb_PutUr1_W, F_leb_PutUr2_W, F_leb_PutUr3_W, F_leb_PutUr4_W, F_leb_PutUl0_W, F_leb_PutUr5_W, F_leb_PutUc_W, g2, g3, w1, srcOf_immV, h1]
  rw [Int.toNat_natCast, g7] at h2
  exact h2.frz (k := 7) (by decide) (by rw [List.nil_append, putU]; split <;> simp)

theorem and127 {x : Int} (h0 : 0 ≤ x) (h1 : x < 256) : Go.bits .and .u8 x 127 = x % 128 := by
  obtain ⟨n, rfl⟩ := Int.eq_ofNat_of_zero_le h0
  have hn : n < 256 := by omega
  have key : ((List.range 256).all fun m => decide (Go.bits .and .u8 (m : Int) 127 = (m : Int) % 128)) = true := by kernel_rfl
  exact of_decide_eq_true (List.all_eq_true.1 key n (by simpa using hn))

theorem loop_leb_PutS {T : Tab} {g : Heap} : ∀ (f : Nat) (n : Int) (l : List UInt8) (v : Value) (H : Heap) (env : Env), -(64 * 128 ^ f) ≤ n → n < 64 * 128 ^ f → -9223372036854775808 ≤ n → n < 9223372036854775808 → l.length + f ≤ 1000 → env 0 = .int .i64 n → env 3 = v → Acc byteE g v H l →
    W T (.loop F_leb_PutSl0) env H fun x e h => x = .exit 0 ∧ ∃ (n' : Int) (v' : Value) (l' : List UInt8), e 0 = .int .i64 n' ∧ e 3 = v' ∧ -64 ≤ n' ∧ n' ≤ 63 ∧ l'.length ≤ 1000 ∧ Acc byteE g v' h l' ∧ l' ++ [UInt8.ofNat (n' % 128).toNat] = l ++ putS (f + 1) n := by
  intro f
  induction f with
  | zero =>
    intro n l v H env h1 h2 _ _ hl e0 e3 ha
    have q1 : ¬ (n < -64) := by omega
    have q2 : ¬ (63 < n) := by omega
    rw [w_loop]
    simp only [fws, cond_true, cond_false, if_true, if_false, unV, isNil, optI, iV, stepI, evalR, reduceIte, reduceCtorEq, Nat.reduceEqDiff, Int.reduceLT, Int.reduceLE, Int.reduceToNat, Nat.reduceLT, Nat.reduceLeDiff, Int.reduceEq, Int.reduceNeg, IntKind.bits, Nat.reduceAdd, Nat.reduceMul, Nat.reducePow, Int.reducePow, ini, F_leb_PutSr0_W, F_leb_PutSr1_W, F_leb_PutSr2_W, F_leb_PutSr2_g2, F_leb_PutSr3_W, F_leb_PutSr4_W, F_leb_PutSl0_W, F_leb_PutSr5_W, F_leb_PutSc_W, F_leb_PutSr0_W, F_leb_PutSr1_W, F_leb_PutSr2_W, F_leb_PutSr2_g2, F_leb_PutSr3_W, F_leb_PutSr4_W, F_leb_PutSl0_W, F_leb_PutSr5_W, F_leb_PutSc_W, e0, e3, q1, q2]
    exact ⟨trivial, n, v, l, rfl, rfl, by omega, by omega, by omega, ha, by simp only [putS]; rw [if_pos (by omega)]⟩
  | succ f ih =>
    intro n l v H env h1 h2 h3 h4 hl e0 e3 ha
    rw [w_loop]
    by_cases h : -64 ≤ n ∧ n ≤ 63
    · have q1 : ¬ (n < -64) := by omega
      have q2 : ¬ (63 < n) := by omega
      simp only [fws, cond_true, cond_false, if_true, if_false, unV, isNil, optI, iV, stepI, evalR, reduceIte, reduceCtorEq, Nat.reduceEqDiff, Int.reduceLT, Int.reduceLE, Int.reduceToNat, Nat.reduceLT, Nat.reduceLeDiff, Int.reduceEq, Int.reduceNeg, IntKind.bits, Nat.reduceAdd, Nat.reduceMul, Nat.reducePow, Int.reducePow, ini, F_leb_PutSr0_W, F_leb_PutSr1_W, F_leb_PutSr2_W, F_leb_PutSr2_g2, F_leb_PutSr3_W, F_leb_PutSr4_W, F_leb_PutSl0_W, F_leb_PutSr5_W, F_leb_PutSc_W, F_leb_PutSr0_W, F_leb_PutSr1_W, F_leb_PutSr2_W, F_leb_PutSr2_g2, F_leb_PutSr3_W, F_leb_PutSr4_W, F_leb_PutSl0_W, F_leb_PutSr5_W, F_leb_PutSc_W, e0, e3, q1, q2]
      exact ⟨trivial, n, v, l, rfl, rfl, by omega, by omega, by omega, ha, by simp only [putS]; rw [if_pos (by omega)]⟩
    · have w1 : Go.bits .or .u8 (IntKind.u8.wrap n) 128 = n % 128 + 128 := by
        rw [wrap_u8, or128 (by omega) (by omega)]
        omega
      have w2 : n.fdiv 128 = n / 128 := by rw [Int.fdiv_eq_ediv_of_nonneg _ (by omega)]
      obtain ⟨v', H', a1, a2⟩ := ha.byte (x := n % 128 + 128) (by omega) (by omega) (by omega)
      have e1 : (n % 128 + 128).toNat = (n % 128).toNat + 128 := by omega
      have hp : (128 : Int) ^ (f + 1) = 128 ^ f * 128 := Int.pow_succ ..
      rw [hp] at h1 h2
      by_cases hq : n < -64
      · simp only [fws, cond_true, cond_false, if_true, if_false, unV, isNil, optI, iV, stepI, evalR, reduceIte, reduceCtorEq, Nat.reduceEqDiff, Int.reduceLT, Int.reduceLE, Int.reduceToNat, Nat.reduceLT, Nat.reduceLeDiff, Int.reduceEq, Int.reduceNeg, IntKind.bits, Nat.reduceAdd, Nat.reduceMul, Nat.reducePow, Int.reducePow, ini, fwh, lk, cellsAt, tagOf, spotOf, rdN, spl, fillL, zr, fwi, F_leb_PutSr0_W, F_leb_PutSr1_W, F_leb_PutSr2_W, F_leb_PutSr2_g2, F_leb_PutSr3_W, F_leb_PutSr4_W, F_leb_PutSl0_W, F_leb_PutSr5_W, F_leb_PutSc_W, F_leb_PutSr0_W, F_leb_PutSr1_W, F_leb_PutSr2_W, F_leb_PutSr2_g2, F_leb_PutSr3_W, F_leb_PutSr4_W, F_leb_PutSl0_W, F_leb_PutSr5_W, F_leb_PutSc_W, e0, e3, hq, w1, w2, srcOf_immV, a1]
        refine W.mono (ih (n / 128) _ v' H' _ (by omega) (by omega) (by omega) (by omega) (by simp; omega) ?_ ?_ a2) fun x e hh ⟨g1, n', v2, l', g2, g3, g4, g4', g5, g6, g7⟩ => ⟨g1, n', v2, l', g2, g3, g4, g4', g5, g6, ?_⟩
        · simp only [fws, cond_true, cond_false, if_true, if_false, unV, isNil, optI, iV, stepI, evalR, reduceIte, reduceCtorEq, Nat.reduceEqDiff, Int.reduceLT, Int.reduceLE, Int.reduceToNat, Nat.reduceLT, Nat.reduceLeDiff, Int.reduceEq, Int.reduceNeg, IntKind.bits, Nat.reduceAdd, Nat.reduceMul, Nat.reducePow, Int.reducePow, ini]
        · simp only [fws, cond_true, cond_false, if_true, if_false, unV, isNil, optI, iV, stepI, evalR, reduceIte, reduceCtorEq, Nat.reduceEqDiff, Int.reduceLT, Int.reduceLE, Int.reduceToNat, Nat.reduceLT, Nat.reduceLeDiff, Int.reduceEq, Int.reduceNeg, IntKind.bits, Nat.reduceAdd, Nat.reduceMul, Nat.reducePow, Int.reducePow, ini]
        rw [g7, e1, List.append_assoc]
        conv => rhs; rw [putS, if_neg h]
        rfl
      · have q2 : 63 < n := by omega
        simp only [fws, cond_true, cond_false, if_true, if_false, unV, isNil, optI, iV, stepI, evalR, reduceIte, reduceCtorEq, Nat.reduceEqDiff, Int.reduceLT, Int.reduceLE, Int.reduceToNat, Nat.reduceLT, Nat.reduceLeDiff, Int.reduceEq, Int.reduceNeg, IntKind.bits, Nat.reduceAdd, Nat.reduceMul, Nat.reducePow, Int.reducePow, ini, fwh, lk, cellsAt, tagOf, spotOf, rdN, spl, fillL, zr, fwi, F_leb_PutSr0_W, F_leb_PutSr1_W, F_leb_PutSr2_W, F_leb_PutSr2_g2, F_leb_PutSr3_W, F_leb_PutSr4_W, F_leb_PutSl0_W, F_leb_PutSr5_W, F_leb_PutSc_W, F_leb_PutSr0_W, F_leb_PutSr1_W, F_leb_PutSr2_W, F_leb_PutSr2_g2, F_leb_PutSr3_W, F_leb_PutSr4_W, F_leb_PutSl0_W, F_leb_PutSr5_W, F_leb_PutSc_W, e0, e3, hq, q2, w1, w2, srcOf_immV, a1]
        refine W.mono (ih (n / 128) _ v' H' _ (by omega) (by omega) (by omega) (by omega) (by simp; omega) ?_ ?_ a2) fun x e hh ⟨g1, n', v2, l', g2, g3, g4, g4', g5, g6, g7⟩ => ⟨g1, n', v2, l', g2, g3, g4, g4', g5, g6, ?_⟩
        · simp only [fws, cond_true, cond_false, if_true, if_false, unV, isNil, optI, iV, stepI, evalR, reduceIte, reduceCtorEq, Nat.reduceEqDiff, Int.reduceLT, Int.reduceLE, Int.reduceToNat, Nat.reduceLT, Nat.reduceLeDiff, Int.reduceEq, Int.reduceNeg, IntKind.bits, Nat.reduceAdd, Nat.reduceMul, Nat.reducePow, Int.reducePow, ini]
        · simp only [fws, cond_true, cond_false, if_true, if_false, unV, isNil, optI, iV, stepI, evalR, reduceIte, reduceCtorEq, Nat.reduceEqDiff, Int.reduceLT, Int.reduceLE, Int.reduceToNat, Nat.reduceLT, Nat.reduceLeDiff, Int.reduceEq, Int.reduceNeg, IntKind.bits, Nat.reduceAdd, Nat.reduceMul, Nat.reducePow, Int.reducePow, ini]
        rw [g7, e1, List.append_assoc]
        conv => rhs; rw [putS, if_neg h]
        rfl

theorem f_leb_PutS {T : Tab} (h : T 14 = some F_leb_PutS) {n : Int} (h1 : -9223372036854775808 ≤ n) (h2 : n < 9223372036854775808) : FnV T 14 [.int .i64 n] (imm byteE (putS 10 n)) := by
  refine FnV_of rfl ?_
  rw [Ev_fn h rfl]
  simp only [F_leb_PutS, fws, cond_true, cond_false, if_true, if_false, unV, isNil, optI, iV, stepI, evalR, reduceIte, reduceCtorEq, Nat.reduceEqDiff, Int.reduceLT, Int.reduceLE, Int.reduceToNat, Nat.reduceLT, Nat.reduceLeDiff, Int.reduceEq, Int.reduceNeg, IntKind.bits, Nat.reduceAdd, Nat.reduceMul, Nat.reducePow, Int.reducePow, ini, F_leb_PutSr0_W, F_leb_PutSr1_W, F_leb_PutSr2_W, F_leb_PutSr2_g2, F_leb_PutSr3_W, F_leb_PutSr4_W, F_leb_PutSl0_W, F_leb_PutSr5_W, F_leb_PutSc_W, F_leb_PutSr0_W, F_leb_PutSr1_W, F_leb_PutSr2_W, F_leb_PutSr2_g2, F_leb_PutSr3_W, F_leb_PutSr4_W, F_leb_PutSl0_W, F_leb_PutSr5_W, F_leb_PutSc_W]
  refine W.mono (loop_leb_PutS 9 n [] _ [] _ (by omega) (by omega) h1 h2 (by simp) ?_ ?_ Acc.nil) fun x e hh ⟨g1, n', v2, l', g2, g3, g4, g4', g5, g6, g7⟩ => ?_
  · simp only [fws, cond_true, cond_false, if_true, if_false, unV, isNil, optI, iV, stepI, evalR, reduceIte, reduceCtorEq, Nat.reduceEqDiff, Int.reduceLT, Int.reduceLE, Int.reduceToNat, Nat.reduceLT, Nat.reduceLeDiff, Int.reduceEq, Int.reduceNeg, IntKind.bits, Nat.reduceAdd, Nat.reduceMul, Nat.reducePow, Int.reducePow, ini]
  · simp only [fws, cond_true, cond_false, if_true, if_false, unV, isNil, optI, iV, stepI, evalR, reduceIte, reduceCtorEq, Nat.reduceEqDiff, Int.reduceLT, Int.reduceLE, Int.reduceToNat, Nat.reduceLT, Nat.reduceLeDiff, Int.reduceEq, Int.reduceNeg, IntKind.bits, Nat.reduceAdd, Nat.reduceMul, Nat.reducePow, Int.reducePow, ini]
  subst g1
  obtain ⟨v', H', a1, a2⟩ := g6.byte (x := n' % 128) (by omega) (by omega) (by omega)
  have w1 : Go.bits .and .u8 (IntKind.u8.wrap n') 127 = n' % 128 := by
    rw [wrap_u8, and127 (by omega) (by omega)]
    omega
  simp only [fws, cond_true, cond_false, if_true, if_false, unV, isNil, optI, iV, stepI, evalR, reduceIte, reduceCtorEq, Nat.reduceEqDiff, Int.reduceLT, Int.reduceLE, Int.reduceToNat, Nat.reduceLT, Nat.reduceLeDiff, Int.reduceEq, Int.reduceNeg, IntKind.bits, Nat.reduceAdd, Nat.reduceMul, Nat.reducePow, Int.reducePow, ini, fwh, lk, cellsAt, tagOf, spotOf, rdN, spl, fillL, zr, fwi, F_leb_PutSr0_W, F_leb_PutSr1_W, F_leb_PutSr2_W, F_leb_PutSr2_g2, F_leb_PutSr3_W, F_leb_PutSr4_W, F_leb_PutSl0_W, F_leb_PutSr5_W, F_leb_PutSc_W, F_leb_PutSr0_W, F_leb_PutSr1_W, F_leb_PutSr2_W, F_leb_PutSr2_g2, F_leb_PutSr3_W, F_leb_PutSr4_W, F_leb_PutSl0_W, F_leb_PutSr5_W, F_leb_PutSc_W, g2, g3, w1, srcOf_immV, a1]
  rw [g7] at a2
  exact a2.frz (k := 7) (by decide) (by rw [List.nil_append, putS]; split <;> simp)

theorem ev_leb_PutS {T : Tab} (h : T 14 = some F_leb_PutS) {n : Int} (h1 : -9223372036854775808 ≤ n) (h2 : n < 9223372036854775808) (H : Heap) : Ev T 14 [.int .i64 n] H fun v h' => Acc byteE H v h' (putS 10 n) := by
  rw [Ev_fn h rfl]
  simp only [F_leb_PutS, fws, cond_true, cond_false, if_true, if_false, unV, isNil, optI, iV, stepI, evalR, reduceIte, reduceCtorEq, Nat.reduceEqDiff, Int.reduceLT, Int.reduceLE, Int.reduceToNat, Nat.reduceLT, Nat.reduceLeDiff, Int.reduceEq, Int.reduceNeg, IntKind.bits, Nat.reduceAdd, Nat.reduceMul, Nat.reducePow, Int.reducePow, ini, F_leb_PutSr0_W, F_leb_PutSr1_W, F_leb_PutSr2_W, F_leb_PutSr2_g2, F_leb_PutSr3_W, F_leb_PutSr4_W, F_leb_PutSl0_W, F_leb_PutSr5_W, F_leb_PutSc_W, F_leb_PutSr0_W, F_leb_PutSr1_W, F_leb_PutSr2_W, F_leb_PutSr2_g2, F_leb_PutSr3_W, F_leb_PutSr4_W, F_leb_PutSl0_W, F_leb_PutSr5_W, F_leb_PutSc_W]
  refine W.mono (loop_leb_PutS (g := H) 9 n [] _ H _ (by omega) (by omega) h1 h2 (by simp) ?_ ?_ Acc.nil) fun x e hh ⟨g1, n', v2, l', g2, g3, g4, g4', g5, g6, g7⟩ => ?_
  · simp only [fws, cond_true, cond_false, if_true, if_false, unV, isNil, optI, iV, stepI, evalR, reduceIte, reduceCtorEq, Nat.reduceEqDiff, Int.reduceLT, Int.reduceLE, Int.reduceToNat, Nat.reduceLT, Nat.reduceLeDiff, Int.reduceEq, Int.reduceNeg, IntKind.bits, Nat.reduceAdd, Nat.reduceMul, Nat.reducePow, Int.reducePow, ini]
  · simp only [fws, cond_true, cond_false, if_true, if_false, unV, isNil, optI, iV, stepI, evalR, reduceIte, reduceCtorEq, Nat.reduceEqDiff, Int.reduceLT, Int.reduceLE, Int.reduceToNat, Nat.reduceLT, Nat.reduceLeDiff, Int.reduceEq, Int.reduceNeg, IntKind.bits, Nat.reduceAdd, Nat.reduceMul, Nat.reducePow, Int.reducePow, ini]
  subst g1
  obtain ⟨v', H', a1, a2⟩ := g6.byte (x := n' % 128) (by omega) (by omega) (by omega)
  have w1 : Go.bits .and .u8 (IntKind.u8.wrap n') 127 = n' % 128 := by
    rw [wrap_u8, and127 (by omega) (by omega)]
    omega
  simp only [fws, cond_true, cond_false, if_true, if_false, unV, isNil, optI, iV, stepI, evalR, reduceIte, reduceCtorEq, Nat.reduceEqDiff, Int.reduceLT, Int.reduceLE, Int.reduceToNat, Nat.reduceLT, Nat.reduceLeDiff, Int.reduceEq, Int.reduceNeg, IntKind.bits, Nat.reduceAdd, Nat.reduceMul, Nat.reducePow, Int.reducePow, ini, fwh, lk, cellsAt, tagOf, spotOf, rdN, spl, fillL, zr, fwi, F_leb_PutSr0_W, F_leb_PutSr1_W, F_leb_PutSr2_W, F_leb_PutSr2_g2, F_leb_PutSr3_W, F_leb_PutSr4_W, F_leb_PutSl0_W, F_leb_PutSr5_W, F_leb_PutSc_W, F_leb_PutSr0_W, F_leb_PutSr1_W, F_leb_PutSr2_W, F_leb_PutSr2_g2, F_leb_PutSr3_W, F_leb_PutSr4_W, F_leb_PutSl0_W, F_leb_PutSr5_W, F_leb_PutSc_W, g2, g3, w1, srcOf_immV, a1]
  rw [List.nil_append] at g7
  rwa [g7] at a2
theorem loop_ref03_PutU {T : Tab} : ∀ (f n : Nat) (l : List UInt8) (v : Value) (H : Heap) (env : Env), n < 128 ^ (f + 1) → n < 18446744073709551616 → l.length + f ≤ 1000 → env 0 = .int .u64 n → env 3 = v → Acc byteE [] v H l →
    W T (.loop F_ref03_PutUl0) env H fun x e h => x = .ret ∧ Acc byteE [] (e 2) h (l ++ putU (f + 1) n) := by
  intro f
  induction f with
  | zero =>
    intro n l v H env hn _ hl e0 e3 ha
    have q0 : (n : Int).tmod 128 = n := by rw [tmodN (by omega)]; omega
    have q1 : (n : Int).tdiv 128 = 0 := by rw [tdivN (by omega)]; omega
    have w1 : IntKind.u8.wrap n = n := by rw [wrap_u8]; omega
    have w2 : IntKind.u64.wrap 0 = 0 := by rw [wrap_u64]; rfl
    obtain ⟨v', H', a1, a2⟩ := ha.byte (x := n) (by omega) (by omega) (by omega)
    rw [w_loop]
    simp only [fws, cond_true, cond_false, if_true, if_false, unV, isNil, optI, iV, stepI, evalR, reduceIte, reduceCtorEq, Nat.reduceEqDiff, Int.reduceLT, Int.reduceLE, Int.reduceToNat, Nat.reduceLT, Nat.reduceLeDiff, Int.reduceEq, Int.reduceNeg, IntKind.bits, Nat.reduceAdd, Nat.reduceMul, Nat.reducePow, Int.reducePow, ini, fwh, lk, cellsAt, tagOf, spotOf, rdN, spl, fillL, zr, fwi, F_ref03_PutUr0_W, F_ref03_PutUr1_W, F_ref03_PutUr2_W, F_ref03_PutUr3_W, F_ref03_PutUr4_W, F_ref03_PutUr5_W, F_ref03_PutUr6_W, F_ref03_PutUl0_W, F_ref03_PutUc_W, e0, e3, q0, q1, w1, w2, srcOf_immV, a1]
    rw [putU, if_pos (by omega)]
    exact ⟨trivial, by simpa using a2⟩
  | succ f ih =>
    intro n l v H env hn h64 hl e0 e3 ha
    have q0 : (n : Int).tmod 128 = ((n % 128 : Nat) : Int) := by rw [tmodN (by omega)]; omega
    have q1 : (n : Int).tdiv 128 = ((n / 128 : Nat) : Int) := by rw [tdivN (by omega)]; omega
    have w1 : IntKind.u8.wrap ((n % 128 : Nat) : Int) = ((n % 128 : Nat) : Int) := by rw [wrap_u8]; omega
    have w2 : IntKind.u64.wrap ((n / 128 : Nat) : Int) = ((n / 128 : Nat) : Int) := by rw [wrap_u64]; omega
    rw [w_loop]
    by_cases h : n < 128
    · have q2 : ((n / 128 : Nat) : Int) = 0 := by omega
      obtain ⟨v', H', a1, a2⟩ := ha.byte (x := ((n % 128 : Nat) : Int)) (by omega) (by omega) (by omega)
      rw [q2] at w2
      simp only [fws, cond_true, cond_false, if_true, if_false, unV, isNil, optI, iV, stepI, evalR, reduceIte, reduceCtorEq, Nat.reduceEqDiff, Int.reduceLT, Int.reduceLE, Int.reduceToNat, Nat.reduceLT, Nat.reduceLeDiff, Int.reduceEq, Int.reduceNeg, IntKind.bits, Nat.reduceAdd, Nat.reduceMul, Nat.reducePow, Int.reducePow, ini, fwh, lk, cellsAt, tagOf, spotOf, rdN, spl, fillL, zr, fwi, F_ref03_PutUr0_W, F_ref03_PutUr1_W, F_ref03_PutUr2_W, F_ref03_PutUr3_W, F_ref03_PutUr4_W, F_ref03_PutUr5_W, F_ref03_PutUr6_W, F_ref03_PutUl0_W, F_ref03_PutUc_W, e0, e3, q0, q1, w1, q2, w2, srcOf_immV, a1]
      rw [putU, if_pos h]
      refine ⟨trivial, ?_⟩
      rw [Int.toNat_natCast, Nat.mod_eq_of_lt h] at a2
      exact a2
    · have q2 : ¬ (((n / 128 : Nat) : Int) = 0) := by omega
      have w3 : IntKind.u8.wrap (((n % 128 : Nat) : Int) + 128) = ((n % 128 : Nat) : Int) + 128 := by rw [wrap_u8]; omega
      obtain ⟨v', H', a1, a2⟩ := ha.byte (x := ((n % 128 : Nat) : Int) + 128) (by omega) (by omega) (by omega)
      simp only [fws, cond_true, cond_false, if_true, if_false, unV, isNil, optI, iV, stepI, evalR, reduceIte, reduceCtorEq, Nat.reduceEqDiff, Int.reduceLT, Int.reduceLE, Int.reduceToNat, Nat.reduceLT, Nat.reduceLeDiff, Int.reduceEq, Int.reduceNeg, IntKind.bits, Nat.reduceAdd, Nat.reduceMul, Nat.reducePow, Int.reducePow, ini, fwh, lk, cellsAt, tagOf, spotOf, rdN, spl, fillL, zr, fwi, F_ref03_PutUr0_W, F_ref03_PutUr1_W, F_ref03_PutUr2_W, F_ref03_PutUr3_W, F_ref03_PutUr4_W, F_ref03_PutUr5_W, F_ref03_PutUr6_W, F_ref03_PutUl0_W, F_ref03_PutUc_W, e0, e3, q0, q1, w1, q2, w2, w3, srcOf_immV, a1]
      refine W.mono (ih (n / 128) _ v' H' _ (by rw [Nat.pow_succ] at hn; omega) (by omega) (by simp; omega) ?_ ?_ a2) fun x e hh ⟨g1, g2⟩ => ⟨g1, ?_⟩
      · simp only [fws, cond_true, cond_false, if_true, if_false, unV, isNil, optI, iV, stepI, evalR, reduceIte, reduceCtorEq, Nat.reduceEqDiff, Int.reduceLT, Int.reduceLE, Int.reduceToNat, Nat.reduceLT, Nat.reduceLeDiff, Int.reduceEq, Int.reduceNeg, IntKind.bits, Nat.reduceAdd, Nat.reduceMul, Nat.reducePow, Int.reducePow, ini]
      · simp only [fws, cond_true, cond_false, if_true, if_false, unV, isNil, optI, iV, stepI, evalR, reduceIte, reduceCtorEq, Nat.reduceEqDiff, Int.reduceLT, Int.reduceLE, Int.reduceToNat, Nat.reduceLT, Nat.reduceLeDiff, Int.reduceEq, Int.reduceNeg, IntKind.bits, Nat.reduceAdd, Nat.reduceMul, Nat.reducePow, Int.reducePow, ini]
      have e1 : (((n % 128 : Nat) : Int) + 128).toNat = n % 128 + 128 := by omega
      rw [e1, List.append_assoc] at g2
      rw [putU, if_neg h]
      exact g2

theorem putU_ne {f n : Nat} : putU (f + 1) n ≠ [] := by rw [putU]; split <;> simp
theorem putS_ne {f : Nat} {n : Int} : putS (f + 1) n ≠ [] := by rw [putS]; split <;> simp
theorem f_ref03_PutU {T : Tab} (h : T 13 = some F_ref03_PutU) {n : Nat} (hn : n < 18446744073709551616) : FnV T 13 [.int .u64 n] (imm byteE (putU 10 n)) := by
  refine FnV_of rfl ?_
  rw [Ev_fn h rfl]
  simp only [F_ref03_PutU, fws, cond_true, cond_false, if_true, if_false, unV, isNil, optI, iV, stepI, evalR, reduceIte, reduceCtorEq, Nat.reduceEqDiff, Int.reduceLT, Int.reduceLE, Int.reduceToNat, Nat.reduceLT, Nat.reduceLeDiff, Int.reduceEq, Int.reduceNeg, IntKind.bits, Nat.reduceAdd, Nat.reduceMul, Nat.reducePow, Int.reducePow, ini, F_ref03_PutUr0_W, F_ref03_PutUr1_W, F_ref03_PutUr2_W, F_ref03_PutUr3_W, F_ref03_PutUr4_W, F_ref03_PutUr5_W, F_ref03_PutUr6_W, F_ref03_PutUl0_W, F_ref03_PutUc_W]
  refine W.mono (loop_ref03_PutU 9 n [] _ [] _ (by omega) hn (by simp) ?_ ?_ Acc.nil) fun x e hh ⟨g1, g2⟩ => ?_
  · simp only [fws, cond_true, cond_false, if_true, if_false, unV, isNil, optI, iV, stepI, evalR, reduceIte, reduceCtorEq, Nat.reduceEqDiff, Int.reduceLT, Int.reduceLE, Int.reduceToNat, Nat.reduceLT, Nat.reduceLeDiff, Int.reduceEq, Int.reduceNeg, IntKind.bits, Nat.reduceAdd, Nat.reduceMul, Nat.reducePow, Int.reducePow, ini]
  · simp only [fws, cond_true, cond_false, if_true, if_false, unV, isNil, optI, iV, stepI, evalR, reduceIte, reduceCtorEq, Nat.reduceEqDiff, Int.reduceLT, Int.reduceLE, Int.reduceToNat, Nat.reduceLT, Nat.reduceLeDiff, Int.reduceEq, Int.reduceNeg, IntKind.bits, Nat.reduceAdd, Nat.reduceMul, Nat.reducePow, Int.reducePow, ini]
  subst g1
  simp only [fws, cond_true, cond_false, if_true, if_false, unV, isNil, optI, iV, stepI, evalR, reduceIte, reduceCtorEq, Nat.reduceEqDiff, Int.reduceLT, Int.reduceLE, Int.reduceToNat, Nat.reduceLT, Nat.reduceLeDiff, Int.reduceEq, Int.reduceNeg, IntKind.bits, Nat.reduceAdd, Nat.reduceMul, Nat.reducePow, Int.reducePow, ini]
  exact g2.frz (k := 7) (by decide) putU_ne
end Go.Proofs.Ytdkdifjjpbfohaa
