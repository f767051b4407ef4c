/- NumHex: the document's, and the law. -/
import Derived.Test.YtiekjbejgmdkkaaNumD
namespace Go.Proofs.Ytiekjbejgmdkkaa
open Go Fw
set_option linter.unusedSimpArgs false
set_option linter.unusedVariables false

theorem inner_ref01 {T : Tab} (s : List UInt8) (i h : Nat) (hix : i < s.length) : ∀ (m d : Nat) (env : Env), d + m = digV s[i] → env 0 = strV s → env 4 = .int .u64 h → env 5 = .int .i64 i → env 6 = .int .u64 d →
    W T (.loop F_ref01_ParseHexl1) env [] fun x e h' => x = .exit 2 ∧ h' = [] ∧ e 0 = strV s ∧ e 4 = .int .u64 h ∧ e 5 = .int .i64 i ∧ e 6 = .int .u64 (digV s[i]) := by
  have h1 : ((i : Int) < s.length) := by omega
  have h0 : (0 : Int) ≤ i := Int.natCast_nonneg _
  have hget : s.getD i 0 = s[i] := by rw [List.getD_eq_getElem?_getD, List.getElem?_eq_getElem hix]; rfl
  have hle := digV_le s[i]
  intro m
  induction m with
  | zero =>
    intro d env hd v0 v4 v5 v6
    rw [w_loop]
    by_cases h16 : d = 16
    · have q : ¬ ((d : Int) < 16) := by omega
      simp only [fws, cond_true, cond_false, if_true, if_false, unV, isNil, optI, iV, stepI, evalR, reduceIte, reduceCtorEq, Nat.reduceEqDiff, Int.reduceLT, Int.reduceLE, Int.reduceToNat, Nat.reduceLT, Nat.reduceLeDiff, Int.reduceEq, Int.reduceNeg, IntKind.bits, Nat.reduceAdd, Nat.reduceMul, Nat.reducePow, Int.reducePow, ini, fwi, F_ref01_ParseHexr0_W, F_ref01_ParseHexr1_W, F_ref01_ParseHexr2_W, F_ref01_ParseHexr2_g3, F_ref01_ParseHexr2_g8, F_ref01_ParseHexr2_g13, F_ref01_ParseHexr3_W, F_ref01_ParseHexr4_W, F_ref01_ParseHexr5_W, F_ref01_ParseHexr7_W, F_ref01_ParseHexr8_g2, F_ref01_ParseHexr8_W, F_ref01_ParseHexr9_W, F_ref01_ParseHexl1_W, F_ref01_ParseHexr10_W, F_ref01_ParseHexr11_W, F_ref01_ParseHexr12_W, F_ref01_ParseHexr6_W, F_ref01_ParseHexl0_W, F_ref01_ParseHexr13_W, F_ref01_ParseHexr14_W, F_ref01_ParseHexr15_W, F_ref01_ParseHexc_W, v0, v4, v5, v6, q]
      refine ⟨trivial, trivial, trivial, trivial, trivial, by rw [← hd]; rfl⟩
    · have q : ((d : Int) < 16) := by omega
      have q0 : (0 : Int) ≤ (d : Int) := by omega
      have q1 : (d : Int) < ((hexT.length : Nat) : Int) := q
      have he : decide ((([48, 49, 50, 51, 52, 53, 54, 55, 56, 57, 97, 98, 99, 100, 101, 102].getD d 0 : UInt8).toNat : Int) = (s[i]).toNat) = true := by
        have : hexC d = s[i] := (hexC_ne (by omega)).2 (by omega)
        unfold hexC at this
        rw [this]; simp
      simp only [fws, cond_true, cond_false, if_true, if_false, unV, isNil, optI, iV, stepI, evalR, reduceIte, reduceCtorEq, Nat.reduceEqDiff, Int.reduceLT, Int.reduceLE, Int.reduceToNat, Nat.reduceLT, Nat.reduceLeDiff, Int.reduceEq, Int.reduceNeg, IntKind.bits, Nat.reduceAdd, Nat.reduceMul, Nat.reducePow, Int.reducePow, ini, fwi, F_ref01_ParseHexr0_W, F_ref01_ParseHexr1_W, F_ref01_ParseHexr2_W, F_ref01_ParseHexr2_g3, F_ref01_ParseHexr2_g8, F_ref01_ParseHexr2_g13, F_ref01_ParseHexr3_W, F_ref01_ParseHexr4_W, F_ref01_ParseHexr5_W, F_ref01_ParseHexr7_W, F_ref01_ParseHexr8_g2, F_ref01_ParseHexr8_W, F_ref01_ParseHexr9_W, F_ref01_ParseHexl1_W, F_ref01_ParseHexr10_W, F_ref01_ParseHexr11_W, F_ref01_ParseHexr12_W, F_ref01_ParseHexr6_W, F_ref01_ParseHexl0_W, F_ref01_ParseHexr13_W, F_ref01_ParseHexr14_W, F_ref01_ParseHexr15_W, F_ref01_ParseHexc_W, v0, v4, v5, v6, q, q0, q1, h0, h1, hget, and_self, he]
      refine ⟨trivial, trivial, trivial, trivial, trivial, by rw [← hd]; rfl⟩
  | succ m ih =>
    intro d env hd v0 v4 v5 v6
    have q : ((d : Int) < 16) := by omega
    have q0 : (0 : Int) ≤ (d : Int) := by omega
    have q1 : (d : Int) < ((hexT.length : Nat) : Int) := q
    have he : decide ((([48, 49, 50, 51, 52, 53, 54, 55, 56, 57, 97, 98, 99, 100, 101, 102].getD d 0 : UInt8).toNat : Int) = (s[i]).toNat) = false := by
      rw [decide_eq_false_iff_not]
      intro h
      have h2 : hexC d = s[i] := UInt8.toNat_inj.1 (by unfold hexC; exact_mod_cast h)
      have := (hexC_ne (by omega)).1 h2
      omega
    have w : IntKind.u64.wrap ((d : Int) + 1) = ((d + 1 : Nat) : Int) := by rw [wrap_u64]; omega
    rw [w_loop]
    simp only [fws, cond_true, cond_false, if_true, if_false, unV, isNil, optI, iV, stepI, evalR, reduceIte, reduceCtorEq, Nat.reduceEqDiff, Int.reduceLT, Int.reduceLE, Int.reduceToNat, Nat.reduceLT, Nat.reduceLeDiff, Int.reduceEq, Int.reduceNeg, IntKind.bits, Nat.reduceAdd, Nat.reduceMul, Nat.reducePow, Int.reducePow, ini, fwi, F_ref01_ParseHexr0_W, F_ref01_ParseHexr1_W, F_ref01_ParseHexr2_W, F_ref01_ParseHexr2_g3, F_ref01_ParseHexr2_g8, F_ref01_ParseHexr2_g13, F_ref01_ParseHexr3_W, F_ref01_ParseHexr4_W, F_ref01_ParseHexr5_W, F_ref01_ParseHexr7_W, F_ref01_ParseHexr8_g2, F_ref01_ParseHexr8_W, F_ref01_ParseHexr9_W, F_ref01_ParseHexl1_W, F_ref01_ParseHexr10_W, F_ref01_ParseHexr11_W, F_ref01_ParseHexr12_W, F_ref01_ParseHexr6_W, F_ref01_ParseHexl0_W, F_ref01_ParseHexr13_W, F_ref01_ParseHexr14_W, F_ref01_ParseHexr15_W, F_ref01_ParseHexc_W, v0, v4, v5, v6, q, q0, q1, h0, h1, hget, and_self, he, w]
    refine ih (d + 1) _ (by omega) ?_ ?_ ?_ ?_
    all_goals (first | (simp only [fws, cond_true, cond_false, if_true, if_false, unV, isNil, optI, iV, stepI, evalR, reduceIte, reduceCtorEq, Nat.reduceEqDiff, Int.reduceLT, Int.reduceLE, Int.reduceToNat, Nat.reduceLT, Nat.reduceLeDiff, Int.reduceEq, Int.reduceNeg, IntKind.bits, Nat.reduceAdd, Nat.reduceMul, Nat.reducePow, Int.reducePow, ini, *]; done) | (simp only [fws, cond_true, cond_false, if_true, if_false, unV, isNil, optI, iV, stepI, evalR, reduceIte, reduceCtorEq, Nat.reduceEqDiff, Int.reduceLT, Int.reduceLE, Int.reduceToNat, Nat.reduceLT, Nat.reduceLeDiff, Int.reduceEq, Int.reduceNeg, IntKind.bits, Nat.reduceAdd, Nat.reduceMul, Nat.reducePow, Int.reducePow, ini]; rfl))
theorem loop_ref01_ParseHex {T : Tab} (s : List UInt8) (hl : s.length ≤ 18) : ∀ (m i h : Nat) (env : Env), i + m = s.length → 2 ≤ i → h < 16 ^ (i - 2) → env 0 = strV s → env 4 = .int .u64 h → env 5 = .int .i64 i →
    W T (.loop F_ref01_ParseHexl0) env [] fun x e h' => h' = [] ∧ if okH (s.drop i) = true then x = .exit 0 ∧ e 0 = strV s ∧ e 4 = .int .u64 (valH (s.drop i) h) else x = .ret ∧ e 2 = .int .u64 0 ∧ e 3 = .int .i64 12 := by
  intro m
  induction m with
  | zero =>
    intro i h env hi h2 hh v0 v4 v5
    have h1 : ¬ ((i : Int) < s.length) := by omega
    rw [w_loop, List.drop_of_length_le (by omega)]
    simp only [fws, cond_true, cond_false, if_true, if_false, unV, isNil, optI, iV, stepI, evalR, reduceIte, reduceCtorEq, Nat.reduceEqDiff, Int.reduceLT, Int.reduceLE, Int.reduceToNat, Nat.reduceLT, Nat.reduceLeDiff, Int.reduceEq, Int.reduceNeg, IntKind.bits, Nat.reduceAdd, Nat.reduceMul, Nat.reducePow, Int.reducePow, ini, F_ref01_ParseHexr0_W, F_ref01_ParseHexr1_W, F_ref01_ParseHexr2_W, F_ref01_ParseHexr2_g3, F_ref01_ParseHexr2_g8, F_ref01_ParseHexr2_g13, F_ref01_ParseHexr3_W, F_ref01_ParseHexr4_W, F_ref01_ParseHexr5_W, F_ref01_ParseHexr7_W, F_ref01_ParseHexr8_g2, F_ref01_ParseHexr8_W, F_ref01_ParseHexr9_W, F_ref01_ParseHexl1_W, F_ref01_ParseHexr10_W, F_ref01_ParseHexr11_W, F_ref01_ParseHexr12_W, F_ref01_ParseHexr6_W, F_ref01_ParseHexl0_W, F_ref01_ParseHexr13_W, F_ref01_ParseHexr14_W, F_ref01_ParseHexr15_W, F_ref01_ParseHexc_W, v0, v4, v5, lenI_str, h1]
    exact ⟨trivial, trivial, trivial, rfl⟩
  | succ m ih =>
    intro i h env hi h2 hh v0 v4 v5
    have h1 : ((i : Int) < s.length) := by omega
    have hix : i < s.length := by omega
    have w2 : IntKind.i64.wrap ((i : Int) + 1) = ((i + 1 : Nat) : Int) := by rw [wrapI64 (by omega) (by omega)]; rfl
    have hdr : s.drop i = s[i] :: s.drop (i + 1) := List.drop_eq_getElem_cons hix
    have hle := digV_le s[i]
    have hok : okH (s.drop i) = (decide (digV s[i] < 16) && okH (s.drop (i + 1))) := by rw [hdr]; rfl
    have hvl : valH (s.drop i) h = valH (s.drop (i + 1)) (h * 16 + digV s[i]) := by rw [hdr]; rfl
    rw [w_loop]
    simp only [fws, cond_true, cond_false, if_true, if_false, unV, isNil, optI, iV, stepI, evalR, reduceIte, reduceCtorEq, Nat.reduceEqDiff, Int.reduceLT, Int.reduceLE, Int.reduceToNat, Nat.reduceLT, Nat.reduceLeDiff, Int.reduceEq, Int.reduceNeg, IntKind.bits, Nat.reduceAdd, Nat.reduceMul, Nat.reducePow, Int.reducePow, ini, fwi, F_ref01_ParseHexr0_W, F_ref01_ParseHexr1_W, F_ref01_ParseHexr2_W, F_ref01_ParseHexr2_g3, F_ref01_ParseHexr2_g8, F_ref01_ParseHexr2_g13, F_ref01_ParseHexr3_W, F_ref01_ParseHexr4_W, F_ref01_ParseHexr5_W, F_ref01_ParseHexr7_W, F_ref01_ParseHexr8_g2, F_ref01_ParseHexr8_W, F_ref01_ParseHexr9_W, F_ref01_ParseHexr10_W, F_ref01_ParseHexr11_W, F_ref01_ParseHexr12_W, F_ref01_ParseHexr6_W, F_ref01_ParseHexl0_W, F_ref01_ParseHexr13_W, F_ref01_ParseHexr14_W, F_ref01_ParseHexr15_W, F_ref01_ParseHexc_W, v0, v4, v5, lenI_str, h1]
    refine W.mono (inner_ref01 s i h hix (digV s[i]) 0 _ (Nat.zero_add _) ?_ ?_ ?_ ?_) fun x e h' ⟨g0, g1, g2, g3, g4, g5⟩ => ?_
    · (first | (simp only [fws, cond_true, cond_false, if_true, if_false, unV, isNil, optI, iV, stepI, evalR, reduceIte, reduceCtorEq, Nat.reduceEqDiff, Int.reduceLT, Int.reduceLE, Int.reduceToNat, Nat.reduceLT, Nat.reduceLeDiff, Int.reduceEq, Int.reduceNeg, IntKind.bits, Nat.reduceAdd, Nat.reduceMul, Nat.reducePow, Int.reducePow, ini, *]; done) | (simp only [fws, cond_true, cond_false, if_true, if_false, unV, isNil, optI, iV, stepI, evalR, reduceIte, reduceCtorEq, Nat.reduceEqDiff, Int.reduceLT, Int.reduceLE, Int.reduceToNat, Nat.reduceLT, Nat.reduceLeDiff, Int.reduceEq, Int.reduceNeg, IntKind.bits, Nat.reduceAdd, Nat.reduceMul, Nat.reducePow, Int.reducePow, ini]; rfl))
    · (first | (simp only [fws, cond_true, cond_false, if_true, if_false, unV, isNil, optI, iV, stepI, evalR, reduceIte, reduceCtorEq, Nat.reduceEqDiff, Int.reduceLT, Int.reduceLE, Int.reduceToNat, Nat.reduceLT, Nat.reduceLeDiff, Int.reduceEq, Int.reduceNeg, IntKind.bits, Nat.reduceAdd, Nat.reduceMul, Nat.reducePow, Int.reducePow, ini, *]; done) | (simp only [fws, cond_true, cond_false, if_true, if_false, unV, isNil, optI, iV, stepI, evalR, reduceIte, reduceCtorEq, Nat.reduceEqDiff, Int.reduceLT, Int.reduceLE, Int.reduceToNat, Nat.reduceLT, Nat.reduceLeDiff, Int.reduceEq, Int.reduceNeg, IntKind.bits, Nat.reduceAdd, Nat.reduceMul, Nat.reducePow, Int.reducePow, ini]; rfl))
    · (first | (simp only [fws, cond_true, cond_false, if_true, if_false, unV, isNil, optI, iV, stepI, evalR, reduceIte, reduceCtorEq, Nat.reduceEqDiff, Int.reduceLT, Int.reduceLE, Int.reduceToNat, Nat.reduceLT, Nat.reduceLeDiff, Int.reduceEq, Int.reduceNeg, IntKind.bits, Nat.reduceAdd, Nat.reduceMul, Nat.reducePow, Int.reducePow, ini, *]; done) | (simp only [fws, cond_true, cond_false, if_true, if_false, unV, isNil, optI, iV, stepI, evalR, reduceIte, reduceCtorEq, Nat.reduceEqDiff, Int.reduceLT, Int.reduceLE, Int.reduceToNat, Nat.reduceLT, Nat.reduceLeDiff, Int.reduceEq, Int.reduceNeg, IntKind.bits, Nat.reduceAdd, Nat.reduceMul, Nat.reducePow, Int.reducePow, ini]; rfl))
    · (first | (simp only [fws, cond_true, cond_false, if_true, if_false, unV, isNil, optI, iV, stepI, evalR, reduceIte, reduceCtorEq, Nat.reduceEqDiff, Int.reduceLT, Int.reduceLE, Int.reduceToNat, Nat.reduceLT, Nat.reduceLeDiff, Int.reduceEq, Int.reduceNeg, IntKind.bits, Nat.reduceAdd, Nat.reduceMul, Nat.reducePow, Int.reducePow, ini, *]; done) | (simp only [fws, cond_true, cond_false, if_true, if_false, unV, isNil, optI, iV, stepI, evalR, reduceIte, reduceCtorEq, Nat.reduceEqDiff, Int.reduceLT, Int.reduceLE, Int.reduceToNat, Nat.reduceLT, Nat.reduceLeDiff, Int.reduceEq, Int.reduceNeg, IntKind.bits, Nat.reduceAdd, Nat.reduceMul, Nat.reducePow, Int.reducePow, ini]; rfl))
    subst g0; subst g1
    by_cases h16 : digV s[i] = 16
    · have hz : decide ((digV s[i] : Int) = 16) = true := by simp; omega
      have hf : okH (s.drop i) = false := by rw [hok]; simp; omega
      rw [hf]
      simp only [fws, cond_true, cond_false, if_true, if_false, unV, isNil, optI, iV, stepI, evalR, reduceIte, reduceCtorEq, Nat.reduceEqDiff, Int.reduceLT, Int.reduceLE, Int.reduceToNat, Nat.reduceLT, Nat.reduceLeDiff, Int.reduceEq, Int.reduceNeg, IntKind.bits, Nat.reduceAdd, Nat.reduceMul, Nat.reducePow, Int.reducePow, ini, fwi, F_ref01_ParseHexr0_W, F_ref01_ParseHexr1_W, F_ref01_ParseHexr2_W, F_ref01_ParseHexr2_g3, F_ref01_ParseHexr2_g8, F_ref01_ParseHexr2_g13, F_ref01_ParseHexr3_W, F_ref01_ParseHexr4_W, F_ref01_ParseHexr5_W, F_ref01_ParseHexr7_W, F_ref01_ParseHexr8_g2, F_ref01_ParseHexr8_W, F_ref01_ParseHexr9_W, F_ref01_ParseHexl1_W, F_ref01_ParseHexr10_W, F_ref01_ParseHexr11_W, F_ref01_ParseHexr12_W, F_ref01_ParseHexr6_W, F_ref01_ParseHexl0_W, F_ref01_ParseHexr13_W, F_ref01_ParseHexr14_W, F_ref01_ParseHexr15_W, F_ref01_ParseHexc_W, g2, g3, g4, g5, hz, and_self, Bool.false_eq_true, if_false]
    · have hz : decide ((digV s[i] : Int) = 16) = false := by simp; omega
      have hp : 16 ^ (i - 2) ≤ 16 ^ 15 := Nat.pow_le_pow_right (by decide) (by omega)
      have hh2 : h * 16 + 16 ≤ 18446744073709551616 := by
        have : (16 : Nat) ^ 15 = 1152921504606846976 := by decide
        omega
      have w3 : IntKind.u64.wrap (IntKind.u64.wrap ((h : Int) * 16) + (digV s[i] : Int)) = ((h * 16 + digV s[i] : Nat) : Int) := by rw [wrap_u64, wrap_u64]; omega
      have hok2 : okH (s.drop i) = okH (s.drop (i + 1)) := by rw [hok]; simp; omega
      rw [hok2, hvl]
      simp only [fws, cond_true, cond_false, if_true, if_false, unV, isNil, optI, iV, stepI, evalR, reduceIte, reduceCtorEq, Nat.reduceEqDiff, Int.reduceLT, Int.reduceLE, Int.reduceToNat, Nat.reduceLT, Nat.reduceLeDiff, Int.reduceEq, Int.reduceNeg, IntKind.bits, Nat.reduceAdd, Nat.reduceMul, Nat.reducePow, Int.reducePow, ini, fwi, F_ref01_ParseHexr0_W, F_ref01_ParseHexr1_W, F_ref01_ParseHexr2_W, F_ref01_ParseHexr2_g3, F_ref01_ParseHexr2_g8, F_ref01_ParseHexr2_g13, F_ref01_ParseHexr3_W, F_ref01_ParseHexr4_W, F_ref01_ParseHexr5_W, F_ref01_ParseHexr7_W, F_ref01_ParseHexr8_g2, F_ref01_ParseHexr8_W, F_ref01_ParseHexr9_W, F_ref01_ParseHexl1_W, F_ref01_ParseHexr10_W, F_ref01_ParseHexr11_W, F_ref01_ParseHexr12_W, F_ref01_ParseHexr6_W, F_ref01_ParseHexl0_W, F_ref01_ParseHexr13_W, F_ref01_ParseHexr14_W, F_ref01_ParseHexr15_W, F_ref01_ParseHexc_W, g2, g3, g4, g5, hz, w3, w2]
      refine W.mono (ih (i + 1) (h * 16 + digV s[i]) _ (by omega) (by omega) ?_ ?_ ?_ ?_) fun x e h hq => hq
      · rw [show i + 1 - 2 = (i - 2) + 1 by omega, Nat.pow_succ]; omega
      · (first | (simp only [fws, cond_true, cond_false, if_true, if_false, unV, isNil, optI, iV, stepI, evalR, reduceIte, reduceCtorEq, Nat.reduceEqDiff, Int.reduceLT, Int.reduceLE, Int.reduceToNat, Nat.reduceLT, Nat.reduceLeDiff, Int.reduceEq, Int.reduceNeg, IntKind.bits, Nat.reduceAdd, Nat.reduceMul, Nat.reducePow, Int.reducePow, ini, *]; done) | (simp only [fws, cond_true, cond_false, if_true, if_false, unV, isNil, optI, iV, stepI, evalR, reduceIte, reduceCtorEq, Nat.reduceEqDiff, Int.reduceLT, Int.reduceLE, Int.reduceToNat, Nat.reduceLT, Nat.reduceLeDiff, Int.reduceEq, Int.reduceNeg, IntKind.bits, Nat.reduceAdd, Nat.reduceMul, Nat.reducePow, Int.reducePow, ini]; rfl))
      · (first | (simp only [fws, cond_true, cond_false, if_true, if_false, unV, isNil, optI, iV, stepI, evalR, reduceIte, reduceCtorEq, Nat.reduceEqDiff, Int.reduceLT, Int.reduceLE, Int.reduceToNat, Nat.reduceLT, Nat.reduceLeDiff, Int.reduceEq, Int.reduceNeg, IntKind.bits, Nat.reduceAdd, Nat.reduceMul, Nat.reducePow, Int.reducePow, ini, *]; done) | (simp only [fws, cond_true, cond_false, if_true, if_false, unV, isNil, optI, iV, stepI, evalR, reduceIte, reduceCtorEq, Nat.reduceEqDiff, Int.reduceLT, Int.reduceLE, Int.reduceToNat, Nat.reduceLT, Nat.reduceLeDiff, Int.reduceEq, Int.reduceNeg, IntKind.bits, Nat.reduceAdd, Nat.reduceMul, Nat.reducePow, Int.reducePow, ini]; rfl))
      · (first | (simp only [fws, cond_true, cond_false, if_true, if_false, unV, isNil, optI, iV, stepI, evalR, reduceIte, reduceCtorEq, Nat.reduceEqDiff, Int.reduceLT, Int.reduceLE, Int.reduceToNat, Nat.reduceLT, Nat.reduceLeDiff, Int.reduceEq, Int.reduceNeg, IntKind.bits, Nat.reduceAdd, Nat.reduceMul, Nat.reducePow, Int.reducePow, ini, *]; done) | (simp only [fws, cond_true, cond_false, if_true, if_false, unV, isNil, optI, iV, stepI, evalR, reduceIte, reduceCtorEq, Nat.reduceEqDiff, Int.reduceLT, Int.reduceLE, Int.reduceToNat, Nat.reduceLT, Nat.reduceLeDiff, Int.reduceEq, Int.reduceNeg, IntKind.bits, Nat.reduceAdd, Nat.reduceMul, Nat.reducePow, Int.reducePow, ini]; rfl))
theorem f_ref01_ParseHex {T : Tab} (hH : T 30 = some F_ref01_Hex) (h : T 28 = some F_ref01_ParseHex) (s : List UInt8) (hs : s.length ≤ 4096) : FnV T 28 [strV s] (hexR s) := by
  refine FnV_of rfl ?_
  rw [Ev_fn h rfl]
  by_cases h3 : s.length < 3
  · have q : ((s.length : Int) < 3) := by omega
    have hk : hexOk s = false := by unfold hexOk; simp; omega
    rw [show hexR s = .tuple #[.int .u64 0, .int .i64 12] from if_neg (by rw [hk]; decide)]
    simp only [F_ref01_ParseHex, fws, cond_true, cond_false, if_true, if_false, unV, isNil, optI, iV, stepI, evalR, reduceIte, reduceCtorEq, Nat.reduceEqDiff, Int.reduceLT, Int.reduceLE, Int.reduceToNat, Nat.reduceLT, Nat.reduceLeDiff, Int.reduceEq, Int.reduceNeg, IntKind.bits, Nat.reduceAdd, Nat.reduceMul, Nat.reducePow, Int.reducePow, ini, fwi, F_ref01_ParseHexr0_W, F_ref01_ParseHexr1_W, F_ref01_ParseHexr2_W, F_ref01_ParseHexr2_g3, F_ref01_ParseHexr2_g8, F_ref01_ParseHexr2_g13, F_ref01_ParseHexr3_W, F_ref01_ParseHexr4_W, F_ref01_ParseHexr5_W, F_ref01_ParseHexr7_W, F_ref01_ParseHexr8_g2, F_ref01_ParseHexr8_W, F_ref01_ParseHexr9_W, F_ref01_ParseHexl1_W, F_ref01_ParseHexr10_W, F_ref01_ParseHexr11_W, F_ref01_ParseHexr12_W, F_ref01_ParseHexr6_W, F_ref01_ParseHexl0_W, F_ref01_ParseHexr13_W, F_ref01_ParseHexr14_W, F_ref01_ParseHexr15_W, F_ref01_ParseHexc_W, lenI_str, q]
    rfl
  · have q : ¬ ((s.length : Int) < 3) := by omega
    by_cases h18 : 18 < s.length
    · have q2 : ((18 : Int) < s.length) := by omega
      have hk : hexOk s = false := by unfold hexOk; simp; omega
      rw [show hexR s = .tuple #[.int .u64 0, .int .i64 12] from if_neg (by rw [hk]; decide)]
      simp only [F_ref01_ParseHex, fws, cond_true, cond_false, if_true, if_false, unV, isNil, optI, iV, stepI, evalR, reduceIte, reduceCtorEq, Nat.reduceEqDiff, Int.reduceLT, Int.reduceLE, Int.reduceToNat, Nat.reduceLT, Nat.reduceLeDiff, Int.reduceEq, Int.reduceNeg, IntKind.bits, Nat.reduceAdd, Nat.reduceMul, Nat.reducePow, Int.reducePow, ini, fwi, F_ref01_ParseHexr0_W, F_ref01_ParseHexr1_W, F_ref01_ParseHexr2_W, F_ref01_ParseHexr2_g3, F_ref01_ParseHexr2_g8, F_ref01_ParseHexr2_g13, F_ref01_ParseHexr3_W, F_ref01_ParseHexr4_W, F_ref01_ParseHexr5_W, F_ref01_ParseHexr7_W, F_ref01_ParseHexr8_g2, F_ref01_ParseHexr8_W, F_ref01_ParseHexr9_W, F_ref01_ParseHexl1_W, F_ref01_ParseHexr10_W, F_ref01_ParseHexr11_W, F_ref01_ParseHexr12_W, F_ref01_ParseHexr6_W, F_ref01_ParseHexl0_W, F_ref01_ParseHexr13_W, F_ref01_ParseHexr14_W, F_ref01_ParseHexr15_W, F_ref01_ParseHexc_W, lenI_str, q, q2]
      rfl
    · have q2 : ¬ ((18 : Int) < s.length) := by omega
      obtain ⟨a, b, c, r, rfl⟩ : ∃ a b c r, s = a :: b :: c :: r := by
        match s, h3 with
        | [], h => exact absurd (by simp) h
        | [_], h => exact absurd (by simp) h
        | [_, _], h => exact absurd (by simp) h
        | a :: b :: c :: r, _ => exact ⟨a, b, c, r, rfl⟩
      have q3 : (0 : Int) < ((a :: b :: c :: r).length : Nat) := by simp; omega
      have q4 : (1 : Int) < ((a :: b :: c :: r).length : Nat) := by simp; omega
      by_cases ha : a = 48
      · have ha1 : decide ((a.toNat : Int) = 48) = true := by rw [ha]; rfl
        by_cases hb : b = 120
        · have hb1 : decide ((b.toNat : Int) = 120) = true := by rw [hb]; rfl
          simp only [F_ref01_ParseHex, fws, cond_true, cond_false, if_true, if_false, unV, isNil, optI, iV, stepI, evalR, reduceIte, reduceCtorEq, Nat.reduceEqDiff, Int.reduceLT, Int.reduceLE, Int.reduceToNat, Nat.reduceLT, Nat.reduceLeDiff, Int.reduceEq, Int.reduceNeg, IntKind.bits, Nat.reduceAdd, Nat.reduceMul, Nat.reducePow, Int.reducePow, ini, fwi, F_ref01_ParseHexr0_W, F_ref01_ParseHexr1_W, F_ref01_ParseHexr2_W, F_ref01_ParseHexr2_g3, F_ref01_ParseHexr2_g8, F_ref01_ParseHexr2_g13, F_ref01_ParseHexr3_W, F_ref01_ParseHexr4_W, F_ref01_ParseHexr5_W, F_ref01_ParseHexr7_W, F_ref01_ParseHexr8_g2, F_ref01_ParseHexr8_W, F_ref01_ParseHexr9_W, F_ref01_ParseHexl1_W, F_ref01_ParseHexr10_W, F_ref01_ParseHexr11_W, F_ref01_ParseHexr12_W, F_ref01_ParseHexr6_W, F_ref01_ParseHexl0_W, F_ref01_ParseHexr13_W, F_ref01_ParseHexr14_W, F_ref01_ParseHexr15_W, F_ref01_ParseHexc_W, lenI_str, q, q2, q3, q4, and_self, List.getD_cons_succ, List.getD_cons_zero, ha1, hb1]
          refine W.mono (loop_ref01_ParseHex (a :: b :: c :: r) (by omega) (r.length + 1) 2 0 _ (by simp; omega) (by decide) (by decide) ?_ ?_ ?_) fun x e h ⟨g0, g⟩ => ?_
          · (first | (simp only [fws, cond_true, cond_false, if_true, if_false, unV, isNil, optI, iV, stepI, evalR, reduceIte, reduceCtorEq, Nat.reduceEqDiff, Int.reduceLT, Int.reduceLE, Int.reduceToNat, Nat.reduceLT, Nat.reduceLeDiff, Int.reduceEq, Int.reduceNeg, IntKind.bits, Nat.reduceAdd, Nat.reduceMul, Nat.reducePow, Int.reducePow, ini, *]; done) | (simp only [fws, cond_true, cond_false, if_true, if_false, unV, isNil, optI, iV, stepI, evalR, reduceIte, reduceCtorEq, Nat.reduceEqDiff, Int.reduceLT, Int.reduceLE, Int.reduceToNat, Nat.reduceLT, Nat.reduceLeDiff, Int.reduceEq, Int.reduceNeg, IntKind.bits, Nat.reduceAdd, Nat.reduceMul, Nat.reducePow, Int.reducePow, ini]; rfl))
          · (first | (simp only [fws, cond_true, cond_false, if_true, if_false, unV, isNil, optI, iV, stepI, evalR, reduceIte, reduceCtorEq, Nat.reduceEqDiff, Int.reduceLT, Int.reduceLE, Int.reduceToNat, Nat.reduceLT, Nat.reduceLeDiff, Int.reduceEq, Int.reduceNeg, IntKind.bits, Nat.reduceAdd, Nat.reduceMul, Nat.reducePow, Int.reducePow, ini, *]; done) | (simp only [fws, cond_true, cond_false, if_true, if_false, unV, isNil, optI, iV, stepI, evalR, reduceIte, reduceCtorEq, Nat.reduceEqDiff, Int.reduceLT, Int.reduceLE, Int.reduceToNat, Nat.reduceLT, Nat.reduceLeDiff, Int.reduceEq, Int.reduceNeg, IntKind.bits, Nat.reduceAdd, Nat.reduceMul, Nat.reducePow, Int.reducePow, ini]; rfl))
          · (first | (simp only [fws, cond_true, cond_false, if_true, if_false, unV, isNil, optI, iV, stepI, evalR, reduceIte, reduceCtorEq, Nat.reduceEqDiff, Int.reduceLT, Int.reduceLE, Int.reduceToNat, Nat.reduceLT, Nat.reduceLeDiff, Int.reduceEq, Int.reduceNeg, IntKind.bits, Nat.reduceAdd, Nat.reduceMul, Nat.reducePow, Int.reducePow, ini, *]; done) | (simp only [fws, cond_true, cond_false, if_true, if_false, unV, isNil, optI, iV, stepI, evalR, reduceIte, reduceCtorEq, Nat.reduceEqDiff, Int.reduceLT, Int.reduceLE, Int.reduceToNat, Nat.reduceLT, Nat.reduceLeDiff, Int.reduceEq, Int.reduceNeg, IntKind.bits, Nat.reduceAdd, Nat.reduceMul, Nat.reducePow, Int.reducePow, ini]; rfl))
          subst g0
          subst ha; subst hb
          by_cases hok : okH (((48 : UInt8) :: 120 :: c :: r).drop 2) = true
          · rw [if_pos hok] at g
            obtain ⟨rfl, g1, g2⟩ := g
            have e2 : ((48 : UInt8) :: 120 :: c :: r).drop 2 = c :: r := rfl
            have hok' : okH (c :: r) = true := hok
            rw [e2] at g2
            have hlt : valH (c :: r) 0 < 18446744073709551616 := by
              have h5 := valH_lt (c :: r) 0 0 hok' (by decide)
              have h6 : (16 : Nat) ^ (0 + (c :: r).length) ≤ 16 ^ 16 := Nat.pow_le_pow_right (by decide) (by simp at h18 ⊢; omega)
              exact Nat.lt_of_lt_of_le h5 h6
            have c1 := f_ref01_Hex (T := T) hH hlt
            by_cases hz : c = 48 ∧ r ≠ []
            · have hne : strEq ⟨(48 :: 120 :: hexD 16 (valH (c :: r) 0)).toArray⟩ ⟨(48 :: 120 :: c :: r).toArray⟩ = false := by
                show ((48 :: 120 :: hexD 16 (valH (c :: r) 0)) == (48 :: 120 :: c :: r)) = false
                rw [beq_eq_false_iff_ne]
                intro hh
                have h7 : hexD 16 (valH (c :: r) 0) = c :: r := by simpa using hh
                have h8 := (hexD_noZ 16 (valH (c :: r) 0) hlt).1
                rw [h7] at h8
                have h9 := h8 (by simp [hz.1])
                simp at h9
                exact hz.2 h9
              rw [show hexR (48 :: 120 :: c :: r) = .tuple #[.int .u64 0, .int .i64 12] from if_neg (by
                have hr : 0 < r.length := List.length_pos_iff.2 hz.2
                unfold hexOk; simp [hz.1, hz.2])]
              simp only [fws, cond_true, cond_false, if_true, if_false, unV, isNil, optI, iV, stepI, evalR, reduceIte, reduceCtorEq, Nat.reduceEqDiff, Int.reduceLT, Int.reduceLE, Int.reduceToNat, Nat.reduceLT, Nat.reduceLeDiff, Int.reduceEq, Int.reduceNeg, IntKind.bits, Nat.reduceAdd, Nat.reduceMul, Nat.reducePow, Int.reducePow, ini, fwi, F_ref01_ParseHexr0_W, F_ref01_ParseHexr1_W, F_ref01_ParseHexr2_W, F_ref01_ParseHexr2_g3, F_ref01_ParseHexr2_g8, F_ref01_ParseHexr2_g13, F_ref01_ParseHexr3_W, F_ref01_ParseHexr4_W, F_ref01_ParseHexr5_W, F_ref01_ParseHexr7_W, F_ref01_ParseHexr8_g2, F_ref01_ParseHexr8_W, F_ref01_ParseHexr9_W, F_ref01_ParseHexl1_W, F_ref01_ParseHexr10_W, F_ref01_ParseHexr11_W, F_ref01_ParseHexr12_W, F_ref01_ParseHexr6_W, F_ref01_ParseHexl0_W, F_ref01_ParseHexr13_W, F_ref01_ParseHexr14_W, F_ref01_ParseHexr15_W, F_ref01_ParseHexc_W, g1, g2, CC_of c1, hne]
              rfl
            · have heq : strEq ⟨(48 :: 120 :: hexD 16 (valH (c :: r) 0)).toArray⟩ ⟨(48 :: 120 :: c :: r).toArray⟩ = true := by
                rw [hexD_of 16 (c :: r) (by simp) hok' (fun h => by
                  simp at h
                  by_cases hr : r = []
                  · rw [hr]; rfl
                  · exact absurd ⟨h, hr⟩ hz) (by simp at h18 ⊢; omega)]
                show ((48 :: 120 :: c :: r) == (48 :: 120 :: c :: r)) = true
                simp
              rw [show hexR (48 :: 120 :: c :: r) = .tuple #[.int .u64 (valH (c :: r) 0), .int .i64 0] from if_pos (by
                unfold hexOk
                rw [e2, hok']
                simp at h18 ⊢
                refine ⟨by omega, ?_⟩
                by_cases hc : c = 48
                · right
                  by_cases hr : r = []
                  · exact hr
                  · exact absurd ⟨hc, hr⟩ hz
                · exact .inl hc)]
              simp only [fws, cond_true, cond_false, if_true, if_false, unV, isNil, optI, iV, stepI, evalR, reduceIte, reduceCtorEq, Nat.reduceEqDiff, Int.reduceLT, Int.reduceLE, Int.reduceToNat, Nat.reduceLT, Nat.reduceLeDiff, Int.reduceEq, Int.reduceNeg, IntKind.bits, Nat.reduceAdd, Nat.reduceMul, Nat.reducePow, Int.reducePow, ini, fwi, F_ref01_ParseHexr0_W, F_ref01_ParseHexr1_W, F_ref01_ParseHexr2_W, F_ref01_ParseHexr2_g3, F_ref01_ParseHexr2_g8, F_ref01_ParseHexr2_g13, F_ref01_ParseHexr3_W, F_ref01_ParseHexr4_W, F_ref01_ParseHexr5_W, F_ref01_ParseHexr7_W, F_ref01_ParseHexr8_g2, F_ref01_ParseHexr8_W, F_ref01_ParseHexr9_W, F_ref01_ParseHexl1_W, F_ref01_ParseHexr10_W, F_ref01_ParseHexr11_W, F_ref01_ParseHexr12_W, F_ref01_ParseHexr6_W, F_ref01_ParseHexl0_W, F_ref01_ParseHexr13_W, F_ref01_ParseHexr14_W, F_ref01_ParseHexr15_W, F_ref01_ParseHexc_W, g1, g2, CC_of c1, heq]
              rfl
          · rw [if_neg hok] at g
            obtain ⟨rfl, g, g'⟩ := g
            rw [show hexR (48 :: 120 :: c :: r) = .tuple #[.int .u64 0, .int .i64 12] from if_neg (by unfold hexOk; rw [show okH ((48 :: 120 :: c :: r).drop 2) = false from Bool.eq_false_iff.2 hok, Bool.and_false]; decide)]
            simp only [fws, cond_true, cond_false, if_true, if_false, unV, isNil, optI, iV, stepI, evalR, reduceIte, reduceCtorEq, Nat.reduceEqDiff, Int.reduceLT, Int.reduceLE, Int.reduceToNat, Nat.reduceLT, Nat.reduceLeDiff, Int.reduceEq, Int.reduceNeg, IntKind.bits, Nat.reduceAdd, Nat.reduceMul, Nat.reducePow, Int.reducePow, ini, F_ref01_ParseHexr0_W, F_ref01_ParseHexr1_W, F_ref01_ParseHexr2_W, F_ref01_ParseHexr2_g3, F_ref01_ParseHexr2_g8, F_ref01_ParseHexr2_g13, F_ref01_ParseHexr3_W, F_ref01_ParseHexr4_W, F_ref01_ParseHexr5_W, F_ref01_ParseHexr7_W, F_ref01_ParseHexr8_g2, F_ref01_ParseHexr8_W, F_ref01_ParseHexr9_W, F_ref01_ParseHexl1_W, F_ref01_ParseHexr10_W, F_ref01_ParseHexr11_W, F_ref01_ParseHexr12_W, F_ref01_ParseHexr6_W, F_ref01_ParseHexl0_W, F_ref01_ParseHexr13_W, F_ref01_ParseHexr14_W, F_ref01_ParseHexr15_W, F_ref01_ParseHexc_W, g, g']
            rfl
        · have hb1 : decide ((b.toNat : Int) = 120) = false := by
            rw [decide_eq_false_iff_not]
            intro h
            exact hb (UInt8.toNat_inj.1 (by show b.toNat = 120; omega))
          rw [show hexR (a :: b :: c :: r) = .tuple #[.int .u64 0, .int .i64 12] from if_neg (by unfold hexOk; simp [hb])]
          simp only [F_ref01_ParseHex, fws, cond_true, cond_false, if_true, if_false, unV, isNil, optI, iV, stepI, evalR, reduceIte, reduceCtorEq, Nat.reduceEqDiff, Int.reduceLT, Int.reduceLE, Int.reduceToNat, Nat.reduceLT, Nat.reduceLeDiff, Int.reduceEq, Int.reduceNeg, IntKind.bits, Nat.reduceAdd, Nat.reduceMul, Nat.reducePow, Int.reducePow, ini, fwi, F_ref01_ParseHexr0_W, F_ref01_ParseHexr1_W, F_ref01_ParseHexr2_W, F_ref01_ParseHexr2_g3, F_ref01_ParseHexr2_g8, F_ref01_ParseHexr2_g13, F_ref01_ParseHexr3_W, F_ref01_ParseHexr4_W, F_ref01_ParseHexr5_W, F_ref01_ParseHexr7_W, F_ref01_ParseHexr8_g2, F_ref01_ParseHexr8_W, F_ref01_ParseHexr9_W, F_ref01_ParseHexl1_W, F_ref01_ParseHexr10_W, F_ref01_ParseHexr11_W, F_ref01_ParseHexr12_W, F_ref01_ParseHexr6_W, F_ref01_ParseHexl0_W, F_ref01_ParseHexr13_W, F_ref01_ParseHexr14_W, F_ref01_ParseHexr15_W, F_ref01_ParseHexc_W, lenI_str, q, q2, q3, q4, and_self, List.getD_cons_succ, List.getD_cons_zero, ha1, hb1]
          rfl
      · have ha1 : decide ((a.toNat : Int) = 48) = false := by
          rw [decide_eq_false_iff_not]
          intro h
          exact ha (UInt8.toNat_inj.1 (by show a.toNat = 48; omega))
        rw [show hexR (a :: b :: c :: r) = .tuple #[.int .u64 0, .int .i64 12] from if_neg (by unfold hexOk; simp [ha])]
        simp only [F_ref01_ParseHex, fws, cond_true, cond_false, if_true, if_false, unV, isNil, optI, iV, stepI, evalR, reduceIte, reduceCtorEq, Nat.reduceEqDiff, Int.reduceLT, Int.reduceLE, Int.reduceToNat, Nat.reduceLT, Nat.reduceLeDiff, Int.reduceEq, Int.reduceNeg, IntKind.bits, Nat.reduceAdd, Nat.reduceMul, Nat.reducePow, Int.reducePow, ini, fwi, F_ref01_ParseHexr0_W, F_ref01_ParseHexr1_W, F_ref01_ParseHexr2_W, F_ref01_ParseHexr2_g3, F_ref01_ParseHexr2_g8, F_ref01_ParseHexr2_g13, F_ref01_ParseHexr3_W, F_ref01_ParseHexr4_W, F_ref01_ParseHexr5_W, F_ref01_ParseHexr7_W, F_ref01_ParseHexr8_g2, F_ref01_ParseHexr8_W, F_ref01_ParseHexr9_W, F_ref01_ParseHexl1_W, F_ref01_ParseHexr10_W, F_ref01_ParseHexr11_W, F_ref01_ParseHexr12_W, F_ref01_ParseHexr6_W, F_ref01_ParseHexl0_W, F_ref01_ParseHexr13_W, F_ref01_ParseHexr14_W, F_ref01_ParseHexr15_W, F_ref01_ParseHexc_W, lenI_str, q, q2, q3, q4, and_self, List.getD_cons_succ, List.getD_cons_zero, ha1]
        rfl
theorem hexR_Hex {n : Nat} (hn : n < 18446744073709551616) : hexR (48 :: 120 :: hexD 16 n) = .tuple #[.int .u64 n, .int .i64 0] := by
  have e2 : ((48 : UInt8) :: 120 :: hexD 16 n).drop 2 = hexD 16 n := rfl
  have hv := hexD_val 16 n hn
  have ho := hexD_ok 16 n
  have hz := (hexD_noZ 16 n hn).1
  have hl := hexD_len 16 n
  rw [show hexR (48 :: 120 :: hexD 16 n) = .tuple #[.int .u64 (valH ((48 :: 120 :: hexD 16 n).drop 2) 0), .int .i64 0] from if_pos (by
    unfold hexOk
    rw [e2, ho]
    cases hx : hexD 16 n with
    | nil => exact absurd hx hexD_ne
    | cons c r =>
      rw [hx] at hz hl
      simp at hl ⊢
      refine ⟨by omega, ?_⟩
      by_cases hc : c = 48
      · right
        have := hz (by simp [hc])
        simpa using this
      · exact .inl hc), e2, hv]
theorem law_NumHex {n : Nat} (hn : n < 18446744073709551616) (s : List UInt8) : Ev TNum 9 [.int .u64 n, strV s] [] fun v _ => v = .bool true := by
  rw [Ev_fn rfl rfl]
  by_cases hl : s.length ≤ 4096
  · have q : ¬ ((4096 : Int) < s.length) := by omega
    have hl16 := hexD_len 16 n
    have c1 := f_num_ParseHex (T := TNum) rfl rfl s hl
    have c2 := f_ref01_ParseHex (T := TNum) rfl rfl s hl
    have c3 := f_num_Hex (T := TNum) rfl hn
    have c4 := f_ref01_Hex (T := TNum) rfl hn
    have c5 := f_num_ParseHex (T := TNum) rfl rfl (48 :: 120 :: hexD 16 n) (by simp; omega)
    rw [hexR_Hex hn] at c5
    have hse : strEq ⟨(48 :: 120 :: hexD 16 n).toArray⟩ ⟨(48 :: 120 :: hexD 16 n).toArray⟩ = true := by
      show ((48 :: 120 :: hexD 16 n) == (48 :: 120 :: hexD 16 n)) = true
      simp
    by_cases hk : hexOk s = true
    · rw [show hexR s = .tuple #[.int .u64 (valH (s.drop 2) 0), .int .i64 0] from if_pos hk] at c1 c2
      simp only [F_law01_NumHex, fws, cond_true, cond_false, if_true, if_false, unV, isNil, optI, iV, stepI, evalR, reduceIte, reduceCtorEq, Nat.reduceEqDiff, Int.reduceLT, Int.reduceLE, Int.reduceToNat, Nat.reduceLT, Nat.reduceLeDiff, Int.reduceEq, Int.reduceNeg, IntKind.bits, Nat.reduceAdd, Nat.reduceMul, Nat.reducePow, Int.reducePow, ini, fwh, lk, cellsAt, tagOf, spotOf, rdN, spl, fillL, zr, fwi, F_law01_NumHexr0_W, F_law01_NumHexr1_W, F_law01_NumHexr2_W, F_law01_NumHexr3_W, F_law01_NumHexr4_W, F_law01_NumHexr5_W, F_law01_NumHexr6_W, F_law01_NumHexr6_g5, F_law01_NumHexr6_g10, F_law01_NumHexr6_g15, F_law01_NumHexr6_g20, F_law01_NumHexr6_g24, F_law01_NumHexc_W, lenI_str, q, CC_of c1, CC_of c2, CC_of c3, CC_of c4, CC_of c5, hse, CC_of num_alive]
    · rw [show hexR s = .tuple #[.int .u64 0, .int .i64 12] from if_neg hk] at c1 c2
      simp only [F_law01_NumHex, fws, cond_true, cond_false, if_true, if_false, unV, isNil, optI, iV, stepI, evalR, reduceIte, reduceCtorEq, Nat.reduceEqDiff, Int.reduceLT, Int.reduceLE, Int.reduceToNat, Nat.reduceLT, Nat.reduceLeDiff, Int.reduceEq, Int.reduceNeg, IntKind.bits, Nat.reduceAdd, Nat.reduceMul, Nat.reducePow, Int.reducePow, ini, fwh, lk, cellsAt, tagOf, spotOf, rdN, spl, fillL, zr, fwi, F_law01_NumHexr0_W, F_law01_NumHexr1_W, F_law01_NumHexr2_W, F_law01_NumHexr3_W, F_law01_NumHexr4_W, F_law01_NumHexr5_W, F_law01_NumHexr6_W, F_law01_NumHexr6_g5, F_law01_NumHexr6_g10, F_law01_NumHexr6_g15, F_law01_NumHexr6_g20, F_law01_NumHexr6_g24, F_law01_NumHexc_W, lenI_str, q, CC_of c1, CC_of c2, CC_of c3, CC_of c4, CC_of c5, hse, CC_of num_alive]
  · have q : ((4096 : Int) < s.length) := by omega
    simp only [F_law01_NumHex, fws, cond_true, cond_false, if_true, if_false, unV, isNil, optI, iV, stepI, evalR, reduceIte, reduceCtorEq, Nat.reduceEqDiff, Int.reduceLT, Int.reduceLE, Int.reduceToNat, Nat.reduceLT, Nat.reduceLeDiff, Int.reduceEq, Int.reduceNeg, IntKind.bits, Nat.reduceAdd, Nat.reduceMul, Nat.reducePow, Int.reducePow, ini, fwh, lk, cellsAt, tagOf, spotOf, rdN, spl, fillL, zr, fwi, F_law01_NumHexr0_W, F_law01_NumHexr1_W, F_law01_NumHexr2_W, F_law01_NumHexr3_W, F_law01_NumHexr4_W, F_law01_NumHexr5_W, F_law01_NumHexr6_W, F_law01_NumHexr6_g5, F_law01_NumHexr6_g10, F_law01_NumHexr6_g15, F_law01_NumHexr6_g20, F_law01_NumHexr6_g24, F_law01_NumHexc_W, lenI_str, q]
theorem nat_u64 {n : Int} (h : (Lit.int .u64 n).wf = true) : ∃ m : Nat, n = m ∧ m < 18446744073709551616 := by
  have := u64_of h
  unfold isU64 at this
  exact ⟨n.toNat, by omega, by omega⟩
end Go.Proofs.Ytiekjbejgmdkkaa
