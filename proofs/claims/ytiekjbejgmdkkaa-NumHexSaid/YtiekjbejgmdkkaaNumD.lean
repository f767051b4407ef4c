/- NumHex. -/
import Derived.Test.YtiekjbejgmdkkaaNumC
namespace Go.Proofs.Ytiekjbejgmdkkaa
open Go Fw
set_option linter.unusedSimpArgs false
set_option linter.unusedVariables false

theorem f_ref01_Hex {T : Tab} (h : T 30 = some F_ref01_Hex) {n : Nat} (hn : n < 18446744073709551616) : FnV T 30 [.int .u64 n] (strV (48 :: 120 :: hexD 16 n)) := by
  refine FnV_of rfl ?_
  rw [Ev_fn h rfl]
  have hl := hexD_len 16 n
  simp only [F_ref01_Hex, fws, cond_true, cond_false, if_true, if_false, unV, isNil, optI, iV, stepI, evalR, reduceIte, reduceCtorEq, Nat.reduceEqDiff, Int.reduceLT, Int.reduceLE, Int.reduceToNat, Nat.reduceLT, Nat.reduceLeDiff, Int.reduceEq, Int.reduceNeg, IntKind.bits, Nat.reduceAdd, Nat.reduceMul, Nat.reducePow, Int.reducePow, ini, fwi, F_ref01_Hexr0_W, F_ref01_Hexr1_W, F_ref01_Hexr2_W, F_ref01_Hexr3_W, F_ref01_Hexr3_g2, F_ref01_Hexr4_W, F_ref01_Hexr5_W, F_ref01_Hexl0_W, F_ref01_Hexr6_W, F_ref01_Hexc_W]
  refine W.mono (loop_ref01_Hex 16 n [] _ (by omega) (by decide) (by decide) hn ?_ ?_ ?_) fun x e h ⟨g1, g2, g3⟩ => ?_
  · (first | (simp only [fws, cond_true, cond_false, if_true, if_false, unV, isNil, optI, iV, stepI, evalR, reduceIte, reduceCtorEq, Nat.reduceEqDiff, Int.reduceLT, Int.reduceLE, Int.reduceToNat, Nat.reduceLT, Nat.reduceLeDiff, Int.reduceEq, Int.reduceNeg, IntKind.bits, Nat.reduceAdd, Nat.reduceMul, Nat.reducePow, Int.reducePow, ini, *]; done) | (simp only [fws, cond_true, cond_false, if_true, if_false, unV, isNil, optI, iV, stepI, evalR, reduceIte, reduceCtorEq, Nat.reduceEqDiff, Int.reduceLT, Int.reduceLE, Int.reduceToNat, Nat.reduceLT, Nat.reduceLeDiff, Int.reduceEq, Int.reduceNeg, IntKind.bits, Nat.reduceAdd, Nat.reduceMul, Nat.reducePow, Int.reducePow, ini]; rfl))
  · (first | (simp only [fws, cond_true, cond_false, if_true, if_false, unV, isNil, optI, iV, stepI, evalR, reduceIte, reduceCtorEq, Nat.reduceEqDiff, Int.reduceLT, Int.reduceLE, Int.reduceToNat, Nat.reduceLT, Nat.reduceLeDiff, Int.reduceEq, Int.reduceNeg, IntKind.bits, Nat.reduceAdd, Nat.reduceMul, Nat.reducePow, Int.reducePow, ini, *]; done) | (simp only [fws, cond_true, cond_false, if_true, if_false, unV, isNil, optI, iV, stepI, evalR, reduceIte, reduceCtorEq, Nat.reduceEqDiff, Int.reduceLT, Int.reduceLE, Int.reduceToNat, Nat.reduceLT, Nat.reduceLeDiff, Int.reduceEq, Int.reduceNeg, IntKind.bits, Nat.reduceAdd, Nat.reduceMul, Nat.reducePow, Int.reducePow, ini]; rfl))
  · (first | (simp only [fws, cond_true, cond_false, if_true, if_false, unV, isNil, optI, iV, stepI, evalR, reduceIte, reduceCtorEq, Nat.reduceEqDiff, Int.reduceLT, Int.reduceLE, Int.reduceToNat, Nat.reduceLT, Nat.reduceLeDiff, Int.reduceEq, Int.reduceNeg, IntKind.bits, Nat.reduceAdd, Nat.reduceMul, Nat.reducePow, Int.reducePow, ini, *]; done) | (simp only [fws, cond_true, cond_false, if_true, if_false, unV, isNil, optI, iV, stepI, evalR, reduceIte, reduceCtorEq, Nat.reduceEqDiff, Int.reduceLT, Int.reduceLE, Int.reduceToNat, Nat.reduceLT, Nat.reduceLeDiff, Int.reduceEq, Int.reduceNeg, IntKind.bits, Nat.reduceAdd, Nat.reduceMul, Nat.reducePow, Int.reducePow, ini]; rfl))
  subst g1; subst g2
  rw [if_neg (by simp), List.append_nil] at g3
  have hsz : [(48 : UInt8), 120].length + (hexD 16 n).length ≤ 9223372036854775807 := by simp; omega
  have hap := str_app [48, 120] (hexD 16 n)
  simp only [fws, cond_true, cond_false, if_true, if_false, unV, isNil, optI, iV, stepI, evalR, reduceIte, reduceCtorEq, Nat.reduceEqDiff, Int.reduceLT, Int.reduceLE, Int.reduceToNat, Nat.reduceLT, Nat.reduceLeDiff, Int.reduceEq, Int.reduceNeg, IntKind.bits, Nat.reduceAdd, Nat.reduceMul, Nat.reducePow, Int.reducePow, ini, fwi, F_ref01_Hexr0_W, F_ref01_Hexr1_W, F_ref01_Hexr2_W, F_ref01_Hexr3_W, F_ref01_Hexr3_g2, F_ref01_Hexr4_W, F_ref01_Hexr5_W, F_ref01_Hexl0_W, F_ref01_Hexr6_W, F_ref01_Hexc_W, g3, hsz, hap]
  rfl
theorem lenI_str {H : Heap} {l : List UInt8} : lenI H 0 (strV l) = some (.int .i64 l.length, H) := rfl
theorem or16 {h d : Nat} (hh : h * 16 < 18446744073709551616) (hd : d < 16) : Go.bits .or .u64 (IntKind.u64.wrap ((h : Int) * 16)) (d : Int) = ((h * 16 + d : Nat) : Int) := by
  have w : IntKind.u64.wrap ((h : Int) * 16) = ((h * 16 : Nat) : Int) := by rw [wrap_u64]; omega
  rw [w, (bits_u64 hh (by omega)).2.1]
  have := Nat.two_pow_add_eq_or_of_lt (i := 4) (show d < 2 ^ 4 by omega) h
  rw [Nat.mul_comm] at this
  rw [← this]
theorem loop_num_ParseHex {T : Tab} (hd : T 37 = some F_num_digit) (s : List UInt8) (hl : s.length ≤ 18) : ∀ (m i h : Nat) (env : Env), i + m = s.length → 2 ≤ i → h < 16 ^ (i - 2) → env 0 = strV s → env 4 = .int .u64 h → env 5 = .int .i64 i →
    W T (.loop F_num_ParseHexl0) env [] fun x e h' => h' = [] ∧ if okH (s.drop i) = true then x = .exit 0 ∧ e 4 = .int .u64 (valH (s.drop i) h) else x = .ret ∧ e 2 = .int .u64 0 ∧ e 3 = .int .i64 12 := by
  intro m
  induction m with
  | zero =>
    intro i h env hi h2 hh v0 v4 v5
    have h1 : ¬ ((i : Int) < s.length) := by omega
    rw [w_loop, List.drop_of_length_le (by omega)]
    simp only [fws, cond_true, cond_false, if_true, if_false, unV, isNil, optI, iV, stepI, evalR, reduceIte, reduceCtorEq, Nat.reduceEqDiff, Int.reduceLT, Int.reduceLE, Int.reduceToNat, Nat.reduceLT, Nat.reduceLeDiff, Int.reduceEq, Int.reduceNeg, IntKind.bits, Nat.reduceAdd, Nat.reduceMul, Nat.reducePow, Int.reducePow, ini, F_num_ParseHexr0_W, F_num_ParseHexr1_W, F_num_ParseHexr1_g3, F_num_ParseHexr1_g8, F_num_ParseHexr1_g13, F_num_ParseHexr1_g17, F_num_ParseHexr2_W, F_num_ParseHexr3_W, F_num_ParseHexr4_W, F_num_ParseHexr5_W, F_num_ParseHexr7_W, F_num_ParseHexr8_W, F_num_ParseHexr9_W, F_num_ParseHexr10_W, F_num_ParseHexr6_W, F_num_ParseHexl0_W, F_num_ParseHexr11_W, F_num_ParseHexc_W, v0, v4, v5, lenI_str, h1]
    exact ⟨trivial, trivial, rfl⟩
  | succ m ih =>
    intro i h env hi h2 hh v0 v4 v5
    have h1 : ((i : Int) < s.length) := by omega
    have hix : i < s.length := by omega
    have h0 : (0 : Int) ≤ i := Int.natCast_nonneg _
    have hget : s.getD i 0 = s[i] := by rw [List.getD_eq_getElem?_getD, List.getElem?_eq_getElem hix]; rfl
    have w2 : IntKind.i64.wrap ((i : Int) + 1) = ((i + 1 : Nat) : Int) := by rw [wrapI64 (by omega) (by omega)]; rfl
    have c1 := f_num_digit (T := T) hd s[i]
    have hdr : s.drop i = s[i] :: s.drop (i + 1) := List.drop_eq_getElem_cons hix
    have hle := digV_le s[i]
    have hok : okH (s.drop i) = (decide (digV s[i] < 16) && okH (s.drop (i + 1))) := by rw [hdr]; rfl
    have hvl : valH (s.drop i) h = valH (s.drop (i + 1)) (h * 16 + digV s[i]) := by rw [hdr]; rfl
    rw [w_loop]
    by_cases h16 : digV s[i] = 16
    · have hz : decide ((digV s[i] : Int) = 16) = true := by simp; omega
      rw [hok]
      simp only [fws, cond_true, cond_false, if_true, if_false, unV, isNil, optI, iV, stepI, evalR, reduceIte, reduceCtorEq, Nat.reduceEqDiff, Int.reduceLT, Int.reduceLE, Int.reduceToNat, Nat.reduceLT, Nat.reduceLeDiff, Int.reduceEq, Int.reduceNeg, IntKind.bits, Nat.reduceAdd, Nat.reduceMul, Nat.reducePow, Int.reducePow, ini, fwi, F_num_ParseHexr0_W, F_num_ParseHexr1_W, F_num_ParseHexr1_g3, F_num_ParseHexr1_g8, F_num_ParseHexr1_g13, F_num_ParseHexr1_g17, F_num_ParseHexr2_W, F_num_ParseHexr3_W, F_num_ParseHexr4_W, F_num_ParseHexr5_W, F_num_ParseHexr7_W, F_num_ParseHexr8_W, F_num_ParseHexr9_W, F_num_ParseHexr10_W, F_num_ParseHexr6_W, F_num_ParseHexl0_W, F_num_ParseHexr11_W, F_num_ParseHexc_W, v0, v4, v5, lenI_str, h1, h0, hget, and_self, CC_of c1, hz]
      rw [if_neg (by simp; omega)]
      trivial
    · have hz : decide ((digV s[i] : Int) = 16) = false := by simp; omega
      have hp : 16 ^ (i - 2) ≤ 16 ^ 15 := Nat.pow_le_pow_right (by decide) (by omega)
      have hh2 : h * 16 < 18446744073709551616 := by
        have : (16 : Nat) ^ 15 = 1152921504606846976 := by decide
        omega
      have ho := or16 hh2 (show digV s[i] < 16 by omega)
      have hok2 : okH (s.drop i) = okH (s.drop (i + 1)) := by rw [hok]; simp; omega
      rw [hok2, hvl]
      simp only [fws, cond_true, cond_false, if_true, if_false, unV, isNil, optI, iV, stepI, evalR, reduceIte, reduceCtorEq, Nat.reduceEqDiff, Int.reduceLT, Int.reduceLE, Int.reduceToNat, Nat.reduceLT, Nat.reduceLeDiff, Int.reduceEq, Int.reduceNeg, IntKind.bits, Nat.reduceAdd, Nat.reduceMul, Nat.reducePow, Int.reducePow, ini, fwi, F_num_ParseHexr0_W, F_num_ParseHexr1_W, F_num_ParseHexr1_g3, F_num_ParseHexr1_g8, F_num_ParseHexr1_g13, F_num_ParseHexr1_g17, F_num_ParseHexr2_W, F_num_ParseHexr3_W, F_num_ParseHexr4_W, F_num_ParseHexr5_W, F_num_ParseHexr7_W, F_num_ParseHexr8_W, F_num_ParseHexr9_W, F_num_ParseHexr10_W, F_num_ParseHexr6_W, F_num_ParseHexl0_W, F_num_ParseHexr11_W, F_num_ParseHexc_W, v0, v4, v5, lenI_str, h1, h0, hget, and_self, CC_of c1, hz, ho, w2]
      refine W.mono (ih (i + 1) (h * 16 + digV s[i]) _ (by omega) (by omega) ?_ ?_ ?_ ?_) fun x e h hq => hq
      · rw [show i + 1 - 2 = (i - 2) + 1 by omega, Nat.pow_succ]; omega
      · (first | (simp only [fws, cond_true, cond_false, if_true, if_false, unV, isNil, optI, iV, stepI, evalR, reduceIte, reduceCtorEq, Nat.reduceEqDiff, Int.reduceLT, Int.reduceLE, Int.reduceToNat, Nat.reduceLT, Nat.reduceLeDiff, Int.reduceEq, Int.reduceNeg, IntKind.bits, Nat.reduceAdd, Nat.reduceMul, Nat.reducePow, Int.reducePow, ini, *]; done) | (simp only [fws, cond_true, cond_false, if_true, if_false, unV, isNil, optI, iV, stepI, evalR, reduceIte, reduceCtorEq, Nat.reduceEqDiff, Int.reduceLT, Int.reduceLE, Int.reduceToNat, Nat.reduceLT, Nat.reduceLeDiff, Int.reduceEq, Int.reduceNeg, IntKind.bits, Nat.reduceAdd, Nat.reduceMul, Nat.reducePow, Int.reducePow, ini]; rfl))
      · (first | (simp only [fws, cond_true, cond_false, if_true, if_false, unV, isNil, optI, iV, stepI, evalR, reduceIte, reduceCtorEq, Nat.reduceEqDiff, Int.reduceLT, Int.reduceLE, Int.reduceToNat, Nat.reduceLT, Nat.reduceLeDiff, Int.reduceEq, Int.reduceNeg, IntKind.bits, Nat.reduceAdd, Nat.reduceMul, Nat.reducePow, Int.reducePow, ini, *]; done) | (simp only [fws, cond_true, cond_false, if_true, if_false, unV, isNil, optI, iV, stepI, evalR, reduceIte, reduceCtorEq, Nat.reduceEqDiff, Int.reduceLT, Int.reduceLE, Int.reduceToNat, Nat.reduceLT, Nat.reduceLeDiff, Int.reduceEq, Int.reduceNeg, IntKind.bits, Nat.reduceAdd, Nat.reduceMul, Nat.reducePow, Int.reducePow, ini]; rfl))
      · (first | (simp only [fws, cond_true, cond_false, if_true, if_false, unV, isNil, optI, iV, stepI, evalR, reduceIte, reduceCtorEq, Nat.reduceEqDiff, Int.reduceLT, Int.reduceLE, Int.reduceToNat, Nat.reduceLT, Nat.reduceLeDiff, Int.reduceEq, Int.reduceNeg, IntKind.bits, Nat.reduceAdd, Nat.reduceMul, Nat.reducePow, Int.reducePow, ini, *]; done) | (simp only [fws, cond_true, cond_false, if_true, if_false, unV, isNil, optI, iV, stepI, evalR, reduceIte, reduceCtorEq, Nat.reduceEqDiff, Int.reduceLT, Int.reduceLE, Int.reduceToNat, Nat.reduceLT, Nat.reduceLeDiff, Int.reduceEq, Int.reduceNeg, IntKind.bits, Nat.reduceAdd, Nat.reduceMul, Nat.reducePow, Int.reducePow, ini]; rfl))
/-- Is a text a number in the base 16? -/
def hexOk (s : List UInt8) : Bool := decide (3 ≤ s.length) && decide (s.length ≤ 18) && decide (s.getD 0 0 = 48) && decide (s.getD 1 0 = 120) && !(decide (s.getD 2 0 = 48) && decide (3 < s.length)) && okH (s.drop 2)
abbrev hexR (s : List UInt8) : Value := if hexOk s = true then .tuple #[.int .u64 (valH (s.drop 2) 0), .int .i64 0] else .tuple #[.int .u64 0, .int .i64 12]
theorem f_num_ParseHex {T : Tab} (hd : T 37 = some F_num_digit) (h : T 27 = some F_num_ParseHex) (s : List UInt8) (hs : s.length ≤ 4096) : FnV T 27 [strV s] (hexR s) := by
  refine FnV_of rfl ?_
  rw [Ev_fn h rfl]
  by_cases h3 : s.length < 3
  · have q : ((s.length : Int) < 3) := by omega
    have hk : hexOk s = false := by unfold hexOk; simp; omega
    rw [show hexR s = .tuple #[.int .u64 0, .int .i64 12] from if_neg (by rw [hk]; decide)]
    simp only [F_num_ParseHex, fws, cond_true, cond_false, if_true, if_false, unV, isNil, optI, iV, stepI, evalR, reduceIte, reduceCtorEq, Nat.reduceEqDiff, Int.reduceLT, Int.reduceLE, Int.reduceToNat, Nat.reduceLT, Nat.reduceLeDiff, Int.reduceEq, Int.reduceNeg, IntKind.bits, Nat.reduceAdd, Nat.reduceMul, Nat.reducePow, Int.reducePow, ini, fwi, F_num_ParseHexr0_W, F_num_ParseHexr1_W, F_num_ParseHexr1_g3, F_num_ParseHexr1_g8, F_num_ParseHexr1_g13, F_num_ParseHexr1_g17, F_num_ParseHexr2_W, F_num_ParseHexr3_W, F_num_ParseHexr4_W, F_num_ParseHexr5_W, F_num_ParseHexr7_W, F_num_ParseHexr8_W, F_num_ParseHexr9_W, F_num_ParseHexr10_W, F_num_ParseHexr6_W, F_num_ParseHexl0_W, F_num_ParseHexr11_W, F_num_ParseHexc_W, lenI_str, q]
    rfl
  · have q : ¬ ((s.length : Int) < 3) := by omega
    by_cases h18 : 18 < s.length
    · have q2 : ((18 : Int) < s.length) := by omega
      have hk : hexOk s = false := by unfold hexOk; simp; omega
      rw [show hexR s = .tuple #[.int .u64 0, .int .i64 12] from if_neg (by rw [hk]; decide)]
      simp only [F_num_ParseHex, fws, cond_true, cond_false, if_true, if_false, unV, isNil, optI, iV, stepI, evalR, reduceIte, reduceCtorEq, Nat.reduceEqDiff, Int.reduceLT, Int.reduceLE, Int.reduceToNat, Nat.reduceLT, Nat.reduceLeDiff, Int.reduceEq, Int.reduceNeg, IntKind.bits, Nat.reduceAdd, Nat.reduceMul, Nat.reducePow, Int.reducePow, ini, fwi, F_num_ParseHexr0_W, F_num_ParseHexr1_W, F_num_ParseHexr1_g3, F_num_ParseHexr1_g8, F_num_ParseHexr1_g13, F_num_ParseHexr1_g17, F_num_ParseHexr2_W, F_num_ParseHexr3_W, F_num_ParseHexr4_W, F_num_ParseHexr5_W, F_num_ParseHexr7_W, F_num_ParseHexr8_W, F_num_ParseHexr9_W, F_num_ParseHexr10_W, F_num_ParseHexr6_W, F_num_ParseHexl0_W, F_num_ParseHexr11_W, F_num_ParseHexc_W, lenI_str, q, q2]
      rfl
    · have q2 : ¬ ((18 : Int) < s.length) := by omega
      obtain ⟨a, b, c, r, rfl⟩ : ∃ a b c r, s = a :: b :: c :: r := by
        match s, h3 with
        | [], h => exact absurd (by simp) h
        | [_], h => exact absurd (by simp) h
        | [_, _], h => exact absurd (by simp) h
        | a :: b :: c :: r, _ => exact ⟨a, b, c, r, rfl⟩
      next =>
        have he : (⟨(a :: b :: c :: r).toArray⟩ : ByteArray).extract 0 2 = ⟨[a, b].toArray⟩ := by
          apply ByteArray.ext
          simp
        have q3 : (2 : Int) ≤ ((a :: b :: c :: r).length : Nat) := by simp; omega
        have q4 : (2 : Int) < ((a :: b :: c :: r).length : Nat) := by simp; omega
        by_cases hab : a = 48 ∧ b = 120
        · obtain ⟨rfl, rfl⟩ := hab
          have hs1 : strEq ⟨#[48, 120]⟩ ⟨#[48, 120]⟩ = true := rfl
          by_cases hc : c = 48
          · have hc1 : decide ((c.toNat : Int) = 48) = true := by rw [hc]; rfl
            by_cases hl3 : r = []
            · subst hl3
              have hl3' : ¬ ((3 : Int) < (([48, 120, c] : List UInt8).length : Nat)) := by simp
              simp only [F_num_ParseHex, fws, cond_true, cond_false, if_true, if_false, unV, isNil, optI, iV, stepI, evalR, reduceIte, reduceCtorEq, Nat.reduceEqDiff, Int.reduceLT, Int.reduceLE, Int.reduceToNat, Nat.reduceLT, Nat.reduceLeDiff, Int.reduceEq, Int.reduceNeg, IntKind.bits, Nat.reduceAdd, Nat.reduceMul, Nat.reducePow, Int.reducePow, ini, fwi, F_num_ParseHexr0_W, F_num_ParseHexr1_W, F_num_ParseHexr1_g3, F_num_ParseHexr1_g8, F_num_ParseHexr1_g13, F_num_ParseHexr1_g17, F_num_ParseHexr2_W, F_num_ParseHexr3_W, F_num_ParseHexr4_W, F_num_ParseHexr5_W, F_num_ParseHexr7_W, F_num_ParseHexr8_W, F_num_ParseHexr9_W, F_num_ParseHexr10_W, F_num_ParseHexr6_W, F_num_ParseHexl0_W, F_num_ParseHexr11_W, F_num_ParseHexc_W, lenI_str, q, q2, he, q3, q4, and_self, List.getD_cons_succ, List.getD_cons_zero, hs1, hc1, hl3']
              refine W.mono (loop_num_ParseHex hd ([48, 120, c]) (by omega) ([48, 120, c]).length.pred.pred 2 0 _ (by first | rfl | (simp; omega)) (by decide) (by decide) ?_ ?_ ?_) fun x e h ⟨g0, g⟩ => ?_
              · (first | (simp only [fws, cond_true, cond_false, if_true, if_false, unV, isNil, optI, iV, stepI, evalR, reduceIte, reduceCtorEq, Nat.reduceEqDiff, Int.reduceLT, Int.reduceLE, Int.reduceToNat, Nat.reduceLT, Nat.reduceLeDiff, Int.reduceEq, Int.reduceNeg, IntKind.bits, Nat.reduceAdd, Nat.reduceMul, Nat.reducePow, Int.reducePow, ini, *]; done) | (simp only [fws, cond_true, cond_false, if_true, if_false, unV, isNil, optI, iV, stepI, evalR, reduceIte, reduceCtorEq, Nat.reduceEqDiff, Int.reduceLT, Int.reduceLE, Int.reduceToNat, Nat.reduceLT, Nat.reduceLeDiff, Int.reduceEq, Int.reduceNeg, IntKind.bits, Nat.reduceAdd, Nat.reduceMul, Nat.reducePow, Int.reducePow, ini]; rfl))
              · (first | (simp only [fws, cond_true, cond_false, if_true, if_false, unV, isNil, optI, iV, stepI, evalR, reduceIte, reduceCtorEq, Nat.reduceEqDiff, Int.reduceLT, Int.reduceLE, Int.reduceToNat, Nat.reduceLT, Nat.reduceLeDiff, Int.reduceEq, Int.reduceNeg, IntKind.bits, Nat.reduceAdd, Nat.reduceMul, Nat.reducePow, Int.reducePow, ini, *]; done) | (simp only [fws, cond_true, cond_false, if_true, if_false, unV, isNil, optI, iV, stepI, evalR, reduceIte, reduceCtorEq, Nat.reduceEqDiff, Int.reduceLT, Int.reduceLE, Int.reduceToNat, Nat.reduceLT, Nat.reduceLeDiff, Int.reduceEq, Int.reduceNeg, IntKind.bits, Nat.reduceAdd, Nat.reduceMul, Nat.reducePow, Int.reducePow, ini]; rfl))
              · (first | (simp only [fws, cond_true, cond_false, if_true, if_false, unV, isNil, optI, iV, stepI, evalR, reduceIte, reduceCtorEq, Nat.reduceEqDiff, Int.reduceLT, Int.reduceLE, Int.reduceToNat, Nat.reduceLT, Nat.reduceLeDiff, Int.reduceEq, Int.reduceNeg, IntKind.bits, Nat.reduceAdd, Nat.reduceMul, Nat.reducePow, Int.reducePow, ini, *]; done) | (simp only [fws, cond_true, cond_false, if_true, if_false, unV, isNil, optI, iV, stepI, evalR, reduceIte, reduceCtorEq, Nat.reduceEqDiff, Int.reduceLT, Int.reduceLE, Int.reduceToNat, Nat.reduceLT, Nat.reduceLeDiff, Int.reduceEq, Int.reduceNeg, IntKind.bits, Nat.reduceAdd, Nat.reduceMul, Nat.reducePow, Int.reducePow, ini]; rfl))
              subst g0
              by_cases hok : okH (([48, 120, c]).drop 2) = true
              · rw [if_pos hok] at g
                obtain ⟨rfl, g⟩ := g
                rw [show hexR ([48, 120, c]) = .tuple #[.int .u64 (valH (([48, 120, c]).drop 2) 0), .int .i64 0] from if_pos (by unfold hexOk; rw [hok]; simp)]
                simp only [fws, cond_true, cond_false, if_true, if_false, unV, isNil, optI, iV, stepI, evalR, reduceIte, reduceCtorEq, Nat.reduceEqDiff, Int.reduceLT, Int.reduceLE, Int.reduceToNat, Nat.reduceLT, Nat.reduceLeDiff, Int.reduceEq, Int.reduceNeg, IntKind.bits, Nat.reduceAdd, Nat.reduceMul, Nat.reducePow, Int.reducePow, ini, F_num_ParseHexr0_W, F_num_ParseHexr1_W, F_num_ParseHexr1_g3, F_num_ParseHexr1_g8, F_num_ParseHexr1_g13, F_num_ParseHexr1_g17, F_num_ParseHexr2_W, F_num_ParseHexr3_W, F_num_ParseHexr4_W, F_num_ParseHexr5_W, F_num_ParseHexr7_W, F_num_ParseHexr8_W, F_num_ParseHexr9_W, F_num_ParseHexr10_W, F_num_ParseHexr6_W, F_num_ParseHexl0_W, F_num_ParseHexr11_W, F_num_ParseHexc_W, g]
                rfl
              · rw [if_neg hok] at g
                obtain ⟨rfl, g, g'⟩ := g
                rw [show hexR ([48, 120, c]) = .tuple #[.int .u64 0, .int .i64 12] from if_neg (by unfold hexOk; rw [Bool.eq_false_iff.2 hok, Bool.and_false]; decide)]
                simp only [fws, cond_true, cond_false, if_true, if_false, unV, isNil, optI, iV, stepI, evalR, reduceIte, reduceCtorEq, Nat.reduceEqDiff, Int.reduceLT, Int.reduceLE, Int.reduceToNat, Nat.reduceLT, Nat.reduceLeDiff, Int.reduceEq, Int.reduceNeg, IntKind.bits, Nat.reduceAdd, Nat.reduceMul, Nat.reducePow, Int.reducePow, ini, F_num_ParseHexr0_W, F_num_ParseHexr1_W, F_num_ParseHexr1_g3, F_num_ParseHexr1_g8, F_num_ParseHexr1_g13, F_num_ParseHexr1_g17, F_num_ParseHexr2_W, F_num_ParseHexr3_W, F_num_ParseHexr4_W, F_num_ParseHexr5_W, F_num_ParseHexr7_W, F_num_ParseHexr8_W, F_num_ParseHexr9_W, F_num_ParseHexr10_W, F_num_ParseHexr6_W, F_num_ParseHexl0_W, F_num_ParseHexr11_W, F_num_ParseHexc_W, g, g']
                rfl
            · have hr : 0 < r.length := List.length_pos_iff.2 hl3
              have hl3' : (3 : Int) < ((48 :: 120 :: c :: r : List UInt8).length : Nat) := by simp; omega
              rw [show hexR (48 :: 120 :: c :: r) = .tuple #[.int .u64 0, .int .i64 12] from if_neg (by unfold hexOk; simp [hc, hl3])]
              simp only [F_num_ParseHex, fws, cond_true, cond_false, if_true, if_false, unV, isNil, optI, iV, stepI, evalR, reduceIte, reduceCtorEq, Nat.reduceEqDiff, Int.reduceLT, Int.reduceLE, Int.reduceToNat, Nat.reduceLT, Nat.reduceLeDiff, Int.reduceEq, Int.reduceNeg, IntKind.bits, Nat.reduceAdd, Nat.reduceMul, Nat.reducePow, Int.reducePow, ini, fwi, F_num_ParseHexr0_W, F_num_ParseHexr1_W, F_num_ParseHexr1_g3, F_num_ParseHexr1_g8, F_num_ParseHexr1_g13, F_num_ParseHexr1_g17, F_num_ParseHexr2_W, F_num_ParseHexr3_W, F_num_ParseHexr4_W, F_num_ParseHexr5_W, F_num_ParseHexr7_W, F_num_ParseHexr8_W, F_num_ParseHexr9_W, F_num_ParseHexr10_W, F_num_ParseHexr6_W, F_num_ParseHexl0_W, F_num_ParseHexr11_W, F_num_ParseHexc_W, lenI_str, q, q2, he, q3, q4, and_self, List.getD_cons_succ, List.getD_cons_zero, hs1, hc1, hl3']
              rfl
          · have hc1 : decide ((c.toNat : Int) = 48) = false := by
              rw [decide_eq_false_iff_not]
              intro h
              exact hc (UInt8.toNat_inj.1 (by show c.toNat = 48; omega))
            simp only [F_num_ParseHex, fws, cond_true, cond_false, if_true, if_false, unV, isNil, optI, iV, stepI, evalR, reduceIte, reduceCtorEq, Nat.reduceEqDiff, Int.reduceLT, Int.reduceLE, Int.reduceToNat, Nat.reduceLT, Nat.reduceLeDiff, Int.reduceEq, Int.reduceNeg, IntKind.bits, Nat.reduceAdd, Nat.reduceMul, Nat.reducePow, Int.reducePow, ini, fwi, F_num_ParseHexr0_W, F_num_ParseHexr1_W, F_num_ParseHexr1_g3, F_num_ParseHexr1_g8, F_num_ParseHexr1_g13, F_num_ParseHexr1_g17, F_num_ParseHexr2_W, F_num_ParseHexr3_W, F_num_ParseHexr4_W, F_num_ParseHexr5_W, F_num_ParseHexr7_W, F_num_ParseHexr8_W, F_num_ParseHexr9_W, F_num_ParseHexr10_W, F_num_ParseHexr6_W, F_num_ParseHexl0_W, F_num_ParseHexr11_W, F_num_ParseHexc_W, lenI_str, q, q2, he, q3, q4, and_self, List.getD_cons_succ, List.getD_cons_zero, hs1, hc1]
            refine W.mono (loop_num_ParseHex hd (48 :: 120 :: c :: r) (by omega) (48 :: 120 :: c :: r).length.pred.pred 2 0 _ (by first | rfl | (simp; omega)) (by decide) (by decide) ?_ ?_ ?_) fun x e h ⟨g0, g⟩ => ?_
            · (first | (simp only [fws, cond_true, cond_false, if_true, if_false, unV, isNil, optI, iV, stepI, evalR, reduceIte, reduceCtorEq, Nat.reduceEqDiff, Int.reduceLT, Int.reduceLE, Int.reduceToNat, Nat.reduceLT, Nat.reduceLeDiff, Int.reduceEq, Int.reduceNeg, IntKind.bits, Nat.reduceAdd, Nat.reduceMul, Nat.reducePow, Int.reducePow, ini, *]; done) | (simp only [fws, cond_true, cond_false, if_true, if_false, unV, isNil, optI, iV, stepI, evalR, reduceIte, reduceCtorEq, Nat.reduceEqDiff, Int.reduceLT, Int.reduceLE, Int.reduceToNat, Nat.reduceLT, Nat.reduceLeDiff, Int.reduceEq, Int.reduceNeg, IntKind.bits, Nat.reduceAdd, Nat.reduceMul, Nat.reducePow, Int.reducePow, ini]; rfl))
            · (first | (simp only [fws, cond_true, cond_false, if_true, if_false, unV, isNil, optI, iV, stepI, evalR, reduceIte, reduceCtorEq, Nat.reduceEqDiff, Int.reduceLT, Int.reduceLE, Int.reduceToNat, Nat.reduceLT, Nat.reduceLeDiff, Int.reduceEq, Int.reduceNeg, IntKind.bits, Nat.reduceAdd, Nat.reduceMul, Nat.reducePow, Int.reducePow, ini, *]; done) | (simp only [fws, cond_true, cond_false, if_true, if_false, unV, isNil, optI, iV, stepI, evalR, reduceIte, reduceCtorEq, Nat.reduceEqDiff, Int.reduceLT, Int.reduceLE, Int.reduceToNat, Nat.reduceLT, Nat.reduceLeDiff, Int.reduceEq, Int.reduceNeg, IntKind.bits, Nat.reduceAdd, Nat.reduceMul, Nat.reducePow, Int.reducePow, ini]; rfl))
            · (first | (simp only [fws, cond_true, cond_false, if_true, if_false, unV, isNil, optI, iV, stepI, evalR, reduceIte, reduceCtorEq, Nat.reduceEqDiff, Int.reduceLT, Int.reduceLE, Int.reduceToNat, Nat.reduceLT, Nat.reduceLeDiff, Int.reduceEq, Int.reduceNeg, IntKind.bits, Nat.reduceAdd, Nat.reduceMul, Nat.reducePow, Int.reducePow, ini, *]; done) | (simp only [fws, cond_true, cond_false, if_true, if_false, unV, isNil, optI, iV, stepI, evalR, reduceIte, reduceCtorEq, Nat.reduceEqDiff, Int.reduceLT, Int.reduceLE, Int.reduceToNat, Nat.reduceLT, Nat.reduceLeDiff, Int.reduceEq, Int.reduceNeg, IntKind.bits, Nat.reduceAdd, Nat.reduceMul, Nat.reducePow, Int.reducePow, ini]; rfl))
            subst g0
            by_cases hok : okH ((48 :: 120 :: c :: r).drop 2) = true
            · rw [if_pos hok] at g
              obtain ⟨rfl, g⟩ := g
              rw [show hexR (48 :: 120 :: c :: r) = .tuple #[.int .u64 (valH ((48 :: 120 :: c :: r).drop 2) 0), .int .i64 0] from if_pos (by unfold hexOk; rw [hok]; simp [hc]; simp at h18; omega)]
              simp only [fws, cond_true, cond_false, if_true, if_false, unV, isNil, optI, iV, stepI, evalR, reduceIte, reduceCtorEq, Nat.reduceEqDiff, Int.reduceLT, Int.reduceLE, Int.reduceToNat, Nat.reduceLT, Nat.reduceLeDiff, Int.reduceEq, Int.reduceNeg, IntKind.bits, Nat.reduceAdd, Nat.reduceMul, Nat.reducePow, Int.reducePow, ini, F_num_ParseHexr0_W, F_num_ParseHexr1_W, F_num_ParseHexr1_g3, F_num_ParseHexr1_g8, F_num_ParseHexr1_g13, F_num_ParseHexr1_g17, F_num_ParseHexr2_W, F_num_ParseHexr3_W, F_num_ParseHexr4_W, F_num_ParseHexr5_W, F_num_ParseHexr7_W, F_num_ParseHexr8_W, F_num_ParseHexr9_W, F_num_ParseHexr10_W, F_num_ParseHexr6_W, F_num_ParseHexl0_W, F_num_ParseHexr11_W, F_num_ParseHexc_W, g]
              rfl
            · rw [if_neg hok] at g
              obtain ⟨rfl, g, g'⟩ := g
              rw [show hexR (48 :: 120 :: c :: r) = .tuple #[.int .u64 0, .int .i64 12] from if_neg (by unfold hexOk; rw [Bool.eq_false_iff.2 hok, Bool.and_false]; decide)]
              simp only [fws, cond_true, cond_false, if_true, if_false, unV, isNil, optI, iV, stepI, evalR, reduceIte, reduceCtorEq, Nat.reduceEqDiff, Int.reduceLT, Int.reduceLE, Int.reduceToNat, Nat.reduceLT, Nat.reduceLeDiff, Int.reduceEq, Int.reduceNeg, IntKind.bits, Nat.reduceAdd, Nat.reduceMul, Nat.reducePow, Int.reducePow, ini, F_num_ParseHexr0_W, F_num_ParseHexr1_W, F_num_ParseHexr1_g3, F_num_ParseHexr1_g8, F_num_ParseHexr1_g13, F_num_ParseHexr1_g17, F_num_ParseHexr2_W, F_num_ParseHexr3_W, F_num_ParseHexr4_W, F_num_ParseHexr5_W, F_num_ParseHexr7_W, F_num_ParseHexr8_W, F_num_ParseHexr9_W, F_num_ParseHexr10_W, F_num_ParseHexr6_W, F_num_ParseHexl0_W, F_num_ParseHexr11_W, F_num_ParseHexc_W, g, g']
              rfl
        · have hs1 : strEq ⟨#[a, b]⟩ ⟨#[48, 120]⟩ = false := by
            show strEq ⟨[a, b].toArray⟩ ⟨[48, 120].toArray⟩ = false
            rw [show strEq ⟨[a, b].toArray⟩ ⟨[48, 120].toArray⟩ = ([a, b] == [48, 120]) from rfl]
            simp
            intro h1 h2; exact hab ⟨h1, h2⟩
          rw [show hexR (a :: b :: c :: r) = .tuple #[.int .u64 0, .int .i64 12] from if_neg (by unfold hexOk; simp; intro _ h1 h2; exact absurd ⟨h1, h2⟩ hab)]
          simp only [F_num_ParseHex, fws, cond_true, cond_false, if_true, if_false, unV, isNil, optI, iV, stepI, evalR, reduceIte, reduceCtorEq, Nat.reduceEqDiff, Int.reduceLT, Int.reduceLE, Int.reduceToNat, Nat.reduceLT, Nat.reduceLeDiff, Int.reduceEq, Int.reduceNeg, IntKind.bits, Nat.reduceAdd, Nat.reduceMul, Nat.reducePow, Int.reducePow, ini, fwi, F_num_ParseHexr0_W, F_num_ParseHexr1_W, F_num_ParseHexr1_g3, F_num_ParseHexr1_g8, F_num_ParseHexr1_g13, F_num_ParseHexr1_g17, F_num_ParseHexr2_W, F_num_ParseHexr3_W, F_num_ParseHexr4_W, F_num_ParseHexr5_W, F_num_ParseHexr7_W, F_num_ParseHexr8_W, F_num_ParseHexr9_W, F_num_ParseHexr10_W, F_num_ParseHexr6_W, F_num_ParseHexl0_W, F_num_ParseHexr11_W, F_num_ParseHexc_W, lenI_str, q, q2, he, q3, q4, and_self, List.getD_cons_succ, List.getD_cons_zero, hs1]
          rfl
end Go.Proofs.Ytiekjbejgmdkkaa
