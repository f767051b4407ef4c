/- The document's numbers of a reader. -/
import Derived.Test.YtdkdifjjpbfohaaLebE
namespace Go.Proofs.Ytdkdifjjpbfohaa
open Go Fw
set_option linter.unusedSimpArgs false
set_option linter.unusedVariables false

theorem numB_lt (l : List Bool) : numB l < 2 ^ l.length := by
  induction l with
  | nil => simp [numB]
  | cons b l ih =>
    have e : numB (b :: l) = 2 * numB l + b.toNat := rfl
    rw [e, List.length_cons, Nat.pow_succ]
    have : b.toNat ≤ 1 := by cases b <;> simp
    omega
theorem numB_append (a b : List Bool) : numB (a ++ b) = numB a + 2 ^ a.length * numB b := by
  induction a with
  | nil => simp [numB]
  | cons x a ih =>
    have e1 : numB (x :: a ++ b) = 2 * numB (a ++ b) + x.toNat := rfl
    have e2 : numB (x :: a) = 2 * numB a + x.toNat := rfl
    rw [e1, e2, ih, List.length_cons, Nat.pow_succ, Nat.mul_add, ← Nat.mul_assoc, Nat.mul_comm 2 (2 ^ a.length)]
    omega
theorem numB_take (l : List Bool) (k : Nat) : numB (l.take k) = numB l % 2 ^ k := by
  have h1 := numB_append (l.take k) (l.drop k)
  rw [List.take_append_drop] at h1
  have h2 := numB_lt (l.take k)
  rcases Nat.le_total k l.length with h | h
  · have h3 : (l.take k).length = k := by rw [List.length_take]; omega
    rw [h3] at h1 h2
    rw [h1, Nat.add_mul_mod_self_left, Nat.mod_eq_of_lt h2]
  · rw [List.take_of_length_le h]
    have h3 := numB_lt l
    have h4 : 2 ^ l.length ≤ 2 ^ k := Nat.pow_le_pow_right (by decide) h
    rw [Nat.mod_eq_of_lt (by omega)]
theorem numB_false (k : Nat) : numB (List.replicate k false) = 0 := by
  induction k with
  | zero => rfl
  | succ k ih =>
    rw [List.replicate_succ]
    have e : numB (false :: List.replicate k false) = 2 * numB (List.replicate k false) + 0 := rfl
    rw [e, ih]
theorem numB_true (k : Nat) : numB (List.replicate k true) + 1 = 2 ^ k := by
  induction k with
  | zero => rfl
  | succ k ih =>
    rw [List.replicate_succ]
    have e : numB (true :: List.replicate k true) = 2 * numB (List.replicate k true) + 1 := rfl
    rw [e, Nat.pow_succ]
    omega
theorem numB_bits7 (c : UInt8) : numB (bits7 c) = c.toNat % 128 := by
  have key : ((List.range 256).all fun m => decide (numB ((List.range 7).map fun k => m.testBit k) = m % 128)) = true := by kernel_rfl
  exact of_decide_eq_true (List.all_eq_true.1 key c.toNat (by simpa using c.toNat_lt))
theorem numB_bitsL (g : List UInt8) : numB (bitsL (g.map mask)) = val g := by
  induction g with
  | nil => rfl
  | cons c g ih =>
    have e : bitsL ((c :: g).map mask) = bits7 (mask c) ++ bitsL (g.map mask) := rfl
    rw [e, numB_append, numB_bits7, ih, mask_toNat, val]
    have : (bits7 (mask c)).length = 7 := by simp [bits7]
    rw [this]
    omega
theorem bit6 (c : UInt8) : c.toNat.testBit 6 = decide (64 ≤ c.toNat % 128) := by
  have key : ((List.range 256).all fun m => decide (m.testBit 6 = decide (64 ≤ m % 128))) = true := by kernel_rfl
  exact of_decide_eq_true (List.all_eq_true.1 key c.toNat (by simpa using c.toNat_lt))
theorem lastBit_eq : ∀ (g : List UInt8), g ≠ [] → lastBit (g.map mask) = decide (64 ≤ lastB g % 128)
  | [], h => absurd rfl h
  | [c], _ => by
    have e : lastBit ([c].map mask) = (mask c).toNat.testBit 6 := by
      show ((bits7 (mask c)) ++ []).getLastD false = _
      simp [bits7, List.range, List.range.loop]
    rw [e, bit6, mask_toNat]
    show decide (64 ≤ c.toNat % 128 % 128) = decide (64 ≤ c.toNat % 128)
    rw [Nat.mod_mod]
  | c :: c2 :: g, _ => by
    have h := lastBit_eq (c2 :: g) (by simp)
    have hne : bitsL ((c2 :: g).map mask) ≠ [] := by
      intro h0
      have := bitsL_length ((c2 :: g).map mask)
      rw [h0] at this
      simp at this
    have e : lastBit ((c :: c2 :: g).map mask) = lastBit ((c2 :: g).map mask) := by
      show (bits7 (mask c) ++ bitsL ((c2 :: g).map mask)).getLastD false = (bitsL ((c2 :: g).map mask)).getLastD false
      rw [List.getLastD_eq_getLast?, List.getLastD_eq_getLast?, List.getLast?_append]
      cases hh : (bitsL ((c2 :: g).map mask)).getLast? with
      | none => exact absurd (List.getLast?_eq_none_iff.1 hh) hne
      | some b => rfl
    rw [e, h]
    rfl

theorem loop_ref03_number {T : Tab} (l : List Bool) (hl : l.length ≤ 64) : ∀ (i : Nat) (env : Env), i ≤ l.length → env 0 = imm boolE l → env 3 = .int .u64 (numB (l.drop i)) → env 4 = .int .i64 ((i : Int) - 1) →
    W T (.loop F_ref03_numberl0) env [] fun x e h => x = .exit 0 ∧ h = [] ∧ e 3 = .int .u64 (numB l) := by
  intro i
  induction i with
  | zero =>
    intro env hi v0 v3 v4
    have h4 : ¬ ((0 : Int) ≤ ((0 : Nat) : Int) - 1) := by omega
    rw [w_loop]
    simp only [fws, cond_true, cond_false, if_true, if_false, unV, isNil, optI, iV, stepI, evalR, reduceIte, reduceCtorEq, Nat.reduceEqDiff, Int.reduceLT, Int.reduceLE, Int.reduceToNat, Nat.reduceLT, Nat.reduceLeDiff, Int.reduceEq, Int.reduceNeg, IntKind.bits, Nat.reduceAdd, Nat.reduceMul, Nat.reducePow, Int.reducePow, ini, F_ref03_numberr0_W, F_ref03_numberr1_W, F_ref03_numberr2_W, F_ref03_numberr3_W, F_ref03_numberr5_W, F_ref03_numberr6_W, F_ref03_numberr7_W, F_ref03_numberr4_W, F_ref03_numberl0_W, F_ref03_numberr8_W, F_ref03_numberc_W, F_ref03_numberr0_W, F_ref03_numberr1_W, F_ref03_numberr2_W, F_ref03_numberr3_W, F_ref03_numberr5_W, F_ref03_numberr6_W, F_ref03_numberr7_W, F_ref03_numberr4_W, F_ref03_numberl0_W, F_ref03_numberr8_W, F_ref03_numberc_W, v0, v3, v4, h4]
    simp only [fws, cond_true, cond_false, if_true, if_false, unV, isNil, optI, iV, stepI, evalR, reduceIte, reduceCtorEq, Nat.reduceEqDiff, Int.reduceLT, Int.reduceLE, Int.reduceToNat, Nat.reduceLT, Nat.reduceLeDiff, Int.reduceEq, Int.reduceNeg, IntKind.bits, Nat.reduceAdd, Nat.reduceMul, Nat.reducePow, Int.reducePow, ini, F_ref03_numberr0_W, F_ref03_numberr1_W, F_ref03_numberr2_W, F_ref03_numberr3_W, F_ref03_numberr5_W, F_ref03_numberr6_W, F_ref03_numberr7_W, F_ref03_numberr4_W, F_ref03_numberl0_W, F_ref03_numberr8_W, F_ref03_numberc_W, F_ref03_numberr0_W, F_ref03_numberr1_W, F_ref03_numberr2_W, F_ref03_numberr3_W, F_ref03_numberr5_W, F_ref03_numberr6_W, F_ref03_numberr7_W, F_ref03_numberr4_W, F_ref03_numberl0_W, F_ref03_numberr8_W, F_ref03_numberc_W, v0, v3, v4, h4, show ¬ ((0 : Int) ≤ 0 - 1) by omega, List.drop_zero, and_self]
  | succ i ih =>
    intro env hi v0 v3 v4
    have h4 : (0 : Int) ≤ ((i + 1 : Nat) : Int) - 1 := by omega
    have h5 : ((i + 1 : Nat) : Int) - 1 = i := by omega
    have hig : i < l.length := by omega
    have hx := ix_at (E := boolE) (n := 1) rfl hig
    have w5 : IntKind.i64.wrap ((i : Int) - 1) = (i : Int) - 1 := wrapI64 (by omega) (by omega)
    have hd : l.drop i = l[i] :: l.drop (i + 1) := List.drop_eq_getElem_cons hig
    have hlt := numB_lt (l.drop i)
    have hle : 2 ^ (l.drop i).length ≤ 2 ^ 64 := Nat.pow_le_pow_right (by decide) (by rw [List.length_drop]; omega)
    have e64 : (2 : Nat) ^ 64 = 18446744073709551616 := by decide
    have hnb : numB (l.drop i) = 2 * numB (l.drop (i + 1)) + l[i].toNat := by rw [hd]; rfl
    rw [h5] at v4 h4
    have hi0 : (0 : Int) ≤ (i : Int) := by omega
    rw [w_loop]
    cases hb : l[i] with
    | false =>
      rw [hb] at hnb
      simp only [Bool.toNat_false, Nat.add_zero] at hnb
      have w1 : IntKind.u64.wrap ((numB (l.drop (i + 1)) : Int) * 2) = (numB (l.drop i) : Int) := by rw [wrap_u64]; omega
      simp only [fws, cond_true, cond_false, if_true, if_false, unV, isNil, optI, iV, stepI, evalR, reduceIte, reduceCtorEq, Nat.reduceEqDiff, Int.reduceLT, Int.reduceLE, Int.reduceToNat, Nat.reduceLT, Nat.reduceLeDiff, Int.reduceEq, Int.reduceNeg, IntKind.bits, Nat.reduceAdd, Nat.reduceMul, Nat.reducePow, Int.reducePow, ini, fwi, F_ref03_numberr0_W, F_ref03_numberr1_W, F_ref03_numberr2_W, F_ref03_numberr3_W, F_ref03_numberr5_W, F_ref03_numberr6_W, F_ref03_numberr7_W, F_ref03_numberr4_W, F_ref03_numberl0_W, F_ref03_numberr8_W, F_ref03_numberc_W, F_ref03_numberr0_W, F_ref03_numberr1_W, F_ref03_numberr2_W, F_ref03_numberr3_W, F_ref03_numberr5_W, F_ref03_numberr6_W, F_ref03_numberr7_W, F_ref03_numberr4_W, F_ref03_numberl0_W, F_ref03_numberr8_W, F_ref03_numberc_W, v0, v3, v4, hi0, hx, at_cons hig, hb, w1, w5]
      refine W.mono (ih _ (by omega) ?_ ?_ ?_) fun x e hh hq => hq
      · (first | assumption | rfl)
      · (first | assumption | rfl)
      · (first | assumption | rfl)
    | true =>
      rw [hb] at hnb
      simp only [Bool.toNat_true] at hnb
      have w1 : IntKind.u64.wrap ((numB (l.drop (i + 1)) : Int) * 2) = (numB (l.drop (i + 1)) : Int) * 2 := by rw [wrap_u64]; omega
      have w2 : IntKind.u64.wrap ((numB (l.drop (i + 1)) : Int) * 2 + 1) = (numB (l.drop i) : Int) := by rw [wrap_u64]; omega
      simp only [fws, cond_true, cond_false, if_true, if_false, unV, isNil, optI, iV, stepI, evalR, reduceIte, reduceCtorEq, Nat.reduceEqDiff, Int.reduceLT, Int.reduceLE, Int.reduceToNat, Nat.reduceLT, Nat.reduceLeDiff, Int.reduceEq, Int.reduceNeg, IntKind.bits, Nat.reduceAdd, Nat.reduceMul, Nat.reducePow, Int.reducePow, ini, fwi, F_ref03_numberr0_W, F_ref03_numberr1_W, F_ref03_numberr2_W, F_ref03_numberr3_W, F_ref03_numberr5_W, F_ref03_numberr6_W, F_ref03_numberr7_W, F_ref03_numberr4_W, F_ref03_numberl0_W, F_ref03_numberr8_W, F_ref03_numberc_W, F_ref03_numberr0_W, F_ref03_numberr1_W, F_ref03_numberr2_W, F_ref03_numberr3_W, F_ref03_numberr5_W, F_ref03_numberr6_W, F_ref03_numberr7_W, F_ref03_numberr4_W, F_ref03_numberl0_W, F_ref03_numberr8_W, F_ref03_numberc_W, v0, v3, v4, hi0, hx, at_cons hig, hb, w1, w2, w5]
      refine W.mono (ih _ (by omega) ?_ ?_ ?_) fun x e hh hq => hq
      · (first | assumption | rfl)
      · (first | assumption | rfl)
      · (first | assumption | rfl)

theorem f_ref03_number {T : Tab} (h : T 37 = some F_ref03_number) (l : List Bool) (hl : l.length ≤ 64) : FnV T 37 [imm boolE l] (.int .u64 (numB l)) := by
  refine FnV_of (by simp [pure_agg, pure_tup, pure_int, pure_bool, pure_string, pure_slN, pure_ptrN, pure_mapN, pure_imm, pure_immN, bltN, byteE_d, intE_d, boolE_d, strE_d]) ?_
  rw [Ev_fn h rfl]
  have w1 : IntKind.i64.wrap ((l.length : Int) - 1) = (l.length : Int) - 1 := wrapI64 (by omega) (by omega)
  simp only [F_ref03_number, fws, cond_true, cond_false, if_true, if_false, unV, isNil, optI, iV, stepI, evalR, reduceIte, reduceCtorEq, Nat.reduceEqDiff, Int.reduceLT, Int.reduceLE, Int.reduceToNat, Nat.reduceLT, Nat.reduceLeDiff, Int.reduceEq, Int.reduceNeg, IntKind.bits, Nat.reduceAdd, Nat.reduceMul, Nat.reducePow, Int.reducePow, ini, fwh, lk, cellsAt, tagOf, spotOf, rdN, spl, fillL, zr, fwi, F_ref03_numberr0_W, F_ref03_numberr1_W, F_ref03_numberr2_W, F_ref03_numberr3_W, F_ref03_numberr5_W, F_ref03_numberr6_W, F_ref03_numberr7_W, F_ref03_numberr4_W, F_ref03_numberl0_W, F_ref03_numberr8_W, F_ref03_numberc_W, F_ref03_numberr0_W, F_ref03_numberr1_W, F_ref03_numberr2_W, F_ref03_numberr3_W, F_ref03_numberr5_W, F_ref03_numberr6_W, F_ref03_numberr7_W, F_ref03_numberr4_W, F_ref03_numberl0_W, F_ref03_numberr8_W, F_ref03_numberc_W, w1]
  refine W.mono (loop_ref03_number l hl l.length _ (Nat.le_refl _) ?_ ?_ ?_) fun x e hh ⟨q1, q2, q3⟩ => ?_
  · (first | assumption | rfl)
  · simp only [fws, cond_true, cond_false, if_true, if_false, unV, isNil, optI, iV, stepI, evalR, reduceIte, reduceCtorEq, Nat.reduceEqDiff, Int.reduceLT, Int.reduceLE, Int.reduceToNat, Nat.reduceLT, Nat.reduceLeDiff, Int.reduceEq, Int.reduceNeg, IntKind.bits, Nat.reduceAdd, Nat.reduceMul, Nat.reducePow, Int.reducePow, ini, List.drop_length]; rfl
  · (first | assumption | rfl)
  subst q1; subst q2
  simp only [fws, cond_true, cond_false, if_true, if_false, unV, isNil, optI, iV, stepI, evalR, reduceIte, reduceCtorEq, Nat.reduceEqDiff, Int.reduceLT, Int.reduceLE, Int.reduceToNat, Nat.reduceLT, Nat.reduceLeDiff, Int.reduceEq, Int.reduceNeg, IntKind.bits, Nat.reduceAdd, Nat.reduceMul, Nat.reducePow, Int.reducePow, ini, F_ref03_numberr0_W, F_ref03_numberr1_W, F_ref03_numberr2_W, F_ref03_numberr3_W, F_ref03_numberr5_W, F_ref03_numberr6_W, F_ref03_numberr7_W, F_ref03_numberr4_W, F_ref03_numberl0_W, F_ref03_numberr8_W, F_ref03_numberc_W, F_ref03_numberr0_W, F_ref03_numberr1_W, F_ref03_numberr2_W, F_ref03_numberr3_W, F_ref03_numberr5_W, F_ref03_numberr6_W, F_ref03_numberr7_W, F_ref03_numberr4_W, F_ref03_numberl0_W, F_ref03_numberr8_W, F_ref03_numberc_W, q3]
  exact frz_pure rfl

theorem padded_length (g : List UInt8) (sg : Bool) : (padded g sg).length ≤ 64 := by unfold padded; rw [List.length_take]; omega
theorem numB_padded (g : List UInt8) (_ : g ≠ []) (_ : g.length ≤ 10) : numB (padded (g.map mask) false) = val g % 18446744073709551616 := by
  unfold padded
  rw [numB_take, Bool.false_and, numB_append, numB_false, Nat.mul_zero, Nat.add_zero, numB_bitsL]
theorem numB_signed (g : List UInt8) (gne : g ≠ []) (hg : g.length ≤ 10) (hlb : lastB g < 128) (h10 : g.length = 10 → lastB g = 0 ∨ lastB g = 127) : IntKind.i64.wrap (numB (padded (g.map mask) true) : Int) = sval g := by
  have hlm : lastB g % 128 = lastB g := Nat.mod_eq_of_lt hlb
  have hvl := val_lt g
  obtain ⟨v9, hv9, hval⟩ := val_last g gne
  rw [hlm] at hval
  have g0 : 0 < g.length := by cases g with | nil => exact absurd rfl gne | cons => simp
  have e63 : (128 : Nat) ^ 9 = 9223372036854775808 := by decide
  have hbl : (bitsL (g.map mask)).length = 7 * g.length := by rw [bitsL_length, List.length_map]
  have e64 : (2 : Nat) ^ 64 = 18446744073709551616 := by decide
  have e128 : 2 ^ (7 * g.length) = 128 ^ g.length := by rw [Nat.pow_mul]
  unfold padded
  rw [numB_take, numB_append, numB_bitsL, Bool.true_and, lastBit_eq g gne, hlm, hbl, e128, e64]
  unfold sval
  rw [hlm]
  by_cases hten : g.length = 10
  · have e9 : g.length - 1 = 9 := by omega
    rw [e9, e63] at hv9 hval
    have hz : 64 - 7 * g.length = 0 := by omega
    rw [hz]
    have hn0 : numB (List.replicate 0 (decide (64 ≤ lastB g))) = 0 := rfl
    rw [hn0, Nat.mul_zero, Nat.add_zero, Go.IntKind.wrap_i64]
    rcases h10 hten with h | h
    · rw [h, if_neg (by omega)]
      rw [h] at hval
      omega
    · rw [h, if_pos (by omega), hten]
      rw [h] at hval
      have : (128 : Int) ^ 10 = 1180591620717411303424 := by decide
      omega
  · have hle : 128 ^ g.length ≤ 128 ^ 9 := Nat.pow_le_pow_right (by decide) (by omega)
    have hpw : 128 ^ g.length = 128 ^ (g.length - 1) * 128 := by rw [← Nat.pow_succ]; congr 1; omega
    by_cases h64 : 64 ≤ lastB g
    · rw [if_pos h64, decide_eq_true h64]
      have hge : 64 * 128 ^ (g.length - 1) ≤ 128 ^ (g.length - 1) * lastB g := by rw [Nat.mul_comm]; exact Nat.mul_le_mul_left _ h64
      have ht := numB_true (64 - 7 * g.length)
      have hmul : 128 ^ g.length * numB (List.replicate (64 - 7 * g.length) true) + 128 ^ g.length = 18446744073709551616 := by
        rw [← Nat.mul_succ, Nat.succ_eq_add_one, ht, ← e128, ← Nat.pow_add, ← e64]
        congr 1
        omega
      have hc : ((128 ^ g.length : Nat) : Int) = (128 : Int) ^ g.length := Int.natCast_pow ..
      rw [← hc, Go.IntKind.wrap_i64]
      omega
    · rw [if_neg h64, decide_eq_false h64, numB_false, Nat.mul_zero, Nat.add_zero, Go.IntKind.wrap_i64]
      have hlt : 128 ^ (g.length - 1) * lastB g + 128 ^ (g.length - 1) ≤ 64 * 128 ^ (g.length - 1) := by
        rw [← Nat.mul_succ, Nat.mul_comm]; exact Nat.mul_le_mul_right _ (by omega)
      omega

theorem lastB_get : ∀ (g : List UInt8) (h : g.length - 1 < g.length), lastB g = (g[g.length - 1]).toNat
  | [], h => by simp at h
  | [c], _ => rfl
  | c :: c2 :: g, _ => by
    have := lastB_get (c2 :: g) (by simp)
    have e : lastB (c :: c2 :: g) = lastB (c2 :: g) := rfl
    rw [e, this]
    simp

theorem f_ref03_U {T : Tab} (h1 : T 36 = some F_ref03_groups) (h2 : T 38 = some F_ref03_bits) (h3 : T 37 = some F_ref03_number) (h : T 20 = some F_ref03_U) (l : List UInt8) (fail : Int) :
    FnV T 20 [rV l fail] (if fail ≠ 0 then .tuple #[rV l fail, .int .u64 0] else .tuple #[rV (l.drop (uR l).2.1) (uR l).2.2, .int .u64 (uR l).1]) := by
  refine FnV_of (by simp [pure_agg, pure_tup, pure_int, pure_bool, pure_string, pure_slN, pure_ptrN, pure_mapN, pure_imm, pure_immN, bltN, byteE_d, intE_d, boolE_d, strE_d]) ?_
  rw [Ev_fn h rfl]
  have hgr := f_ref03_groups h1 l fail
  simp only [F_ref03_U, fws, cond_true, cond_false, if_true, if_false, unV, isNil, optI, iV, stepI, evalR, reduceIte, reduceCtorEq, Nat.reduceEqDiff, Int.reduceLT, Int.reduceLE, Int.reduceToNat, Nat.reduceLT, Nat.reduceLeDiff, Int.reduceEq, Int.reduceNeg, IntKind.bits, Nat.reduceAdd, Nat.reduceMul, Nat.reducePow, Int.reducePow, ini, fwh, lk, cellsAt, tagOf, spotOf, rdN, spl, fillL, zr, fwi, F_ref03_Ur0_W, F_ref03_Ur1_W, F_ref03_Ur2_W, F_ref03_Ur3_W, F_ref03_Ur4_W, F_ref03_Ur4_g3, F_ref03_Ur5_W, F_ref03_Ur6_W, F_ref03_Ur7_W, F_ref03_Uc_W, CC_of hgr]
  by_cases hf : fail = 0
  · subst hf
    simp only [ne_eq, not_true_eq_false, if_false]
    unfold uR
    cases hg : gr 10 l with
    | ok g r =>
      obtain ⟨gne, glen, hlr⟩ := gr_ok hg
      have hmne : g.map mask ≠ [] := by simpa using gne
      have hdr : l.drop g.length = r := by rw [hlr]; simp
      by_cases h10 : g.length = 10
      · have h10m : (g.map mask).length = 10 := by simpa using h10
        have hix : 9 < (g.map mask).length := by omega
        have hx : ∀ k H, ixaI H 1 (imm byteE (g.map mask)) (.int k 9) = some (atI byteE (g.map mask) 9, H) := fun k H => ix_at (E := byteE) (n := 1) rfl hix k H
        have hlb := lastB_lt hg
        have h9 : (g.map mask)[9].toNat = lastB g := by
          have h8 := lastB_get g (by omega)
          have h9i : g.length - 1 = 9 := by omega
          simp only [h9i] at h8
          rw [h8, List.getElem_map, mask_toNat]
          rw [h8] at hlb
          exact Nat.mod_eq_of_lt hlb
        by_cases hl1 : 1 < lastB g
        · have hl1' : (1 : Int) < (lastB g : Int) := by omega
          simp only [fws, cond_true, cond_false, if_true, if_false, unV, isNil, optI, iV, stepI, evalR, reduceIte, reduceCtorEq, Nat.reduceEqDiff, Int.reduceLT, Int.reduceLE, Int.reduceToNat, Nat.reduceLT, Nat.reduceLeDiff, Int.reduceEq, Int.reduceNeg, IntKind.bits, Nat.reduceAdd, Nat.reduceMul, Nat.reducePow, Int.reducePow, ini, fwh, lk, cellsAt, tagOf, spotOf, rdN, spl, fillL, zr, fwi, F_ref03_Ur0_W, F_ref03_Ur1_W, F_ref03_Ur2_W, F_ref03_Ur3_W, F_ref03_Ur4_W, F_ref03_Ur4_g3, F_ref03_Ur5_W, F_ref03_Ur6_W, F_ref03_Ur7_W, F_ref03_Uc_W, h10m, hx, at_cons hix, h9, hl1, hl1', h10, and_self]
          rw [← h10, hdr]
          exact frz_pure (by simp [pure_agg, pure_tup, pure_int, pure_bool, pure_string, pure_slN, pure_ptrN, pure_mapN, pure_imm, pure_immN, bltN, byteE_d, intE_d, boolE_d, strE_d])
        · have hl1' : ¬ ((1 : Int) < (lastB g : Int)) := by omega
          have hb := f_ref03_bits h2 (g.map mask) hmne (by omega) false
          have hn := f_ref03_number h3 _ (padded_length (g.map mask) false)
          simp only [fws, cond_true, cond_false, if_true, if_false, unV, isNil, optI, iV, stepI, evalR, reduceIte, reduceCtorEq, Nat.reduceEqDiff, Int.reduceLT, Int.reduceLE, Int.reduceToNat, Nat.reduceLT, Nat.reduceLeDiff, Int.reduceEq, Int.reduceNeg, IntKind.bits, Nat.reduceAdd, Nat.reduceMul, Nat.reducePow, Int.reducePow, ini, fwh, lk, cellsAt, tagOf, spotOf, rdN, spl, fillL, zr, fwi, F_ref03_Ur0_W, F_ref03_Ur1_W, F_ref03_Ur2_W, F_ref03_Ur3_W, F_ref03_Ur4_W, F_ref03_Ur4_g3, F_ref03_Ur5_W, F_ref03_Ur6_W, F_ref03_Ur7_W, F_ref03_Uc_W, h10m, hx, at_cons hix, h9, hl1, hl1', and_false, CC_of hb, CC_of hn, numB_padded g gne glen, hdr]
          exact frz_pure (by simp [pure_agg, pure_tup, pure_int, pure_bool, pure_string, pure_slN, pure_ptrN, pure_mapN, pure_imm, pure_immN, bltN, byteE_d, intE_d, boolE_d, strE_d])
      · have h10' : ¬ (((g.map mask).length : Int) = 10) := by simp; omega
        have hb := f_ref03_bits h2 (g.map mask) hmne (by simpa using glen) false
        have hn := f_ref03_number h3 _ (padded_length (g.map mask) false)
        simp only [fws, cond_true, cond_false, if_true, if_false, unV, isNil, optI, iV, stepI, evalR, reduceIte, reduceCtorEq, Nat.reduceEqDiff, Int.reduceLT, Int.reduceLE, Int.reduceToNat, Nat.reduceLT, Nat.reduceLeDiff, Int.reduceEq, Int.reduceNeg, IntKind.bits, Nat.reduceAdd, Nat.reduceMul, Nat.reducePow, Int.reducePow, ini, fwh, lk, cellsAt, tagOf, spotOf, rdN, spl, fillL, zr, fwi, F_ref03_Ur0_W, F_ref03_Ur1_W, F_ref03_Ur2_W, F_ref03_Ur3_W, F_ref03_Ur4_W, F_ref03_Ur4_g3, F_ref03_Ur5_W, F_ref03_Ur6_W, F_ref03_Ur7_W, F_ref03_Uc_W, h10, h10', false_and, CC_of hb, CC_of hn, numB_padded g gne glen, hdr]
        exact frz_pure (by simp [pure_agg, pure_tup, pure_int, pure_bool, pure_string, pure_slN, pure_ptrN, pure_mapN, pure_imm, pure_immN, bltN, byteE_d, intE_d, boolE_d, strE_d])
    | short =>
      simp only [fws, cond_true, cond_false, if_true, if_false, unV, isNil, optI, iV, stepI, evalR, reduceIte, reduceCtorEq, Nat.reduceEqDiff, Int.reduceLT, Int.reduceLE, Int.reduceToNat, Nat.reduceLT, Nat.reduceLeDiff, Int.reduceEq, Int.reduceNeg, IntKind.bits, Nat.reduceAdd, Nat.reduceMul, Nat.reducePow, Int.reducePow, ini, fwh, lk, cellsAt, tagOf, spotOf, rdN, spl, fillL, zr, fwi, F_ref03_Ur0_W, F_ref03_Ur1_W, F_ref03_Ur2_W, F_ref03_Ur3_W, F_ref03_Ur4_W, F_ref03_Ur4_g3, F_ref03_Ur5_W, F_ref03_Ur6_W, F_ref03_Ur7_W, F_ref03_Uc_W, List.drop_length]
      exact frz_pure (by simp [pure_agg, pure_tup, pure_int, pure_bool, pure_string, pure_slN, pure_ptrN, pure_mapN, pure_imm, pure_immN, bltN, byteE_d, intE_d, boolE_d, strE_d])
    | long =>
      simp only [fws, cond_true, cond_false, if_true, if_false, unV, isNil, optI, iV, stepI, evalR, reduceIte, reduceCtorEq, Nat.reduceEqDiff, Int.reduceLT, Int.reduceLE, Int.reduceToNat, Nat.reduceLT, Nat.reduceLeDiff, Int.reduceEq, Int.reduceNeg, IntKind.bits, Nat.reduceAdd, Nat.reduceMul, Nat.reducePow, Int.reducePow, ini, fwh, lk, cellsAt, tagOf, spotOf, rdN, spl, fillL, zr, fwi, F_ref03_Ur0_W, F_ref03_Ur1_W, F_ref03_Ur2_W, F_ref03_Ur3_W, F_ref03_Ur4_W, F_ref03_Ur4_g3, F_ref03_Ur5_W, F_ref03_Ur6_W, F_ref03_Ur7_W, F_ref03_Uc_W]
      exact frz_pure (by simp [pure_agg, pure_tup, pure_int, pure_bool, pure_string, pure_slN, pure_ptrN, pure_mapN, pure_imm, pure_immN, bltN, byteE_d, intE_d, boolE_d, strE_d])
  · simp only [fws, cond_true, cond_false, if_true, if_false, unV, isNil, optI, iV, stepI, evalR, reduceIte, reduceCtorEq, Nat.reduceEqDiff, Int.reduceLT, Int.reduceLE, Int.reduceToNat, Nat.reduceLT, Nat.reduceLeDiff, Int.reduceEq, Int.reduceNeg, IntKind.bits, Nat.reduceAdd, Nat.reduceMul, Nat.reducePow, Int.reducePow, ini, fwh, lk, cellsAt, tagOf, spotOf, rdN, spl, fillL, zr, fwi, F_ref03_Ur0_W, F_ref03_Ur1_W, F_ref03_Ur2_W, F_ref03_Ur3_W, F_ref03_Ur4_W, F_ref03_Ur4_g3, F_ref03_Ur5_W, F_ref03_Ur6_W, F_ref03_Ur7_W, F_ref03_Uc_W, ne_eq, hf, not_false_eq_true]
    exact frz_pure (by simp [pure_agg, pure_tup, pure_int, pure_bool, pure_string, pure_slN, pure_ptrN, pure_mapN, pure_imm, pure_immN, bltN, byteE_d, intE_d, boolE_d, strE_d])

theorem f_ref03_S {T : Tab} (h1 : T 36 = some F_ref03_groups) (h2 : T 38 = some F_ref03_bits) (h3 : T 37 = some F_ref03_number) (h : T 18 = some F_ref03_S) (l : List UInt8) (fail : Int) :
    FnV T 18 [rV l fail] (if fail ≠ 0 then .tuple #[rV l fail, .int .i64 0] else .tuple #[rV (l.drop (sR l).2.1) (sR l).2.2, .int .i64 (sR l).1]) := by
  refine FnV_of (by simp [pure_agg, pure_tup, pure_int, pure_bool, pure_string, pure_slN, pure_ptrN, pure_mapN, pure_imm, pure_immN, bltN, byteE_d, intE_d, boolE_d, strE_d]) ?_
  rw [Ev_fn h rfl]
  have hgr := f_ref03_groups h1 l fail
  simp only [F_ref03_S, fws, cond_true, cond_false, if_true, if_false, unV, isNil, optI, iV, stepI, evalR, reduceIte, reduceCtorEq, Nat.reduceEqDiff, Int.reduceLT, Int.reduceLE, Int.reduceToNat, Nat.reduceLT, Nat.reduceLeDiff, Int.reduceEq, Int.reduceNeg, IntKind.bits, Nat.reduceAdd, Nat.reduceMul, Nat.reducePow, Int.reducePow, ini, fwh, lk, cellsAt, tagOf, spotOf, rdN, spl, fillL, zr, fwi, F_ref03_Sr0_W, F_ref03_Sr1_W, F_ref03_Sr2_W, F_ref03_Sr3_W, F_ref03_Sr4_W, F_ref03_Sr4_g3, F_ref03_Sr4_g9, F_ref03_Sr5_W, F_ref03_Sr6_W, F_ref03_Sr7_W, F_ref03_Sc_W, F_ref03_Sr0_W, F_ref03_Sr1_W, F_ref03_Sr2_W, F_ref03_Sr3_W, F_ref03_Sr4_W, F_ref03_Sr4_g3, F_ref03_Sr4_g9, F_ref03_Sr5_W, F_ref03_Sr6_W, F_ref03_Sr7_W, F_ref03_Sc_W, CC_of hgr]
  by_cases hf : fail = 0
  · subst hf
    simp only [ne_eq, not_true_eq_false, if_false]
    unfold sR
    cases hg : gr 10 l with
    | ok g r =>
      obtain ⟨gne, glen, hlr⟩ := gr_ok hg
      have hmne : g.map mask ≠ [] := by simpa using gne
      have hdr : l.drop g.length = r := by rw [hlr]; simp
      have hlb := lastB_lt hg
      have hb := f_ref03_bits h2 (g.map mask) hmne (by simpa using glen) true
      have hn := f_ref03_number h3 _ (padded_length (g.map mask) true)
      by_cases h10 : g.length = 10
      · have h10m : (g.map mask).length = 10 := by simpa using h10
        have hix : 9 < (g.map mask).length := by omega
        have hx : ∀ k H, ixaI H 1 (imm byteE (g.map mask)) (.int k 9) = some (atI byteE (g.map mask) 9, H) := fun k H => ix_at (E := byteE) (n := 1) rfl hix k H
        have h9 : (g.map mask)[9].toNat = lastB g := by
          have h8 := lastB_get g (by omega)
          have h9i : g.length - 1 = 9 := by omega
          simp only [h9i] at h8
          rw [h8, List.getElem_map, mask_toNat]
          rw [h8] at hlb
          exact Nat.mod_eq_of_lt hlb
        by_cases hl0 : lastB g = 0
        · have hs := numB_signed g gne glen hlb (fun _ => .inl hl0)
          simp only [fws, cond_true, cond_false, if_true, if_false, unV, isNil, optI, iV, stepI, evalR, reduceIte, reduceCtorEq, Nat.reduceEqDiff, Int.reduceLT, Int.reduceLE, Int.reduceToNat, Nat.reduceLT, Nat.reduceLeDiff, Int.reduceEq, Int.reduceNeg, IntKind.bits, Nat.reduceAdd, Nat.reduceMul, Nat.reducePow, Int.reducePow, ini, fwh, lk, cellsAt, tagOf, spotOf, rdN, spl, fillL, zr, fwi, F_ref03_Sr0_W, F_ref03_Sr1_W, F_ref03_Sr2_W, F_ref03_Sr3_W, F_ref03_Sr4_W, F_ref03_Sr4_g3, F_ref03_Sr4_g9, F_ref03_Sr5_W, F_ref03_Sr6_W, F_ref03_Sr7_W, F_ref03_Sc_W, F_ref03_Sr0_W, F_ref03_Sr1_W, F_ref03_Sr2_W, F_ref03_Sr3_W, F_ref03_Sr4_W, F_ref03_Sr4_g3, F_ref03_Sr4_g9, F_ref03_Sr5_W, F_ref03_Sr6_W, F_ref03_Sr7_W, F_ref03_Sc_W, h10m, hx, at_cons hix, h9, hl0, ne_eq, not_true_eq_false, false_and, and_false, CC_of hb, CC_of hn, hs, hdr]
          exact frz_pure (by simp [pure_agg, pure_tup, pure_int, pure_bool, pure_string, pure_slN, pure_ptrN, pure_mapN, pure_imm, pure_immN, bltN, byteE_d, intE_d, boolE_d, strE_d])
        · have hl0' : ¬ ((lastB g : Int) = 0) := by omega
          by_cases hl1 : lastB g = 127
          · have hs := numB_signed g gne glen hlb (fun _ => .inr hl1)
            simp only [fws, cond_true, cond_false, if_true, if_false, unV, isNil, optI, iV, stepI, evalR, reduceIte, reduceCtorEq, Nat.reduceEqDiff, Int.reduceLT, Int.reduceLE, Int.reduceToNat, Nat.reduceLT, Nat.reduceLeDiff, Int.reduceEq, Int.reduceNeg, IntKind.bits, Nat.reduceAdd, Nat.reduceMul, Nat.reducePow, Int.reducePow, ini, fwh, lk, cellsAt, tagOf, spotOf, rdN, spl, fillL, zr, fwi, F_ref03_Sr0_W, F_ref03_Sr1_W, F_ref03_Sr2_W, F_ref03_Sr3_W, F_ref03_Sr4_W, F_ref03_Sr4_g3, F_ref03_Sr4_g9, F_ref03_Sr5_W, F_ref03_Sr6_W, F_ref03_Sr7_W, F_ref03_Sc_W, F_ref03_Sr0_W, F_ref03_Sr1_W, F_ref03_Sr2_W, F_ref03_Sr3_W, F_ref03_Sr4_W, F_ref03_Sr4_g3, F_ref03_Sr4_g9, F_ref03_Sr5_W, F_ref03_Sr6_W, F_ref03_Sr7_W, F_ref03_Sc_W, h10m, hx, at_cons hix, h9, hl1, ne_eq, not_true_eq_false, false_and, and_false, CC_of hb, CC_of hn, hs, hdr]
            exact frz_pure (by simp [pure_agg, pure_tup, pure_int, pure_bool, pure_string, pure_slN, pure_ptrN, pure_mapN, pure_imm, pure_immN, bltN, byteE_d, intE_d, boolE_d, strE_d])
          · have hl1' : ¬ ((lastB g : Int) = 127) := by omega
            simp only [fws, cond_true, cond_false, if_true, if_false, unV, isNil, optI, iV, stepI, evalR, reduceIte, reduceCtorEq, Nat.reduceEqDiff, Int.reduceLT, Int.reduceLE, Int.reduceToNat, Nat.reduceLT, Nat.reduceLeDiff, Int.reduceEq, Int.reduceNeg, IntKind.bits, Nat.reduceAdd, Nat.reduceMul, Nat.reducePow, Int.reducePow, ini, fwh, lk, cellsAt, tagOf, spotOf, rdN, spl, fillL, zr, fwi, F_ref03_Sr0_W, F_ref03_Sr1_W, F_ref03_Sr2_W, F_ref03_Sr3_W, F_ref03_Sr4_W, F_ref03_Sr4_g3, F_ref03_Sr4_g9, F_ref03_Sr5_W, F_ref03_Sr6_W, F_ref03_Sr7_W, F_ref03_Sc_W, F_ref03_Sr0_W, F_ref03_Sr1_W, F_ref03_Sr2_W, F_ref03_Sr3_W, F_ref03_Sr4_W, F_ref03_Sr4_g3, F_ref03_Sr4_g9, F_ref03_Sr5_W, F_ref03_Sr6_W, F_ref03_Sr7_W, F_ref03_Sc_W, h10m, hx, at_cons hix, h9, hl0, hl1, hl0', hl1', h10, ne_eq, not_false_eq_true, and_self]
            rw [← h10, hdr]
            exact frz_pure (by simp [pure_agg, pure_tup, pure_int, pure_bool, pure_string, pure_slN, pure_ptrN, pure_mapN, pure_imm, pure_immN, bltN, byteE_d, intE_d, boolE_d, strE_d])
      · have h10' : ¬ (((g.map mask).length : Int) = 10) := by simp; omega
        have hs := numB_signed g gne glen hlb (fun h => absurd h h10)
        simp only [fws, cond_true, cond_false, if_true, if_false, unV, isNil, optI, iV, stepI, evalR, reduceIte, reduceCtorEq, Nat.reduceEqDiff, Int.reduceLT, Int.reduceLE, Int.reduceToNat, Nat.reduceLT, Nat.reduceLeDiff, Int.reduceEq, Int.reduceNeg, IntKind.bits, Nat.reduceAdd, Nat.reduceMul, Nat.reducePow, Int.reducePow, ini, fwh, lk, cellsAt, tagOf, spotOf, rdN, spl, fillL, zr, fwi, F_ref03_Sr0_W, F_ref03_Sr1_W, F_ref03_Sr2_W, F_ref03_Sr3_W, F_ref03_Sr4_W, F_ref03_Sr4_g3, F_ref03_Sr4_g9, F_ref03_Sr5_W, F_ref03_Sr6_W, F_ref03_Sr7_W, F_ref03_Sc_W, F_ref03_Sr0_W, F_ref03_Sr1_W, F_ref03_Sr2_W, F_ref03_Sr3_W, F_ref03_Sr4_W, F_ref03_Sr4_g3, F_ref03_Sr4_g9, F_ref03_Sr5_W, F_ref03_Sr6_W, F_ref03_Sr7_W, F_ref03_Sc_W, h10, h10', false_and, CC_of hb, CC_of hn, hs, hdr]
        exact frz_pure (by simp [pure_agg, pure_tup, pure_int, pure_bool, pure_string, pure_slN, pure_ptrN, pure_mapN, pure_imm, pure_immN, bltN, byteE_d, intE_d, boolE_d, strE_d])
    | short =>
      simp only [fws, cond_true, cond_false, if_true, if_false, unV, isNil, optI, iV, stepI, evalR, reduceIte, reduceCtorEq, Nat.reduceEqDiff, Int.reduceLT, Int.reduceLE, Int.reduceToNat, Nat.reduceLT, Nat.reduceLeDiff, Int.reduceEq, Int.reduceNeg, IntKind.bits, Nat.reduceAdd, Nat.reduceMul, Nat.reducePow, Int.reducePow, ini, fwh, lk, cellsAt, tagOf, spotOf, rdN, spl, fillL, zr, fwi, F_ref03_Sr0_W, F_ref03_Sr1_W, F_ref03_Sr2_W, F_ref03_Sr3_W, F_ref03_Sr4_W, F_ref03_Sr4_g3, F_ref03_Sr4_g9, F_ref03_Sr5_W, F_ref03_Sr6_W, F_ref03_Sr7_W, F_ref03_Sc_W, F_ref03_Sr0_W, F_ref03_Sr1_W, F_ref03_Sr2_W, F_ref03_Sr3_W, F_ref03_Sr4_W, F_ref03_Sr4_g3, F_ref03_Sr4_g9, F_ref03_Sr5_W, F_ref03_Sr6_W, F_ref03_Sr7_W, F_ref03_Sc_W, List.drop_length]
      exact frz_pure (by simp [pure_agg, pure_tup, pure_int, pure_bool, pure_string, pure_slN, pure_ptrN, pure_mapN, pure_imm, pure_immN, bltN, byteE_d, intE_d, boolE_d, strE_d])
    | long =>
      simp only [fws, cond_true, cond_false, if_true, if_false, unV, isNil, optI, iV, stepI, evalR, reduceIte, reduceCtorEq, Nat.reduceEqDiff, Int.reduceLT, Int.reduceLE, Int.reduceToNat, Nat.reduceLT, Nat.reduceLeDiff, Int.reduceEq, Int.reduceNeg, IntKind.bits, Nat.reduceAdd, Nat.reduceMul, Nat.reducePow, Int.reducePow, ini, fwh, lk, cellsAt, tagOf, spotOf, rdN, spl, fillL, zr, fwi, F_ref03_Sr0_W, F_ref03_Sr1_W, F_ref03_Sr2_W, F_ref03_Sr3_W, F_ref03_Sr4_W, F_ref03_Sr4_g3, F_ref03_Sr4_g9, F_ref03_Sr5_W, F_ref03_Sr6_W, F_ref03_Sr7_W, F_ref03_Sc_W, F_ref03_Sr0_W, F_ref03_Sr1_W, F_ref03_Sr2_W, F_ref03_Sr3_W, F_ref03_Sr4_W, F_ref03_Sr4_g3, F_ref03_Sr4_g9, F_ref03_Sr5_W, F_ref03_Sr6_W, F_ref03_Sr7_W, F_ref03_Sc_W]
      exact frz_pure (by simp [pure_agg, pure_tup, pure_int, pure_bool, pure_string, pure_slN, pure_ptrN, pure_mapN, pure_imm, pure_immN, bltN, byteE_d, intE_d, boolE_d, strE_d])
  · simp only [fws, cond_true, cond_false, if_true, if_false, unV, isNil, optI, iV, stepI, evalR, reduceIte, reduceCtorEq, Nat.reduceEqDiff, Int.reduceLT, Int.reduceLE, Int.reduceToNat, Nat.reduceLT, Nat.reduceLeDiff, Int.reduceEq, Int.reduceNeg, IntKind.bits, Nat.reduceAdd, Nat.reduceMul, Nat.reducePow, Int.reducePow, ini, fwh, lk, cellsAt, tagOf, spotOf, rdN, spl, fillL, zr, fwi, F_ref03_Sr0_W, F_ref03_Sr1_W, F_ref03_Sr2_W, F_ref03_Sr3_W, F_ref03_Sr4_W, F_ref03_Sr4_g3, F_ref03_Sr4_g9, F_ref03_Sr5_W, F_ref03_Sr6_W, F_ref03_Sr7_W, F_ref03_Sc_W, F_ref03_Sr0_W, F_ref03_Sr1_W, F_ref03_Sr2_W, F_ref03_Sr3_W, F_ref03_Sr4_W, F_ref03_Sr4_g3, F_ref03_Sr4_g9, F_ref03_Sr5_W, F_ref03_Sr6_W, F_ref03_Sr7_W, F_ref03_Sc_W, ne_eq, hf, not_false_eq_true]
    exact frz_pure (by simp [pure_agg, pure_tup, pure_int, pure_bool, pure_string, pure_slN, pure_ptrN, pure_mapN, pure_imm, pure_immN, bltN, byteE_d, intE_d, boolE_d, strE_d])

theorem f_ref03_Left {T : Tab} (h : T 24 = some F_ref03_Left) (l : List UInt8) (fail : Int) : FnV T 24 [rV l fail] (.int .i64 (if fail ≠ 0 then 0 else l.length : Nat)) := by
  refine FnV_of (by simp [pure_agg, pure_tup, pure_int, pure_bool, pure_string, pure_slN, pure_ptrN, pure_mapN, pure_imm, pure_immN, bltN, byteE_d, intE_d, boolE_d, strE_d]) ?_
  rw [Ev_fn h rfl]
  by_cases hf : fail = 0
  · simp only [F_ref03_Left, fws, cond_true, cond_false, if_true, if_false, unV, isNil, optI, iV, stepI, evalR, reduceIte, reduceCtorEq, Nat.reduceEqDiff, Int.reduceLT, Int.reduceLE, Int.reduceToNat, Nat.reduceLT, Nat.reduceLeDiff, Int.reduceEq, Int.reduceNeg, IntKind.bits, Nat.reduceAdd, Nat.reduceMul, Nat.reducePow, Int.reducePow, ini, fwh, lk, cellsAt, tagOf, spotOf, rdN, spl, fillL, zr, fwi, F_ref03_Leftr0_W, F_ref03_Leftr1_W, F_ref03_Leftr2_W, F_ref03_Leftr3_W, F_ref03_Leftc_W, hf, ne_eq, not_true_eq_false]
    exact frz_pure (by simp [pure_agg, pure_tup, pure_int, pure_bool, pure_string, pure_slN, pure_ptrN, pure_mapN, pure_imm, pure_immN, bltN, byteE_d, intE_d, boolE_d, strE_d])
  · simp only [F_ref03_Left, fws, cond_true, cond_false, if_true, if_false, unV, isNil, optI, iV, stepI, evalR, reduceIte, reduceCtorEq, Nat.reduceEqDiff, Int.reduceLT, Int.reduceLE, Int.reduceToNat, Nat.reduceLT, Nat.reduceLeDiff, Int.reduceEq, Int.reduceNeg, IntKind.bits, Nat.reduceAdd, Nat.reduceMul, Nat.reducePow, Int.reducePow, ini, fwh, lk, cellsAt, tagOf, spotOf, rdN, spl, fillL, zr, fwi, F_ref03_Leftr0_W, F_ref03_Leftr1_W, F_ref03_Leftr2_W, F_ref03_Leftr3_W, F_ref03_Leftc_W, hf, ne_eq, not_false_eq_true]
    exact frz_pure (by simp [pure_agg, pure_tup, pure_int, pure_bool, pure_string, pure_slN, pure_ptrN, pure_mapN, pure_imm, pure_immN, bltN, byteE_d, intE_d, boolE_d, strE_d])
end Go.Proofs.Ytdkdifjjpbfohaa
