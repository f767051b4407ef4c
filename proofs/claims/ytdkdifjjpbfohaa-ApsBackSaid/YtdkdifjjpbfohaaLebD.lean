/- Numbers of a reader: from 0 on, with signs. -/
import Derived.Test.YtdkdifjjpbfohaaLebC
namespace Go.Proofs.Ytdkdifjjpbfohaa
open Go Fw
set_option linter.unusedSimpArgs false
set_option linter.unusedVariables false

/-- What groups say with a sign. -/
def sval (g : List UInt8) : Int := if 64 ≤ lastB g % 128 then (val g : Int) - 128 ^ g.length else val g
/-- The next number: it, how many bytes it took, the error. -/
def uR (l : List UInt8) : Nat × Nat × Int :=
  match gr 10 l with
  | .ok g _ => if g.length = 10 ∧ 1 < lastB g then (0, g.length, 30) else (val g % 18446744073709551616, g.length, 0)
  | .short => (0, l.length, 20)
  | .long => (0, 10, 30)
def sR (l : List UInt8) : Int × Nat × Int :=
  match gr 10 l with
  | .ok g _ => if g.length = 10 ∧ lastB g ≠ 0 ∧ lastB g ≠ 127 then (0, g.length, 30) else (sval g, g.length, 0)
  | .short => (0, l.length, 20)
  | .long => (0, 10, 30)

theorem lastB_lt : ∀ {f : Nat} {l g r : List UInt8}, gr f l = .ok g r → lastB g < 128
  | 0, l, g, r, h => by cases h
  | f + 1, [], g, r, h => by cases h
  | f + 1, c :: l, g, r, h => by
    simp only [gr] at h
    split at h
    · rename_i hc; cases h; exact hc
    · cases hg : gr f l with
      | ok g' r' =>
        rw [hg] at h
        cases h
        have := lastB_lt hg
        cases g' with
        | nil => exact absurd rfl (gr_ok hg).1
        | cons c2 g2 => exact this
      | short => rw [hg] at h; cases h
      | long => rw [hg] at h; cases h
theorem val_lt : ∀ (g : List UInt8), val g < 128 ^ g.length
  | [] => by simp [val]
  | c :: g => by
    have := val_lt g
    rw [val, List.length_cons, Nat.pow_succ]
    omega
/-- What the last group adds. -/
theorem val_last : ∀ (g : List UInt8), g ≠ [] → ∃ v, v < 128 ^ (g.length - 1) ∧ val g = v + 128 ^ (g.length - 1) * (lastB g % 128)
  | [], h => absurd rfl h
  | [c], _ => ⟨0, by simp, by simp [val, lastB]⟩
  | c :: c2 :: g, _ => by
    obtain ⟨v, h1, h2⟩ := val_last (c2 :: g) (by simp)
    have e1 : (c2 :: g).length - 1 = g.length := by simp
    have e2 : (c :: c2 :: g).length - 1 = g.length + 1 := by simp
    rw [e1] at h1 h2
    rw [e2]
    refine ⟨c.toNat % 128 + 128 * v, by rw [Nat.pow_succ]; omega, ?_⟩
    have e3 : lastB (c :: c2 :: g) = lastB (c2 :: g) := rfl
    rw [val, h2, e3, Nat.pow_succ, Nat.mul_add, ← Nat.mul_assoc, Nat.mul_comm 128 (128 ^ g.length), Nat.add_assoc]

theorem ev_leb_U {T : Tab} (hg0 : T 39 = some F_leb_Reader_groups) (h : T 21 = some F_leb_Reader_U) (H : Heap) (k : Nat) (hk : k < H.length) (l : List UInt8) (hl : l.length < 9223372036854775000) {at_ : Nat} (ha : at_ ≤ l.length) (fail : Int) :
    Ev T 21 [.pointer (some ⟨k, 0, none⟩)] (H.set k (ro l at_ fail)) fun v h' =>
      if fail ≠ 0 then v = .int .u64 0 ∧ h' = H.set k (ro l at_ fail) else v = .int .u64 (uR (l.drop at_)).1 ∧ h' = H.set k (ro l (at_ + (uR (l.drop at_)).2.1) (uR (l.drop at_)).2.2) := by
  rw [Ev_fn h rfl]
  simp only [F_leb_Reader_U, fws, cond_true, cond_false, if_true, if_false, unV, isNil, optI, iV, stepI, evalR, reduceIte, reduceCtorEq, Nat.reduceEqDiff, Int.reduceLT, Int.reduceLE, Int.reduceToNat, Nat.reduceLT, Nat.reduceLeDiff, Int.reduceEq, Int.reduceNeg, IntKind.bits, Nat.reduceAdd, Nat.reduceMul, Nat.reducePow, Int.reducePow, ini, F_leb_Reader_Ur0_W, F_leb_Reader_Ur1_W, F_leb_Reader_Ur2_W, F_leb_Reader_Ur2_g2, F_leb_Reader_Ur3_W, F_leb_Reader_Ur4_W, F_leb_Reader_Ur5_W, F_leb_Reader_Uc_W]
  refine (ev_leb_groups hg0 H k hk l hl ha fail).mono fun v h' hv => ?_
  by_cases hf : fail = 0
  · subst hf
    simp only [ne_eq, not_true_eq_false, if_false] at hv ⊢
    unfold uR
    cases hg : gr 10 (l.drop at_) with
    | ok g r =>
      rw [hg] at hv
      obtain ⟨rfl, rfl⟩ := hv
      by_cases h10 : g.length = 10
      · by_cases hl1 : 1 < lastB g
        · have hl1' : (1 : Int) < (lastB g : Int) := by omega
          simp only [fws, cond_true, cond_false, if_true, if_false, unV, isNil, optI, iV, stepI, evalR, reduceIte, reduceCtorEq, Nat.reduceEqDiff, Int.reduceLT, Int.reduceLE, Int.reduceToNat, Nat.reduceLT, Nat.reduceLeDiff, Int.reduceEq, Int.reduceNeg, IntKind.bits, Nat.reduceAdd, Nat.reduceMul, Nat.reducePow, Int.reducePow, ini, fwh, lk, cellsAt, tagOf, spotOf, rdN, spl, fillL, zr, fwi, F_leb_Reader_Ur0_W, F_leb_Reader_Ur1_W, F_leb_Reader_Ur2_W, F_leb_Reader_Ur2_g2, F_leb_Reader_Ur3_W, F_leb_Reader_Ur4_W, F_leb_Reader_Ur5_W, F_leb_Reader_Uc_W, set_get hk, List.length_set, List.set_set, ro, oneAll_int, h10, hl1', hl1, and_self]
        · have hl1' : ¬ ((1 : Int) < (lastB g : Int)) := by omega
          simp only [fws, cond_true, cond_false, if_true, if_false, unV, isNil, optI, iV, stepI, evalR, reduceIte, reduceCtorEq, Nat.reduceEqDiff, Int.reduceLT, Int.reduceLE, Int.reduceToNat, Nat.reduceLT, Nat.reduceLeDiff, Int.reduceEq, Int.reduceNeg, IntKind.bits, Nat.reduceAdd, Nat.reduceMul, Nat.reducePow, Int.reducePow, ini, fwh, lk, cellsAt, tagOf, spotOf, rdN, spl, fillL, zr, fwi, F_leb_Reader_Ur0_W, F_leb_Reader_Ur1_W, F_leb_Reader_Ur2_W, F_leb_Reader_Ur2_g2, F_leb_Reader_Ur3_W, F_leb_Reader_Ur4_W, F_leb_Reader_Ur5_W, F_leb_Reader_Uc_W, set_get hk, List.length_set, List.set_set, ro, oneAll_int, h10, hl1', hl1, and_false, and_self]
      · have h10' : ¬ ((g.length : Int) = 10) := by omega
        simp only [fws, cond_true, cond_false, if_true, if_false, unV, isNil, optI, iV, stepI, evalR, reduceIte, reduceCtorEq, Nat.reduceEqDiff, Int.reduceLT, Int.reduceLE, Int.reduceToNat, Nat.reduceLT, Nat.reduceLeDiff, Int.reduceEq, Int.reduceNeg, IntKind.bits, Nat.reduceAdd, Nat.reduceMul, Nat.reducePow, Int.reducePow, ini, fwh, lk, cellsAt, tagOf, spotOf, rdN, spl, fillL, zr, fwi, F_leb_Reader_Ur0_W, F_leb_Reader_Ur1_W, F_leb_Reader_Ur2_W, F_leb_Reader_Ur2_g2, F_leb_Reader_Ur3_W, F_leb_Reader_Ur4_W, F_leb_Reader_Ur5_W, F_leb_Reader_Uc_W, set_get hk, List.length_set, List.set_set, ro, oneAll_int, h10, h10', false_and, and_self]
    | short =>
      rw [hg] at hv
      obtain ⟨rfl, rfl⟩ := hv
      have e1 : at_ + (l.drop at_).length = l.length := by rw [List.length_drop]; omega
      simp only [fws, cond_true, cond_false, if_true, if_false, unV, isNil, optI, iV, stepI, evalR, reduceIte, reduceCtorEq, Nat.reduceEqDiff, Int.reduceLT, Int.reduceLE, Int.reduceToNat, Nat.reduceLT, Nat.reduceLeDiff, Int.reduceEq, Int.reduceNeg, IntKind.bits, Nat.reduceAdd, Nat.reduceMul, Nat.reducePow, Int.reducePow, ini, fwh, lk, cellsAt, tagOf, spotOf, rdN, spl, fillL, zr, fwi, F_leb_Reader_Ur0_W, F_leb_Reader_Ur1_W, F_leb_Reader_Ur2_W, F_leb_Reader_Ur2_g2, F_leb_Reader_Ur3_W, F_leb_Reader_Ur4_W, F_leb_Reader_Ur5_W, F_leb_Reader_Uc_W, e1, and_self]
    | long =>
      rw [hg] at hv
      obtain ⟨rfl, rfl⟩ := hv
      simp only [fws, cond_true, cond_false, if_true, if_false, unV, isNil, optI, iV, stepI, evalR, reduceIte, reduceCtorEq, Nat.reduceEqDiff, Int.reduceLT, Int.reduceLE, Int.reduceToNat, Nat.reduceLT, Nat.reduceLeDiff, Int.reduceEq, Int.reduceNeg, IntKind.bits, Nat.reduceAdd, Nat.reduceMul, Nat.reducePow, Int.reducePow, ini, fwh, lk, cellsAt, tagOf, spotOf, rdN, spl, fillL, zr, fwi, F_leb_Reader_Ur0_W, F_leb_Reader_Ur1_W, F_leb_Reader_Ur2_W, F_leb_Reader_Ur2_g2, F_leb_Reader_Ur3_W, F_leb_Reader_Ur4_W, F_leb_Reader_Ur5_W, F_leb_Reader_Uc_W, and_self]
  · simp only [ne_eq, hf, not_false_eq_true, if_true] at hv ⊢
    obtain ⟨rfl, rfl⟩ := hv
    simp only [fws, cond_true, cond_false, if_true, if_false, unV, isNil, optI, iV, stepI, evalR, reduceIte, reduceCtorEq, Nat.reduceEqDiff, Int.reduceLT, Int.reduceLE, Int.reduceToNat, Nat.reduceLT, Nat.reduceLeDiff, Int.reduceEq, Int.reduceNeg, IntKind.bits, Nat.reduceAdd, Nat.reduceMul, Nat.reducePow, Int.reducePow, ini, fwh, lk, cellsAt, tagOf, spotOf, rdN, spl, fillL, zr, fwi, F_leb_Reader_Ur0_W, F_leb_Reader_Ur1_W, F_leb_Reader_Ur2_W, F_leb_Reader_Ur2_g2, F_leb_Reader_Ur3_W, F_leb_Reader_Ur4_W, F_leb_Reader_Ur5_W, F_leb_Reader_Uc_W, and_self]

theorem and64' (c : Nat) (hc : c < 128) : Go.bits .and .u8 (c : Int) 64 = if 64 ≤ c then 64 else 0 := by
  have key : ((List.range 128).all fun m => decide (Go.bits .and .u8 (m : Int) 64 = if 64 ≤ m then 64 else 0)) = true := by kernel_rfl
  exact of_decide_eq_true (List.all_eq_true.1 key c (by simpa using hc))

/-- All bits from a place on. -/
theorem or_high {m v : Nat} (hm : m ≤ 9) (hv : v < 128 ^ m) : Go.bits .or .u64 (v : Int) (IntKind.u64.wrap (18446744073709551615 * 2 ^ (7 * m))) = ((v + (18446744073709551616 - 128 ^ m) : Nat) : Int) := by
  have e128 : 128 ^ m = 2 ^ (7 * m) := by rw [Nat.pow_mul]
  have hle : 2 ^ (7 * m) ≤ 2 ^ 63 := Nat.pow_le_pow_right (by decide) (by omega)
  have hd : 18446744073709551616 = 2 ^ (7 * m) * 2 ^ (64 - 7 * m) := by rw [← Nat.pow_add, show 7 * m + (64 - 7 * m) = 64 by omega]
  rw [e128] at hv ⊢
  have e63 : (2 : Nat) ^ 63 = 9223372036854775808 := by decide
  obtain ⟨q, hq⟩ : ∃ q, q = 2 ^ (64 - 7 * m) := ⟨_, rfl⟩
  obtain ⟨p, hp⟩ : ∃ p, p = 2 ^ (7 * m) := ⟨_, rfl⟩
  have hp0 : 0 < p := by rw [hp]; exact Nat.two_pow_pos _
  have hq0 : 0 < q := by rw [hq]; exact Nat.two_pow_pos _
  rw [← hq, ← hp] at hd
  rw [← hp] at hle hv ⊢
  have hw : IntKind.u64.wrap (18446744073709551615 * 2 ^ (7 * m)) = ((p * (q - 1) : Nat) : Int) := by
    have e1 : (18446744073709551615 * 2 ^ (7 * m) : Int) = ((18446744073709551615 * p : Nat) : Int) := by
      rw [Int.natCast_mul, hp, Int.natCast_pow]
      rfl
    rw [wrap_u64, e1]
    have e2 : (18446744073709551615 * p) % 18446744073709551616 = p * (q - 1) := by
      have e3 : 18446744073709551615 * p = p * (q - 1) + 18446744073709551616 * (p - 1) := by
        have : 18446744073709551615 * p + p = 18446744073709551616 * p := by omega
        have h4 : p * (q - 1) + p = 18446744073709551616 := by rw [hd, ← Nat.mul_succ]; congr 1; omega
        have h5 : 18446744073709551616 * (p - 1) + 18446744073709551616 = 18446744073709551616 * p := by rw [← Nat.mul_succ]; congr 1; omega
        omega
      rw [e3, Nat.add_mul_mod_self_left, Nat.mod_eq_of_lt]
      have h4 : p * (q - 1) + p = 18446744073709551616 := by rw [hd, ← Nat.mul_succ]; congr 1; omega
      omega
    have := congrArg (fun n : Nat => (n : Int)) e2
    simpa [Int.natCast_emod] using this
  have h4 : p * (q - 1) + p = 18446744073709551616 := by rw [hd, ← Nat.mul_succ]; congr 1; omega
  rw [hw]
  have hor := (bits_nat .u64 64 (by decide) (fun n h0 h1 => by rw [wrap_u64]; have : (2 : Int) ^ 64 = 18446744073709551616 := by decide
                                                               omega) v (p * (q - 1)) (by omega) (by omega)).2
  rw [hor, Nat.or_comm]
  rw [hp] at hv
  have h6 := Nat.two_pow_add_eq_or_of_lt hv (q - 1)
  rw [← hp] at h6
  rw [← h6]
  congr 1
  omega

theorem ev_leb_S {T : Tab} (hg0 : T 39 = some F_leb_Reader_groups) (h : T 19 = some F_leb_Reader_S) (H : Heap) (k : Nat) (hk : k < H.length) (l : List UInt8) (hl : l.length < 9223372036854775000) {at_ : Nat} (ha : at_ ≤ l.length) (fail : Int) :
    Ev T 19 [.pointer (some ⟨k, 0, none⟩)] (H.set k (ro l at_ fail)) fun v h' =>
      if fail ≠ 0 then v = .int .i64 0 ∧ h' = H.set k (ro l at_ fail) else v = .int .i64 (sR (l.drop at_)).1 ∧ h' = H.set k (ro l (at_ + (sR (l.drop at_)).2.1) (sR (l.drop at_)).2.2) := by
  rw [Ev_fn h rfl]
  simp only [F_leb_Reader_S, fws, cond_true, cond_false, if_true, if_false, unV, isNil, optI, iV, stepI, evalR, reduceIte, reduceCtorEq, Nat.reduceEqDiff, Int.reduceLT, Int.reduceLE, Int.reduceToNat, Nat.reduceLT, Nat.reduceLeDiff, Int.reduceEq, Int.reduceNeg, IntKind.bits, Nat.reduceAdd, Nat.reduceMul, Nat.reducePow, Int.reducePow, ini, F_leb_Reader_Sr0_W, F_leb_Reader_Sr1_W, F_leb_Reader_Sr2_W, F_leb_Reader_Sr2_g2, F_leb_Reader_Sr2_g6, F_leb_Reader_Sr3_W, F_leb_Reader_Sr4_W, F_leb_Reader_Sr5_W, F_leb_Reader_Sr5_g2, F_leb_Reader_Sr5_g6, F_leb_Reader_Sr6_W, F_leb_Reader_Sr7_W, F_leb_Reader_Sc_W, F_leb_Reader_Sr0_W, F_leb_Reader_Sr1_W, F_leb_Reader_Sr2_W, F_leb_Reader_Sr2_g2, F_leb_Reader_Sr2_g6, F_leb_Reader_Sr3_W, F_leb_Reader_Sr4_W, F_leb_Reader_Sr5_W, F_leb_Reader_Sr5_g2, F_leb_Reader_Sr5_g6, F_leb_Reader_Sr6_W, F_leb_Reader_Sr7_W, F_leb_Reader_Sc_W]
  have hz : IntKind.i64.wrap 0 = 0 := rfl
  refine (ev_leb_groups hg0 H k hk l hl ha fail).mono fun v h' hv => ?_
  by_cases hf : fail = 0
  · subst hf
    simp only [ne_eq, not_true_eq_false, if_false] at hv ⊢
    unfold sR
    cases hg : gr 10 (l.drop at_) with
    | ok g r =>
      rw [hg] at hv
      obtain ⟨rfl, rfl⟩ := hv
      obtain ⟨gne, glen, _⟩ := gr_ok hg
      have hlb := lastB_lt hg
      have hvl := val_lt g
      obtain ⟨v9, hv9, hval⟩ := val_last g gne
      have hlm : lastB g % 128 = lastB g := Nat.mod_eq_of_lt hlb
      rw [hlm] at hval
      have g0 : 0 < g.length := by cases g with | nil => exact absurd rfl gne | cons => simp
      have e63 : (128 : Nat) ^ 9 = 9223372036854775808 := by decide
      by_cases h10 : g.length = 10
      · have e9 : g.length - 1 = 9 := by omega
        rw [e9, e63] at hv9 hval
        have g1 : ¬ ((10 : Int) < 10) := by omega
        by_cases hl0 : lastB g = 0
        · have hn : val g % 18446744073709551616 = val g := by rw [hl0] at hval; omega
          have hw : IntKind.i64.wrap ((val g : Nat) : Int) = val g := wrapI64 (by omega) (by rw [hl0] at hval; omega)
          have hs : sval g = val g := by unfold sval; rw [hlm, if_neg (by omega)]
          simp only [fws, cond_true, cond_false, if_true, if_false, unV, isNil, optI, iV, stepI, evalR, reduceIte, reduceCtorEq, Nat.reduceEqDiff, Int.reduceLT, Int.reduceLE, Int.reduceToNat, Nat.reduceLT, Nat.reduceLeDiff, Int.reduceEq, Int.reduceNeg, IntKind.bits, Nat.reduceAdd, Nat.reduceMul, Nat.reducePow, Int.reducePow, ini, fwh, lk, cellsAt, tagOf, spotOf, rdN, spl, fillL, zr, fwi, F_leb_Reader_Sr0_W, F_leb_Reader_Sr1_W, F_leb_Reader_Sr2_W, F_leb_Reader_Sr2_g2, F_leb_Reader_Sr2_g6, F_leb_Reader_Sr3_W, F_leb_Reader_Sr4_W, F_leb_Reader_Sr5_W, F_leb_Reader_Sr5_g2, F_leb_Reader_Sr5_g6, F_leb_Reader_Sr6_W, F_leb_Reader_Sr7_W, F_leb_Reader_Sc_W, F_leb_Reader_Sr0_W, F_leb_Reader_Sr1_W, F_leb_Reader_Sr2_W, F_leb_Reader_Sr2_g2, F_leb_Reader_Sr2_g6, F_leb_Reader_Sr3_W, F_leb_Reader_Sr4_W, F_leb_Reader_Sr5_W, F_leb_Reader_Sr5_g2, F_leb_Reader_Sr5_g6, F_leb_Reader_Sr6_W, F_leb_Reader_Sr7_W, F_leb_Reader_Sc_W, set_get hk, List.length_set, List.set_set, ro, oneAll_int, h10, hl0, hn, hw, hs, ne_eq, not_true_eq_false, false_and, and_false, and_self]
        · have hl0' : ¬ ((lastB g : Int) = 0) := by omega
          by_cases hl1 : lastB g = 127
          · have hn : val g % 18446744073709551616 = v9 + 9223372036854775808 := by rw [hl1] at hval; omega
            have hw : IntKind.i64.wrap ((v9 + 9223372036854775808 : Nat) : Int) = (val g : Int) - 128 ^ g.length := by
              rw [h10, Go.IntKind.wrap_i64]
              have : (128 : Int) ^ 10 = 1180591620717411303424 := by decide
              rw [hl1] at hval
              omega
            have hs : sval g = (val g : Int) - 128 ^ g.length := by unfold sval; rw [hlm, if_pos (by omega)]
            simp only [fws, cond_true, cond_false, if_true, if_false, unV, isNil, optI, iV, stepI, evalR, reduceIte, reduceCtorEq, Nat.reduceEqDiff, Int.reduceLT, Int.reduceLE, Int.reduceToNat, Nat.reduceLT, Nat.reduceLeDiff, Int.reduceEq, Int.reduceNeg, IntKind.bits, Nat.reduceAdd, Nat.reduceMul, Nat.reducePow, Int.reducePow, ini, fwh, lk, cellsAt, tagOf, spotOf, rdN, spl, fillL, zr, fwi, F_leb_Reader_Sr0_W, F_leb_Reader_Sr1_W, F_leb_Reader_Sr2_W, F_leb_Reader_Sr2_g2, F_leb_Reader_Sr2_g6, F_leb_Reader_Sr3_W, F_leb_Reader_Sr4_W, F_leb_Reader_Sr5_W, F_leb_Reader_Sr5_g2, F_leb_Reader_Sr5_g6, F_leb_Reader_Sr6_W, F_leb_Reader_Sr7_W, F_leb_Reader_Sc_W, F_leb_Reader_Sr0_W, F_leb_Reader_Sr1_W, F_leb_Reader_Sr2_W, F_leb_Reader_Sr2_g2, F_leb_Reader_Sr2_g6, F_leb_Reader_Sr3_W, F_leb_Reader_Sr4_W, F_leb_Reader_Sr5_W, F_leb_Reader_Sr5_g2, F_leb_Reader_Sr5_g6, F_leb_Reader_Sr6_W, F_leb_Reader_Sr7_W, F_leb_Reader_Sc_W, set_get hk, List.length_set, List.set_set, ro, oneAll_int, h10, hl1, hn, hw, hs, ne_eq, not_true_eq_false, false_and, and_false, and_self]
          · have hl1' : ¬ ((lastB g : Int) = 127) := by omega
            simp only [fws, cond_true, cond_false, if_true, if_false, unV, isNil, optI, iV, stepI, evalR, reduceIte, reduceCtorEq, Nat.reduceEqDiff, Int.reduceLT, Int.reduceLE, Int.reduceToNat, Nat.reduceLT, Nat.reduceLeDiff, Int.reduceEq, Int.reduceNeg, IntKind.bits, Nat.reduceAdd, Nat.reduceMul, Nat.reducePow, Int.reducePow, ini, fwh, lk, cellsAt, tagOf, spotOf, rdN, spl, fillL, zr, fwi, F_leb_Reader_Sr0_W, F_leb_Reader_Sr1_W, F_leb_Reader_Sr2_W, F_leb_Reader_Sr2_g2, F_leb_Reader_Sr2_g6, F_leb_Reader_Sr3_W, F_leb_Reader_Sr4_W, F_leb_Reader_Sr5_W, F_leb_Reader_Sr5_g2, F_leb_Reader_Sr5_g6, F_leb_Reader_Sr6_W, F_leb_Reader_Sr7_W, F_leb_Reader_Sc_W, F_leb_Reader_Sr0_W, F_leb_Reader_Sr1_W, F_leb_Reader_Sr2_W, F_leb_Reader_Sr2_g2, F_leb_Reader_Sr2_g6, F_leb_Reader_Sr3_W, F_leb_Reader_Sr4_W, F_leb_Reader_Sr5_W, F_leb_Reader_Sr5_g2, F_leb_Reader_Sr5_g6, F_leb_Reader_Sr6_W, F_leb_Reader_Sr7_W, F_leb_Reader_Sc_W, set_get hk, List.length_set, List.set_set, ro, oneAll_int, h10, hl0, hl1, hl0', hl1', ne_eq, not_false_eq_true, and_self]
      · have h10' : ¬ ((g.length : Int) = 10) := by omega
        have g1 : (0 : Int) < (g.length : Int) := by omega
        have g2 : (g.length : Int) < 10 := by omega
        have hle : 128 ^ g.length ≤ 128 ^ 9 := Nat.pow_le_pow_right (by decide) (by omega)
        have hn : val g % 18446744073709551616 = val g := by omega
        have ha64 := and64' (lastB g) hlb
        have hpw : 128 ^ g.length = 128 ^ (g.length - 1) * 128 := by rw [← Nat.pow_succ]; congr 1; omega
        by_cases h64 : 64 ≤ lastB g
        · rw [if_pos h64] at ha64
          have w3 : IntKind.i64.wrap (7 * (g.length : Int)) = ((7 * g.length : Nat) : Int) := by rw [wrapI64 (by omega) (by omega)]; rfl
          have w4 : ¬ (((7 * g.length : Nat) : Int) < 0) := by omega
          have w5 : ¬ (64 < 7 * g.length) := by omega
          have w6 : min (7 * g.length) 64 = 7 * g.length := by omega
          have hor := or_high (m := g.length) (by omega) hvl
          have hge : 64 * 128 ^ (g.length - 1) ≤ 128 ^ (g.length - 1) * lastB g := by rw [Nat.mul_comm]; exact Nat.mul_le_mul_left _ h64
          have hw : IntKind.i64.wrap ((val g + (18446744073709551616 - 128 ^ g.length) : Nat) : Int) = (val g : Int) - 128 ^ g.length := by
            rw [Go.IntKind.wrap_i64]
            have : ((128 ^ g.length : Nat) : Int) = (128 : Int) ^ g.length := Int.natCast_pow ..
            rw [← this]
            omega
          have hs : sval g = (val g : Int) - 128 ^ g.length := by unfold sval; rw [hlm, if_pos h64]
          simp only [fws, cond_true, cond_false, if_true, if_false, unV, isNil, optI, iV, stepI, evalR, reduceIte, reduceCtorEq, Nat.reduceEqDiff, Int.reduceLT, Int.reduceLE, Int.reduceToNat, Nat.reduceLT, Nat.reduceLeDiff, Int.reduceEq, Int.reduceNeg, IntKind.bits, Nat.reduceAdd, Nat.reduceMul, Nat.reducePow, Int.reducePow, ini, fwh, lk, cellsAt, tagOf, spotOf, rdN, spl, fillL, zr, fwi, F_leb_Reader_Sr0_W, F_leb_Reader_Sr1_W, F_leb_Reader_Sr2_W, F_leb_Reader_Sr2_g2, F_leb_Reader_Sr2_g6, F_leb_Reader_Sr3_W, F_leb_Reader_Sr4_W, F_leb_Reader_Sr5_W, F_leb_Reader_Sr5_g2, F_leb_Reader_Sr5_g6, F_leb_Reader_Sr6_W, F_leb_Reader_Sr7_W, F_leb_Reader_Sc_W, F_leb_Reader_Sr0_W, F_leb_Reader_Sr1_W, F_leb_Reader_Sr2_W, F_leb_Reader_Sr2_g2, F_leb_Reader_Sr2_g6, F_leb_Reader_Sr3_W, F_leb_Reader_Sr4_W, F_leb_Reader_Sr5_W, F_leb_Reader_Sr5_g2, F_leb_Reader_Sr5_g6, F_leb_Reader_Sr6_W, F_leb_Reader_Sr7_W, F_leb_Reader_Sc_W, set_get hk, List.length_set, List.set_set, ro, oneAll_int, h10, h10', g1, g2, hn, ha64, w3, w4, w5, w6, hor, hw, hs, false_and, and_self]
        · rw [if_neg h64] at ha64
          have hlt : 128 ^ (g.length - 1) * lastB g + 128 ^ (g.length - 1) ≤ 64 * 128 ^ (g.length - 1) := by
            rw [← Nat.mul_succ, Nat.mul_comm]; exact Nat.mul_le_mul_right _ (by omega)
          have hw : IntKind.i64.wrap ((val g : Nat) : Int) = val g := wrapI64 (by omega) (by omega)
          have hs : sval g = val g := by unfold sval; rw [hlm, if_neg h64]
          simp only [fws, cond_true, cond_false, if_true, if_false, unV, isNil, optI, iV, stepI, evalR, reduceIte, reduceCtorEq, Nat.reduceEqDiff, Int.reduceLT, Int.reduceLE, Int.reduceToNat, Nat.reduceLT, Nat.reduceLeDiff, Int.reduceEq, Int.reduceNeg, IntKind.bits, Nat.reduceAdd, Nat.reduceMul, Nat.reducePow, Int.reducePow, ini, fwh, lk, cellsAt, tagOf, spotOf, rdN, spl, fillL, zr, fwi, F_leb_Reader_Sr0_W, F_leb_Reader_Sr1_W, F_leb_Reader_Sr2_W, F_leb_Reader_Sr2_g2, F_leb_Reader_Sr2_g6, F_leb_Reader_Sr3_W, F_leb_Reader_Sr4_W, F_leb_Reader_Sr5_W, F_leb_Reader_Sr5_g2, F_leb_Reader_Sr5_g6, F_leb_Reader_Sr6_W, F_leb_Reader_Sr7_W, F_leb_Reader_Sc_W, F_leb_Reader_Sr0_W, F_leb_Reader_Sr1_W, F_leb_Reader_Sr2_W, F_leb_Reader_Sr2_g2, F_leb_Reader_Sr2_g6, F_leb_Reader_Sr3_W, F_leb_Reader_Sr4_W, F_leb_Reader_Sr5_W, F_leb_Reader_Sr5_g2, F_leb_Reader_Sr5_g6, F_leb_Reader_Sr6_W, F_leb_Reader_Sr7_W, F_leb_Reader_Sc_W, set_get hk, List.length_set, List.set_set, ro, oneAll_int, h10, h10', g1, g2, hn, ha64, hw, hs, false_and, and_self]
    | short =>
      rw [hg] at hv
      obtain ⟨rfl, rfl⟩ := hv
      have e1 : at_ + (l.drop at_).length = l.length := by rw [List.length_drop]; omega
      simp only [fws, cond_true, cond_false, if_true, if_false, unV, isNil, optI, iV, stepI, evalR, reduceIte, reduceCtorEq, Nat.reduceEqDiff, Int.reduceLT, Int.reduceLE, Int.reduceToNat, Nat.reduceLT, Nat.reduceLeDiff, Int.reduceEq, Int.reduceNeg, IntKind.bits, Nat.reduceAdd, Nat.reduceMul, Nat.reducePow, Int.reducePow, ini, fwh, lk, cellsAt, tagOf, spotOf, rdN, spl, fillL, zr, fwi, F_leb_Reader_Sr0_W, F_leb_Reader_Sr1_W, F_leb_Reader_Sr2_W, F_leb_Reader_Sr2_g2, F_leb_Reader_Sr2_g6, F_leb_Reader_Sr3_W, F_leb_Reader_Sr4_W, F_leb_Reader_Sr5_W, F_leb_Reader_Sr5_g2, F_leb_Reader_Sr5_g6, F_leb_Reader_Sr6_W, F_leb_Reader_Sr7_W, F_leb_Reader_Sc_W, F_leb_Reader_Sr0_W, F_leb_Reader_Sr1_W, F_leb_Reader_Sr2_W, F_leb_Reader_Sr2_g2, F_leb_Reader_Sr2_g6, F_leb_Reader_Sr3_W, F_leb_Reader_Sr4_W, F_leb_Reader_Sr5_W, F_leb_Reader_Sr5_g2, F_leb_Reader_Sr5_g6, F_leb_Reader_Sr6_W, F_leb_Reader_Sr7_W, F_leb_Reader_Sc_W, e1, hz, and_self]
    | long =>
      rw [hg] at hv
      obtain ⟨rfl, rfl⟩ := hv
      simp only [fws, cond_true, cond_false, if_true, if_false, unV, isNil, optI, iV, stepI, evalR, reduceIte, reduceCtorEq, Nat.reduceEqDiff, Int.reduceLT, Int.reduceLE, Int.reduceToNat, Nat.reduceLT, Nat.reduceLeDiff, Int.reduceEq, Int.reduceNeg, IntKind.bits, Nat.reduceAdd, Nat.reduceMul, Nat.reducePow, Int.reducePow, ini, fwh, lk, cellsAt, tagOf, spotOf, rdN, spl, fillL, zr, fwi, F_leb_Reader_Sr0_W, F_leb_Reader_Sr1_W, F_leb_Reader_Sr2_W, F_leb_Reader_Sr2_g2, F_leb_Reader_Sr2_g6, F_leb_Reader_Sr3_W, F_leb_Reader_Sr4_W, F_leb_Reader_Sr5_W, F_leb_Reader_Sr5_g2, F_leb_Reader_Sr5_g6, F_leb_Reader_Sr6_W, F_leb_Reader_Sr7_W, F_leb_Reader_Sc_W, F_leb_Reader_Sr0_W, F_leb_Reader_Sr1_W, F_leb_Reader_Sr2_W, F_leb_Reader_Sr2_g2, F_leb_Reader_Sr2_g6, F_leb_Reader_Sr3_W, F_leb_Reader_Sr4_W, F_leb_Reader_Sr5_W, F_leb_Reader_Sr5_g2, F_leb_Reader_Sr5_g6, F_leb_Reader_Sr6_W, F_leb_Reader_Sr7_W, F_leb_Reader_Sc_W, hz, and_self]
  · simp only [ne_eq, hf, not_false_eq_true, if_true] at hv ⊢
    obtain ⟨rfl, rfl⟩ := hv
    simp only [fws, cond_true, cond_false, if_true, if_false, unV, isNil, optI, iV, stepI, evalR, reduceIte, reduceCtorEq, Nat.reduceEqDiff, Int.reduceLT, Int.reduceLE, Int.reduceToNat, Nat.reduceLT, Nat.reduceLeDiff, Int.reduceEq, Int.reduceNeg, IntKind.bits, Nat.reduceAdd, Nat.reduceMul, Nat.reducePow, Int.reducePow, ini, fwh, lk, cellsAt, tagOf, spotOf, rdN, spl, fillL, zr, fwi, F_leb_Reader_Sr0_W, F_leb_Reader_Sr1_W, F_leb_Reader_Sr2_W, F_leb_Reader_Sr2_g2, F_leb_Reader_Sr2_g6, F_leb_Reader_Sr3_W, F_leb_Reader_Sr4_W, F_leb_Reader_Sr5_W, F_leb_Reader_Sr5_g2, F_leb_Reader_Sr5_g6, F_leb_Reader_Sr6_W, F_leb_Reader_Sr7_W, F_leb_Reader_Sc_W, F_leb_Reader_Sr0_W, F_leb_Reader_Sr1_W, F_leb_Reader_Sr2_W, F_leb_Reader_Sr2_g2, F_leb_Reader_Sr2_g6, F_leb_Reader_Sr3_W, F_leb_Reader_Sr4_W, F_leb_Reader_Sr5_W, F_leb_Reader_Sr5_g2, F_leb_Reader_Sr5_g6, F_leb_Reader_Sr6_W, F_leb_Reader_Sr7_W, F_leb_Reader_Sc_W, hz, and_self]
end Go.Proofs.Ytdkdifjjpbfohaa
