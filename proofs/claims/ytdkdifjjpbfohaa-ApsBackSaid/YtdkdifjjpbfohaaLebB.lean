/- What the readers of the package leb and of the document's answer do. -/
import Derived.Test.YtdkdifjjpbfohaaLebA
import Derived.Laws.Bits64
namespace Go.Proofs.Ytdkdifjjpbfohaa
open Go Fw
set_option linter.unusedSimpArgs false
set_option linter.unusedVariables false

/-- The groups of the next number, and what is left; or that there are too few bytes, or too many groups. -/
inductive GR where
  | ok (g r : List UInt8)
  | short
  | long
def GR.cons (c : UInt8) : GR → GR
  | .ok g r => .ok (c :: g) r
  | x => x
def gr : Nat → List UInt8 → GR
  | 0, _ => .long
  | _ + 1, [] => .short
  | f + 1, c :: r => if c.toNat < 128 then .ok [c] r else (gr f r).cons c
theorem gr_ok : ∀ {f : Nat} {l g r : List UInt8}, gr f l = .ok g r → g ≠ [] ∧ g.length ≤ f ∧ l = g ++ r
  | 0, l, g, r, h => by cases h
  | f + 1, [], g, r, h => by cases h
  | f + 1, c :: l, g, r, h => by
    simp only [gr] at h
    split at h
    · cases h; exact ⟨by simp, by simp, rfl⟩
    · cases hg : gr f l with
      | ok g' r' =>
        rw [hg] at h
        cases h
        obtain ⟨h1, h2, h3⟩ := gr_ok hg
        exact ⟨by simp, by simp; omega, by rw [h3]; rfl⟩
      | short => rw [hg] at h; cases h
      | long => rw [hg] at h; cases h
/-- What groups say. -/
def val : List UInt8 → Nat
  | [] => 0
  | c :: g => c.toNat % 128 + 128 * val g
def lastB : List UInt8 → Nat
  | [] => 0
  | [c] => c.toNat
  | _ :: g => lastB g

abbrev ro (l : List UInt8) (at_ : Nat) (fail : Int) : Entry := ⟨0, .cells false 3 [immN byteE l, .int .i64 at_, .int .i64 fail]⟩

theorem and127' (c : UInt8) : Go.bits .and .u8 (c.toNat : Int) 127 = ((c.toNat % 128 : Nat) : Int) := by
  rw [and127 (by omega) (by have := c.toNat_lt; omega)]
  rfl
theorem join_u64 {i : Nat} (hi : i ≤ 9) {N c : Nat} (hN : N < 128 ^ i) (_ : c < 128) : Go.bits .or .u64 (N : Int) (IntKind.u64.wrap ((c : Int) * 2 ^ (7 * i))) = (((N + 128 ^ i * c) % 18446744073709551616 : Nat) : Int) := by
  have hw : IntKind.u64.wrap ((c : Int) * 2 ^ (7 * i)) = (((c * 2 ^ (7 * i)) % 18446744073709551616 : Nat) : Int) := by
    rw [wrap_u64, Int.natCast_emod, Int.natCast_mul, Int.natCast_pow]
    rfl
  have e128 : 128 ^ i = 2 ^ (7 * i) := by rw [Nat.pow_mul]
  rw [hw, e128]
  rw [e128] at hN
  have hp : 2 ^ (7 * i) ≤ 2 ^ 63 := Nat.pow_le_pow_right (by decide) (by omega)
  have hd : 18446744073709551616 = 2 ^ (7 * i) * 2 ^ (64 - 7 * i) := by rw [← Nat.pow_add, show 7 * i + (64 - 7 * i) = 64 by omega]
  have hm : (c * 2 ^ (7 * i)) % 18446744073709551616 = 2 ^ (7 * i) * (c % 2 ^ (64 - 7 * i)) := by rw [hd, Nat.mul_comm c, Nat.mul_mod_mul_left]
  have e63 : (2 : Nat) ^ 63 = 9223372036854775808 := by decide
  have hx : (c * 2 ^ (7 * i)) % 18446744073709551616 < 18446744073709551616 := Nat.mod_lt _ (by decide)
  have hor := (bits_nat .u64 64 (by decide) (fun n h0 h1 => by rw [wrap_u64]; have : (2 : Int) ^ 64 = 18446744073709551616 := by decide
                                                               omega) N ((c * 2 ^ (7 * i)) % 18446744073709551616) (by omega) (by omega)).2
  rw [hor, hm, Nat.or_comm]
  have h2 := Nat.two_pow_add_eq_or_of_lt hN (c % 2 ^ (64 - 7 * i))
  rw [← h2]
  congr 1
  rw [← hm]
  have h3 : N + 2 ^ (7 * i) * c = N + c * 2 ^ (7 * i) := by rw [Nat.mul_comm]
  rw [h3, Nat.add_mod]
  have hN' : N % 18446744073709551616 = N := Nat.mod_eq_of_lt (by omega)
  rw [hN']
  have hlt : N + c * 2 ^ (7 * i) % 18446744073709551616 < 18446744073709551616 := by
    rw [hm]
    have h4 : c % 2 ^ (64 - 7 * i) + 1 ≤ 2 ^ (64 - 7 * i) := Nat.mod_lt _ (Nat.two_pow_pos _)
    have h5 := Nat.mul_le_mul_left (2 ^ (7 * i)) h4
    rw [← hd, Nat.mul_add, Nat.mul_one] at h5
    omega
  rw [Nat.mod_eq_of_lt hlt]
  omega

theorem loop_leb_groups {T : Tab} (H : Heap) (k : Nat) (hk : k < H.length) (l : List UInt8) (hl : l.length < 9223372036854775000) : ∀ (f i at_ N : Nat) (env : Env), f + i = 10 → at_ ≤ l.length → N < 128 ^ i → env 0 = .pointer (some ⟨k, 0, none⟩) → env 5 = .int .u64 N → env 8 = .int .i64 i →
    W T (.loop F_leb_Reader_groupsl0) env (H.set k (ro l at_ 0)) fun x e h => match gr f (l.drop at_) with
      | .ok g _ => x = .ret ∧ e 2 = .int .u64 ((N + 128 ^ i * val g) % 18446744073709551616 : Nat) ∧ e 3 = .int .i64 (i + g.length : Nat) ∧ e 4 = .int .u8 (lastB g) ∧ h = H.set k (ro l (at_ + g.length) 0)
      | .short => x = .ret ∧ e 2 = .int .u64 0 ∧ e 3 = .int .i64 0 ∧ e 4 = .int .u8 0 ∧ h = H.set k (ro l l.length 20)
      | .long => x = .exit 0 ∧ e 0 = .pointer (some ⟨k, 0, none⟩) ∧ h = H.set k (ro l (at_ + f) 0) := by
  intro f
  induction f with
  | zero =>
    intro i at_ N env hf ha hN e0 e5 e8
    have hi : ¬ ((i : Int) < 10) := by omega
    rw [w_loop]
    simp only [fws, cond_true, cond_false, if_true, if_false, unV, isNil, optI, iV, stepI, evalR, reduceIte, reduceCtorEq, Nat.reduceEqDiff, Int.reduceLT, Int.reduceLE, Int.reduceToNat, Nat.reduceLT, Nat.reduceLeDiff, Int.reduceEq, Int.reduceNeg, IntKind.bits, Nat.reduceAdd, Nat.reduceMul, Nat.reducePow, Int.reducePow, ini, F_leb_Reader_groupsr0_W, F_leb_Reader_groupsr1_W, F_leb_Reader_groupsr2_W, F_leb_Reader_groupsr3_W, F_leb_Reader_groupsr4_W, F_leb_Reader_groupsr5_W, F_leb_Reader_groupsr6_W, F_leb_Reader_groupsr7_W, F_leb_Reader_groupsr8_W, F_leb_Reader_groupsr9_W, F_leb_Reader_groupsr10_W, F_leb_Reader_groupsr11_W, F_leb_Reader_groupsr12_W, F_leb_Reader_groupsr13_W, F_leb_Reader_groupsr14_W, F_leb_Reader_groupsr15_W, F_leb_Reader_groupsl0_W, F_leb_Reader_groupsr16_W, F_leb_Reader_groupsr17_W, F_leb_Reader_groupsc_W, F_leb_Reader_groupsr0_W, F_leb_Reader_groupsr1_W, F_leb_Reader_groupsr2_W, F_leb_Reader_groupsr3_W, F_leb_Reader_groupsr4_W, F_leb_Reader_groupsr5_W, F_leb_Reader_groupsr6_W, F_leb_Reader_groupsr7_W, F_leb_Reader_groupsr8_W, F_leb_Reader_groupsr9_W, F_leb_Reader_groupsr10_W, F_leb_Reader_groupsr11_W, F_leb_Reader_groupsr12_W, F_leb_Reader_groupsr13_W, F_leb_Reader_groupsr14_W, F_leb_Reader_groupsr15_W, F_leb_Reader_groupsl0_W, F_leb_Reader_groupsr16_W, F_leb_Reader_groupsr17_W, F_leb_Reader_groupsc_W, e0, e5, e8, hi, gr]
    exact ⟨trivial, trivial, by rw [Nat.add_zero]⟩
  | succ f ih =>
    intro i at_ N env hf ha hN e0 e5 e8
    have hi : ((i : Int) < 10) := by omega
    rw [w_loop]
    by_cases hend : at_ = l.length
    · subst hend
      simp only [fws, cond_true, cond_false, if_true, if_false, unV, isNil, optI, iV, stepI, evalR, reduceIte, reduceCtorEq, Nat.reduceEqDiff, Int.reduceLT, Int.reduceLE, Int.reduceToNat, Nat.reduceLT, Nat.reduceLeDiff, Int.reduceEq, Int.reduceNeg, IntKind.bits, Nat.reduceAdd, Nat.reduceMul, Nat.reducePow, Int.reducePow, ini, fwh, lk, cellsAt, tagOf, spotOf, rdN, spl, fillL, zr, fwi, F_leb_Reader_groupsr0_W, F_leb_Reader_groupsr1_W, F_leb_Reader_groupsr2_W, F_leb_Reader_groupsr3_W, F_leb_Reader_groupsr4_W, F_leb_Reader_groupsr5_W, F_leb_Reader_groupsr6_W, F_leb_Reader_groupsr7_W, F_leb_Reader_groupsr8_W, F_leb_Reader_groupsr9_W, F_leb_Reader_groupsr10_W, F_leb_Reader_groupsr11_W, F_leb_Reader_groupsr12_W, F_leb_Reader_groupsr13_W, F_leb_Reader_groupsr14_W, F_leb_Reader_groupsr15_W, F_leb_Reader_groupsl0_W, F_leb_Reader_groupsr16_W, F_leb_Reader_groupsr17_W, F_leb_Reader_groupsc_W, F_leb_Reader_groupsr0_W, F_leb_Reader_groupsr1_W, F_leb_Reader_groupsr2_W, F_leb_Reader_groupsr3_W, F_leb_Reader_groupsr4_W, F_leb_Reader_groupsr5_W, F_leb_Reader_groupsr6_W, F_leb_Reader_groupsr7_W, F_leb_Reader_groupsr8_W, F_leb_Reader_groupsr9_W, F_leb_Reader_groupsr10_W, F_leb_Reader_groupsr11_W, F_leb_Reader_groupsr12_W, F_leb_Reader_groupsr13_W, F_leb_Reader_groupsr14_W, F_leb_Reader_groupsr15_W, F_leb_Reader_groupsl0_W, F_leb_Reader_groupsr16_W, F_leb_Reader_groupsr17_W, F_leb_Reader_groupsc_W, e0, e5, e8, hi, gr, set_get hk, lenI_immN, List.drop_length, List.length_set, List.set_set, ro, oneAll_int]
      exact ⟨trivial, trivial, trivial, trivial, trivial⟩
    · have hat : at_ < l.length := by omega
      have hend' : ¬ ((at_ : Int) = (l.length : Int)) := by omega
      have hix : (0 : Int) ≤ at_ ∧ (at_ : Int) < l.length := by omega
      have w1 : IntKind.i64.wrap ((at_ : Int) + 1) = ((at_ + 1 : Nat) : Int) := by rw [wrapI64 (by omega) (by omega)]; rfl
      have w2 : IntKind.u64.wrap ((l[at_].toNat % 128 : Nat) : Int) = ((l[at_].toNat % 128 : Nat) : Int) := by rw [wrap_u64]; omega
      have w3 : IntKind.i64.wrap (7 * (i : Int)) = ((7 * i : Nat) : Int) := by rw [wrapI64 (by omega) (by omega)]; rfl
      have w4 : ¬ (((7 * i : Nat) : Int) < 0) := by omega
      have w5 : ¬ (64 < 7 * i) := by omega
      have w6 : min (7 * i) 64 = 7 * i := by omega
      have w7 := join_u64 (i := i) (by omega) hN (c := l[at_].toNat % 128) (by omega)
      have w8 : IntKind.i64.wrap ((i : Int) + 1) = ((i + 1 : Nat) : Int) := by rw [wrapI64 (by omega) (by omega)]; rfl
      have hd : l.drop at_ = l[at_] :: l.drop (at_ + 1) := List.drop_eq_getElem_cons hat
      rw [hd]
      by_cases hlast : l[at_].toNat < 128
      · have hlast' : ((l[at_].toNat : Int) < 128) := by omega
        simp only [fws, cond_true, cond_false, if_true, if_false, unV, isNil, optI, iV, stepI, evalR, reduceIte, reduceCtorEq, Nat.reduceEqDiff, Int.reduceLT, Int.reduceLE, Int.reduceToNat, Nat.reduceLT, Nat.reduceLeDiff, Int.reduceEq, Int.reduceNeg, IntKind.bits, Nat.reduceAdd, Nat.reduceMul, Nat.reducePow, Int.reducePow, ini, fwh, lk, cellsAt, tagOf, spotOf, rdN, spl, fillL, zr, fwi, F_leb_Reader_groupsr0_W, F_leb_Reader_groupsr1_W, F_leb_Reader_groupsr2_W, F_leb_Reader_groupsr3_W, F_leb_Reader_groupsr4_W, F_leb_Reader_groupsr5_W, F_leb_Reader_groupsr6_W, F_leb_Reader_groupsr7_W, F_leb_Reader_groupsr8_W, F_leb_Reader_groupsr9_W, F_leb_Reader_groupsr10_W, F_leb_Reader_groupsr11_W, F_leb_Reader_groupsr12_W, F_leb_Reader_groupsr13_W, F_leb_Reader_groupsr14_W, F_leb_Reader_groupsr15_W, F_leb_Reader_groupsl0_W, F_leb_Reader_groupsr16_W, F_leb_Reader_groupsr17_W, F_leb_Reader_groupsc_W, F_leb_Reader_groupsr0_W, F_leb_Reader_groupsr1_W, F_leb_Reader_groupsr2_W, F_leb_Reader_groupsr3_W, F_leb_Reader_groupsr4_W, F_leb_Reader_groupsr5_W, F_leb_Reader_groupsr6_W, F_leb_Reader_groupsr7_W, F_leb_Reader_groupsr8_W, F_leb_Reader_groupsr9_W, F_leb_Reader_groupsr10_W, F_leb_Reader_groupsr11_W, F_leb_Reader_groupsr12_W, F_leb_Reader_groupsr13_W, F_leb_Reader_groupsr14_W, F_leb_Reader_groupsr15_W, F_leb_Reader_groupsl0_W, F_leb_Reader_groupsr16_W, F_leb_Reader_groupsr17_W, F_leb_Reader_groupsc_W, e0, e5, e8, hi, gr, set_get hk, lenI_immN, ixaI_immN (E := byteE) (n := 1) rfl hix, at_cons hat, and127', hend', List.length_set, List.set_set, ro, oneAll_int, w1, w2, w3, w4, w5, w6, w7, w8, hlast, hlast', val, lastB]
        exact ⟨trivial, trivial, trivial, trivial, trivial⟩
      · have hlast' : ¬ ((l[at_].toNat : Int) < 128) := by omega
        simp only [fws, cond_true, cond_false, if_true, if_false, unV, isNil, optI, iV, stepI, evalR, reduceIte, reduceCtorEq, Nat.reduceEqDiff, Int.reduceLT, Int.reduceLE, Int.reduceToNat, Nat.reduceLT, Nat.reduceLeDiff, Int.reduceEq, Int.reduceNeg, IntKind.bits, Nat.reduceAdd, Nat.reduceMul, Nat.reducePow, Int.reducePow, ini, fwh, lk, cellsAt, tagOf, spotOf, rdN, spl, fillL, zr, fwi, F_leb_Reader_groupsr0_W, F_leb_Reader_groupsr1_W, F_leb_Reader_groupsr2_W, F_leb_Reader_groupsr3_W, F_leb_Reader_groupsr4_W, F_leb_Reader_groupsr5_W, F_leb_Reader_groupsr6_W, F_leb_Reader_groupsr7_W, F_leb_Reader_groupsr8_W, F_leb_Reader_groupsr9_W, F_leb_Reader_groupsr10_W, F_leb_Reader_groupsr11_W, F_leb_Reader_groupsr12_W, F_leb_Reader_groupsr13_W, F_leb_Reader_groupsr14_W, F_leb_Reader_groupsr15_W, F_leb_Reader_groupsl0_W, F_leb_Reader_groupsr16_W, F_leb_Reader_groupsr17_W, F_leb_Reader_groupsc_W, F_leb_Reader_groupsr0_W, F_leb_Reader_groupsr1_W, F_leb_Reader_groupsr2_W, F_leb_Reader_groupsr3_W, F_leb_Reader_groupsr4_W, F_leb_Reader_groupsr5_W, F_leb_Reader_groupsr6_W, F_leb_Reader_groupsr7_W, F_leb_Reader_groupsr8_W, F_leb_Reader_groupsr9_W, F_leb_Reader_groupsr10_W, F_leb_Reader_groupsr11_W, F_leb_Reader_groupsr12_W, F_leb_Reader_groupsr13_W, F_leb_Reader_groupsr14_W, F_leb_Reader_groupsr15_W, F_leb_Reader_groupsl0_W, F_leb_Reader_groupsr16_W, F_leb_Reader_groupsr17_W, F_leb_Reader_groupsc_W, e0, e5, e8, hi, gr, set_get hk, lenI_immN, ixaI_immN (E := byteE) (n := 1) rfl hix, at_cons hat, and127', hend', List.length_set, List.set_set, ro, oneAll_int, w1, w2, w3, w4, w5, w6, w7, w8, hlast, hlast']
        have hp : 128 ^ (i + 1) = 128 ^ i * 128 := Nat.pow_succ ..
        have hNlt : N + 128 ^ i * (l[at_].toNat % 128) < 128 ^ (i + 1) := by
          have h1 : l[at_].toNat % 128 + 1 ≤ 128 := by omega
          have h2 := Nat.mul_le_mul_left (128 ^ i) h1
          rw [← hp, Nat.mul_add, Nat.mul_one] at h2
          omega
        have hle : 128 ^ (i + 1) ≤ 128 ^ 10 := Nat.pow_le_pow_right (by decide) (by omega)
        refine W.mono (ih (i + 1) (at_ + 1) ((N + 128 ^ i * (l[at_].toNat % 128)) % 18446744073709551616) _ (by omega) (by omega) (Nat.lt_of_le_of_lt (Nat.mod_le _ _) hNlt) ?_ ?_ ?_) fun x e hh hq => ?_
        · simp only [fws, cond_true, cond_false, if_true, if_false, unV, isNil, optI, iV, stepI, evalR, reduceIte, reduceCtorEq, Nat.reduceEqDiff, Int.reduceLT, Int.reduceLE, Int.reduceToNat, Nat.reduceLT, Nat.reduceLeDiff, Int.reduceEq, Int.reduceNeg, IntKind.bits, Nat.reduceAdd, Nat.reduceMul, Nat.reducePow, Int.reducePow, ini, e0]
        · simp only [fws, cond_true, cond_false, if_true, if_false, unV, isNil, optI, iV, stepI, evalR, reduceIte, reduceCtorEq, Nat.reduceEqDiff, Int.reduceLT, Int.reduceLE, Int.reduceToNat, Nat.reduceLT, Nat.reduceLeDiff, Int.reduceEq, Int.reduceNeg, IntKind.bits, Nat.reduceAdd, Nat.reduceMul, Nat.reducePow, Int.reducePow, ini]
        · simp only [fws, cond_true, cond_false, if_true, if_false, unV, isNil, optI, iV, stepI, evalR, reduceIte, reduceCtorEq, Nat.reduceEqDiff, Int.reduceLT, Int.reduceLE, Int.reduceToNat, Nat.reduceLT, Nat.reduceLeDiff, Int.reduceEq, Int.reduceNeg, IntKind.bits, Nat.reduceAdd, Nat.reduceMul, Nat.reducePow, Int.reducePow, ini]
        cases hg : gr f (l.drop (at_ + 1)) with
        | ok g r =>
          rw [hg] at hq
          obtain ⟨q1, q2, q3, q4, q5⟩ := hq
          refine ⟨q1, ?_, ?_, ?_, ?_⟩
          · rw [q2, Nat.mod_add_mod, val, hp, Nat.mul_add, Nat.add_assoc, Nat.mul_assoc]
          · rw [q3, List.length_cons, show i + 1 + g.length = i + (g.length + 1) by omega]
          · rw [q4]
            cases g with
            | nil => exact absurd rfl (gr_ok hg).1
            | cons c2 g => rfl
          · rw [q5, List.length_cons, show at_ + 1 + g.length = at_ + (g.length + 1) by omega]
        | short => rw [hg] at hq; exact hq
        | long => rw [hg] at hq; obtain ⟨q1, q2, q3⟩ := hq; exact ⟨q1, q2, by rw [q3, show at_ + 1 + f = at_ + (f + 1) by omega]⟩

/-- The next number of a reader: what is told, and the reader behind it. -/
theorem ev_leb_groups {T : Tab} (h : T 39 = some F_leb_Reader_groups) (H : Heap) (k : Nat) (hk : k < H.length) (l : List UInt8) (hl : l.length < 9223372036854775000) {at_ : Nat} (ha : at_ ≤ l.length) (fail : Int) :
    Ev T 39 [.pointer (some ⟨k, 0, none⟩)] (H.set k (ro l at_ fail)) fun v h' =>
      if fail ≠ 0 then v = .tuple #[.int .u64 0, .int .i64 0, .int .u8 0] ∧ h' = H.set k (ro l at_ fail) else match gr 10 (l.drop at_) with
      | .ok g _ => v = .tuple #[.int .u64 (val g % 18446744073709551616 : Nat), .int .i64 g.length, .int .u8 (lastB g)] ∧ h' = H.set k (ro l (at_ + g.length) 0)
      | .short => v = .tuple #[.int .u64 0, .int .i64 0, .int .u8 0] ∧ h' = H.set k (ro l l.length 20)
      | .long => v = .tuple #[.int .u64 0, .int .i64 0, .int .u8 0] ∧ h' = H.set k (ro l (at_ + 10) 30) := by
  rw [Ev_fn h rfl]
  simp only [F_leb_Reader_groups, fws, cond_true, cond_false, if_true, if_false, unV, isNil, optI, iV, stepI, evalR, reduceIte, reduceCtorEq, Nat.reduceEqDiff, Int.reduceLT, Int.reduceLE, Int.reduceToNat, Nat.reduceLT, Nat.reduceLeDiff, Int.reduceEq, Int.reduceNeg, IntKind.bits, Nat.reduceAdd, Nat.reduceMul, Nat.reducePow, Int.reducePow, ini, F_leb_Reader_groupsr0_W, F_leb_Reader_groupsr1_W, F_leb_Reader_groupsr2_W, F_leb_Reader_groupsr3_W, F_leb_Reader_groupsr4_W, F_leb_Reader_groupsr5_W, F_leb_Reader_groupsr6_W, F_leb_Reader_groupsr7_W, F_leb_Reader_groupsr8_W, F_leb_Reader_groupsr9_W, F_leb_Reader_groupsr10_W, F_leb_Reader_groupsr11_W, F_leb_Reader_groupsr12_W, F_leb_Reader_groupsr13_W, F_leb_Reader_groupsr14_W, F_leb_Reader_groupsr15_W, F_leb_Reader_groupsl0_W, F_leb_Reader_groupsr16_W, F_leb_Reader_groupsr17_W, F_leb_Reader_groupsc_W, F_leb_Reader_groupsr0_W, F_leb_Reader_groupsr1_W, F_leb_Reader_groupsr2_W, F_leb_Reader_groupsr3_W, F_leb_Reader_groupsr4_W, F_leb_Reader_groupsr5_W, F_leb_Reader_groupsr6_W, F_leb_Reader_groupsr7_W, F_leb_Reader_groupsr8_W, F_leb_Reader_groupsr9_W, F_leb_Reader_groupsr10_W, F_leb_Reader_groupsr11_W, F_leb_Reader_groupsr12_W, F_leb_Reader_groupsr13_W, F_leb_Reader_groupsr14_W, F_leb_Reader_groupsr15_W, F_leb_Reader_groupsl0_W, F_leb_Reader_groupsr16_W, F_leb_Reader_groupsr17_W, F_leb_Reader_groupsc_W]
  by_cases hf : fail = 0
  · subst hf
    simp only [ne_eq, not_true_eq_false, if_false]
    refine W.mono (loop_leb_groups H k hk l hl 10 0 at_ 0 _ rfl ha (by decide) ?_ ?_ ?_) fun x e hh hq => ?_
    · simp only [fws, cond_true, cond_false, if_true, if_false, unV, isNil, optI, iV, stepI, evalR, reduceIte, reduceCtorEq, Nat.reduceEqDiff, Int.reduceLT, Int.reduceLE, Int.reduceToNat, Nat.reduceLT, Nat.reduceLeDiff, Int.reduceEq, Int.reduceNeg, IntKind.bits, Nat.reduceAdd, Nat.reduceMul, Nat.reducePow, Int.reducePow, ini]
    · (first | assumption | rfl)
    · (first | assumption | rfl)
    cases hg : gr 10 (l.drop at_) with
    | ok g r =>
      rw [hg] at hq
      obtain ⟨rfl, q2, q3, q4, rfl⟩ := hq
      simp only [fws, cond_true, cond_false, if_true, if_false, unV, isNil, optI, iV, stepI, evalR, reduceIte, reduceCtorEq, Nat.reduceEqDiff, Int.reduceLT, Int.reduceLE, Int.reduceToNat, Nat.reduceLT, Nat.reduceLeDiff, Int.reduceEq, Int.reduceNeg, IntKind.bits, Nat.reduceAdd, Nat.reduceMul, Nat.reducePow, Int.reducePow, ini, q2, q3, q4]
      simp
    | short =>
      rw [hg] at hq
      obtain ⟨rfl, q2, q3, q4, rfl⟩ := hq
      simp only [fws, cond_true, cond_false, if_true, if_false, unV, isNil, optI, iV, stepI, evalR, reduceIte, reduceCtorEq, Nat.reduceEqDiff, Int.reduceLT, Int.reduceLE, Int.reduceToNat, Nat.reduceLT, Nat.reduceLeDiff, Int.reduceEq, Int.reduceNeg, IntKind.bits, Nat.reduceAdd, Nat.reduceMul, Nat.reducePow, Int.reducePow, ini, q2, q3, q4]
      simp
    | long =>
      rw [hg] at hq
      obtain ⟨rfl, q2, rfl⟩ := hq
      simp only [fws, cond_true, cond_false, if_true, if_false, unV, isNil, optI, iV, stepI, evalR, reduceIte, reduceCtorEq, Nat.reduceEqDiff, Int.reduceLT, Int.reduceLE, Int.reduceToNat, Nat.reduceLT, Nat.reduceLeDiff, Int.reduceEq, Int.reduceNeg, IntKind.bits, Nat.reduceAdd, Nat.reduceMul, Nat.reducePow, Int.reducePow, ini, fwh, lk, cellsAt, tagOf, spotOf, rdN, spl, fillL, zr, fwi, F_leb_Reader_groupsr0_W, F_leb_Reader_groupsr1_W, F_leb_Reader_groupsr2_W, F_leb_Reader_groupsr3_W, F_leb_Reader_groupsr4_W, F_leb_Reader_groupsr5_W, F_leb_Reader_groupsr6_W, F_leb_Reader_groupsr7_W, F_leb_Reader_groupsr8_W, F_leb_Reader_groupsr9_W, F_leb_Reader_groupsr10_W, F_leb_Reader_groupsr11_W, F_leb_Reader_groupsr12_W, F_leb_Reader_groupsr13_W, F_leb_Reader_groupsr14_W, F_leb_Reader_groupsr15_W, F_leb_Reader_groupsl0_W, F_leb_Reader_groupsr16_W, F_leb_Reader_groupsr17_W, F_leb_Reader_groupsc_W, F_leb_Reader_groupsr0_W, F_leb_Reader_groupsr1_W, F_leb_Reader_groupsr2_W, F_leb_Reader_groupsr3_W, F_leb_Reader_groupsr4_W, F_leb_Reader_groupsr5_W, F_leb_Reader_groupsr6_W, F_leb_Reader_groupsr7_W, F_leb_Reader_groupsr8_W, F_leb_Reader_groupsr9_W, F_leb_Reader_groupsr10_W, F_leb_Reader_groupsr11_W, F_leb_Reader_groupsr12_W, F_leb_Reader_groupsr13_W, F_leb_Reader_groupsr14_W, F_leb_Reader_groupsr15_W, F_leb_Reader_groupsl0_W, F_leb_Reader_groupsr16_W, F_leb_Reader_groupsr17_W, F_leb_Reader_groupsc_W, q2, set_get hk, List.length_set, List.set_set, ro, oneAll_int]
      simp
  · rw [w_loop]
    simp only [fws, cond_true, cond_false, if_true, if_false, unV, isNil, optI, iV, stepI, evalR, reduceIte, reduceCtorEq, Nat.reduceEqDiff, Int.reduceLT, Int.reduceLE, Int.reduceToNat, Nat.reduceLT, Nat.reduceLeDiff, Int.reduceEq, Int.reduceNeg, IntKind.bits, Nat.reduceAdd, Nat.reduceMul, Nat.reducePow, Int.reducePow, ini, fwh, lk, cellsAt, tagOf, spotOf, rdN, spl, fillL, zr, fwi, F_leb_Reader_groupsr0_W, F_leb_Reader_groupsr1_W, F_leb_Reader_groupsr2_W, F_leb_Reader_groupsr3_W, F_leb_Reader_groupsr4_W, F_leb_Reader_groupsr5_W, F_leb_Reader_groupsr6_W, F_leb_Reader_groupsr7_W, F_leb_Reader_groupsr8_W, F_leb_Reader_groupsr9_W, F_leb_Reader_groupsr10_W, F_leb_Reader_groupsr11_W, F_leb_Reader_groupsr12_W, F_leb_Reader_groupsr13_W, F_leb_Reader_groupsr14_W, F_leb_Reader_groupsr15_W, F_leb_Reader_groupsl0_W, F_leb_Reader_groupsr16_W, F_leb_Reader_groupsr17_W, F_leb_Reader_groupsc_W, F_leb_Reader_groupsr0_W, F_leb_Reader_groupsr1_W, F_leb_Reader_groupsr2_W, F_leb_Reader_groupsr3_W, F_leb_Reader_groupsr4_W, F_leb_Reader_groupsr5_W, F_leb_Reader_groupsr6_W, F_leb_Reader_groupsr7_W, F_leb_Reader_groupsr8_W, F_leb_Reader_groupsr9_W, F_leb_Reader_groupsr10_W, F_leb_Reader_groupsr11_W, F_leb_Reader_groupsr12_W, F_leb_Reader_groupsr13_W, F_leb_Reader_groupsr14_W, F_leb_Reader_groupsr15_W, F_leb_Reader_groupsl0_W, F_leb_Reader_groupsr16_W, F_leb_Reader_groupsr17_W, F_leb_Reader_groupsc_W, set_get hk, List.length_set, List.set_set, ro, oneAll_int, hf]
    simp [hf]
end Go.Proofs.Ytdkdifjjpbfohaa
