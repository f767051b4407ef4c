/- Both sums of a name. -/
import Derived.Test.YtkhojkdcejmgpaaFw26
import Derived.Test.YtkhojkdcejmgpaaIrSyms
namespace Go.Proofs.Ytkhojkdcejmgpaa
open Go Fw
set_option linter.unusedSimpArgs false
set_option linter.unusedVariables false

theorem syms_alive : FnV TSyms 21 [] (.bool true) := FnV_run 60 rfl (by kernel_rfl)

def svN (h c : Nat) : Nat := (h * 16 + c) % 4294967296 % 268435456 ^^^ (h * 16 + c) % 4294967296 / 268435456 * 16
def gnN (h c : Nat) : Nat := (h * 33 + c) % 4294967296
def sysvN (l : List UInt8) (h : Nat) : Nat := l.foldl (fun h c => svN h c.toNat) h
def gnuN (l : List UInt8) (h : Nat) : Nat := l.foldl (fun h c => gnN h c.toNat) h
theorem svN_lt (h c : Nat) : svN h c < 268435456 := by
  unfold svN
  exact Nat.xor_lt_two_pow (n := 28) (by omega) (by omega)
theorem gnN_lt (h c : Nat) : gnN h c < 4294967296 := Nat.mod_lt _ (by decide)
/-- The older sum's step, bit by bit. -/
theorem sv_bits {x : Nat} (hx : x < 4294967296) : nandN 32 (x ^^^ (x &&& 4026531840) / 2 ^ 24) (x &&& 4026531840) = x % 268435456 ^^^ x / 268435456 * 16 := by
  have h1 : x &&& 4026531840 < 2 ^ 32 := Nat.lt_of_le_of_lt Nat.and_le_left hx
  have h2 : x ^^^ (x &&& 4026531840) / 2 ^ 24 < 2 ^ 32 := Nat.xor_lt_two_pow hx (by omega)
  have hm : ∀ i, (4026531840 : Nat).testBit i = decide (28 ≤ i ∧ i < 32) := fun i => by
    have : (4026531840 : Nat) = 2 ^ 28 * 15 := by decide
    rw [this, Nat.testBit_two_pow_mul]
    by_cases h : 28 ≤ i
    · by_cases h' : i < 32
      · have : i = 28 ∨ i = 29 ∨ i = 30 ∨ i = 31 := by omega
        rcases this with rfl | rfl | rfl | rfl <;> decide
      · have : (15 : Nat).testBit (i - 28) = false := Nat.testBit_lt_two_pow (Nat.lt_of_lt_of_le (show (15 : Nat) < 2 ^ 4 by decide) (Nat.pow_le_pow_right (n := 2) (by decide) (by omega)))
        simp [this, h']
    · simp [h]
  refine Nat.eq_of_testBit_eq fun i => ?_
  have e1 : x / 268435456 * 16 = 2 ^ 4 * (x / 2 ^ 28) := by omega
  have e2 : (268435456 : Nat) = 2 ^ 28 := by decide
  rw [testBit_nand h2 h1, Nat.testBit_xor, Nat.testBit_div_two_pow, Nat.testBit_and, Nat.testBit_and, hm, hm, Nat.testBit_xor, e1, Nat.testBit_two_pow_mul, Nat.testBit_div_two_pow, e2, Nat.testBit_mod_two_pow]
  have hx2 : x < 2 ^ 32 := hx
  have hx32 : ∀ j, 32 ≤ j → x.testBit j = false := fun j h => Nat.testBit_lt_two_pow (Nat.lt_of_lt_of_le hx2 (Nat.pow_le_pow_right (n := 2) (by decide) h))
  have e3 : 28 + (i - 4) = i + 24 ∨ i < 4 := by omega
  by_cases h28 : i < 28
  · have a1 : ¬ (28 ≤ i ∧ i < 32) := by omega
    by_cases h4 : 4 ≤ i
    · have a2 : 28 ≤ i + 24 ∧ i + 24 < 32 ∨ ¬ (i + 24 < 32) := by omega
      have e4 : i - 4 + 28 = i + 24 := by omega
      rcases a2 with a2 | a2
      · simp [h28, h4, a1, a2, e4]
        try simp [Nat.add_comm]
      · have a3 : x.testBit (i + 24) = false := hx32 _ (by omega)
        have a3' : x.testBit (24 + i) = false := by rw [Nat.add_comm]; exact a3
        simp [h28, h4, a1, a3, a3', e4]
    · have a2 : ¬ 28 ≤ i + 24 := by omega
      have a2' : ¬ 28 ≤ 24 + i := by omega
      simp [h28, h4, a1, a2, a2']
  · by_cases h32 : i < 32
    · have a1 : 28 ≤ i := by omega
      have a3 : x.testBit (i + 24) = false := hx32 _ (by omega)
      have a3' : x.testBit (24 + i) = false := by rw [Nat.add_comm]; exact a3
      have e4 : i - 4 + 28 = i + 24 := by omega
      simp [h28, h32, a1, a3, a3', e4]
    · have a1 : x.testBit i = false := hx32 _ (by omega)
      have a3 : x.testBit (i + 24) = false := hx32 _ (by omega)
      have a3' : x.testBit (24 + i) = false := by rw [Nat.add_comm]; exact a3
      have e4 : i - 4 + 28 = i + 24 := by omega
      simp [h28, h32, a1, a3, a3', e4]

theorem lenI_str {H : Heap} {l : List UInt8} : lenI H 0 (strV l) = some (.int .i64 l.length, H) := rfl
theorem sysvN_lt : ∀ (l : List UInt8) (h : Nat), h < 268435456 → sysvN l h < 268435456
  | [], h, hh => hh
  | c :: l, h, _ => sysvN_lt l (svN h c.toNat) (svN_lt _ _)
theorem loop_syms_Sysv {T : Tab} (l : List UInt8) (hl : l.length ≤ 4096) : ∀ (m i h : Nat) (env : Env), i + m = l.length → h < 268435456 → env 0 = .string ⟨l.toArray⟩ → env 3 = .int .u32 h → env 7 = .int .i64 l.length → env 8 = .int .i64 i →
    W T (.loop F_syms_Sysvl0) env [] fun x e _ => x = .exit 0 ∧ e 3 = .int .u32 (sysvN (l.drop i) h) := by
  intro m
  induction m with
  | zero =>
    intro i h env hi hh v0 v3 v7 v8
    have h1 : ¬ ((i : Int) < l.length) := by omega
    rw [w_loop, List.drop_of_length_le (by omega)]
    simp only [fws, cond_true, cond_false, if_true, if_false, unV, isNil, optI, iV, stepI, evalR, reduceIte, reduceCtorEq, Nat.reduceEqDiff, Int.reduceLT, Int.reduceLE, Int.reduceToNat, Nat.reduceLT, Nat.reduceLeDiff, Int.reduceEq, Int.reduceNeg, IntKind.bits, Nat.reduceAdd, Nat.reduceMul, Nat.reducePow, Int.reducePow, ini, F_syms_Sysvr0_W, F_syms_Sysvr1_W, F_syms_Sysvr2_W, F_syms_Sysvr3_W, F_syms_Sysvr4_W, F_syms_Sysvr5_W, F_syms_Sysvr6_W, F_syms_Sysvr7_W, F_syms_Sysvr8_W, F_syms_Sysvr9_W, F_syms_Sysvl0_W, F_syms_Sysvr10_W, F_syms_Sysvc_W, v0, v3, v7, v8, h1]
    exact ⟨trivial, rfl⟩
  | succ m ih =>
    intro i h env hi hh v0 v3 v7 v8
    have h1 : ((i : Int) < l.length) := by omega
    rw [w_loop]
    have hix : i < l.length := by omega
    have h0 : (0 : Int) ≤ i := Int.natCast_nonneg _
    have hc := (l[i]).toNat_lt
    have hget : l.getD i 0 = l[i] := by rw [List.getD_eq_getElem?_getD, List.getElem?_eq_getElem hix]; rfl
    have w1 : IntKind.u32.wrap (IntKind.u32.wrap ((h : Int) * 16) + IntKind.u32.wrap ((l[i]).toNat : Int)) = (((h * 16 + (l[i]).toNat) % 4294967296 : Nat) : Int) := by
      rw [wrap_u32, wrap_u32, wrap_u32]; omega
    have w2 : IntKind.i64.wrap ((i : Int) + 1) = ((i + 1 : Nat) : Int) := by rw [wrapI64 (by omega) (by omega)]; rfl
    have hd : sysvN (l.drop i) h = sysvN (l.drop (i + 1)) (svN h (l[i]).toNat) := by rw [List.drop_eq_getElem_cons hix]; rfl
    have hs := svN_lt h (l[i]).toNat
    generalize hx : (h * 16 + (l[i]).toNat) % 4294967296 = x at w1
    have hx32 : x < 4294967296 := by omega
    have b1 : Go.bits .and .u32 (x : Int) 4026531840 = ((x &&& 4026531840 : Nat) : Int) := (bits_u32 hx32 (by decide : 4026531840 < 4294967296)).1
    have hg : x &&& 4026531840 < 4294967296 := Nat.lt_of_le_of_lt Nat.and_le_left hx32
    have b2 : ((x &&& 4026531840 : Nat) : Int).fdiv 16777216 = (((x &&& 4026531840) / 2 ^ 24 : Nat) : Int) := shrN (k := 24)
    have hy : x ^^^ (x &&& 4026531840) / 2 ^ 24 < 4294967296 := Nat.xor_lt_two_pow (n := 32) hx32 (by omega)
    have b3 : Go.bits .xor .u32 (x : Int) (((x &&& 4026531840) / 2 ^ 24 : Nat) : Int) = ((x ^^^ (x &&& 4026531840) / 2 ^ 24 : Nat) : Int) := (bits_u32 hx32 (by omega)).2.2.1
    have b4 : Go.bits .andNot .u32 ((x ^^^ (x &&& 4026531840) / 2 ^ 24 : Nat) : Int) ((x &&& 4026531840 : Nat) : Int) = ((svN h (l[i]).toNat : Nat) : Int) := by
      rw [(bits_u32 hy hg).2.2.2, sv_bits hx32, ← hx]; rfl
    rw [hd]
    simp only [fws, cond_true, cond_false, if_true, if_false, unV, isNil, optI, iV, stepI, evalR, reduceIte, reduceCtorEq, Nat.reduceEqDiff, Int.reduceLT, Int.reduceLE, Int.reduceToNat, Nat.reduceLT, Nat.reduceLeDiff, Int.reduceEq, Int.reduceNeg, IntKind.bits, Nat.reduceAdd, Nat.reduceMul, Nat.reducePow, Int.reducePow, ini, fwi, F_syms_Sysvr0_W, F_syms_Sysvr1_W, F_syms_Sysvr2_W, F_syms_Sysvr3_W, F_syms_Sysvr4_W, F_syms_Sysvr5_W, F_syms_Sysvr6_W, F_syms_Sysvr7_W, F_syms_Sysvr8_W, F_syms_Sysvr9_W, F_syms_Sysvl0_W, F_syms_Sysvr10_W, F_syms_Sysvc_W, v0, v3, v7, v8, h1, h0, hget, and_self, w1, b1, b2, b3, b4, w2]
    refine W.mono (ih (i + 1) (svN h (l[i]).toNat) _ (by omega) hs ?_ ?_ ?_ ?_) fun _ _ _ h => h
    · (first | (simp only [fws, cond_true, cond_false, if_true, if_false, unV, isNil, optI, iV, stepI, evalR, reduceIte, reduceCtorEq, Nat.reduceEqDiff, Int.reduceLT, Int.reduceLE, Int.reduceToNat, Nat.reduceLT, Nat.reduceLeDiff, Int.reduceEq, Int.reduceNeg, IntKind.bits, Nat.reduceAdd, Nat.reduceMul, Nat.reducePow, Int.reducePow, ini, *]; done) | (simp only [fws, cond_true, cond_false, if_true, if_false, unV, isNil, optI, iV, stepI, evalR, reduceIte, reduceCtorEq, Nat.reduceEqDiff, Int.reduceLT, Int.reduceLE, Int.reduceToNat, Nat.reduceLT, Nat.reduceLeDiff, Int.reduceEq, Int.reduceNeg, IntKind.bits, Nat.reduceAdd, Nat.reduceMul, Nat.reducePow, Int.reducePow, ini]; rfl))
    · (first | (simp only [fws, cond_true, cond_false, if_true, if_false, unV, isNil, optI, iV, stepI, evalR, reduceIte, reduceCtorEq, Nat.reduceEqDiff, Int.reduceLT, Int.reduceLE, Int.reduceToNat, Nat.reduceLT, Nat.reduceLeDiff, Int.reduceEq, Int.reduceNeg, IntKind.bits, Nat.reduceAdd, Nat.reduceMul, Nat.reducePow, Int.reducePow, ini, *]; done) | (simp only [fws, cond_true, cond_false, if_true, if_false, unV, isNil, optI, iV, stepI, evalR, reduceIte, reduceCtorEq, Nat.reduceEqDiff, Int.reduceLT, Int.reduceLE, Int.reduceToNat, Nat.reduceLT, Nat.reduceLeDiff, Int.reduceEq, Int.reduceNeg, IntKind.bits, Nat.reduceAdd, Nat.reduceMul, Nat.reducePow, Int.reducePow, ini]; rfl))
    · (first | (simp only [fws, cond_true, cond_false, if_true, if_false, unV, isNil, optI, iV, stepI, evalR, reduceIte, reduceCtorEq, Nat.reduceEqDiff, Int.reduceLT, Int.reduceLE, Int.reduceToNat, Nat.reduceLT, Nat.reduceLeDiff, Int.reduceEq, Int.reduceNeg, IntKind.bits, Nat.reduceAdd, Nat.reduceMul, Nat.reducePow, Int.reducePow, ini, *]; done) | (simp only [fws, cond_true, cond_false, if_true, if_false, unV, isNil, optI, iV, stepI, evalR, reduceIte, reduceCtorEq, Nat.reduceEqDiff, Int.reduceLT, Int.reduceLE, Int.reduceToNat, Nat.reduceLT, Nat.reduceLeDiff, Int.reduceEq, Int.reduceNeg, IntKind.bits, Nat.reduceAdd, Nat.reduceMul, Nat.reducePow, Int.reducePow, ini]; rfl))
    · (first | (simp only [fws, cond_true, cond_false, if_true, if_false, unV, isNil, optI, iV, stepI, evalR, reduceIte, reduceCtorEq, Nat.reduceEqDiff, Int.reduceLT, Int.reduceLE, Int.reduceToNat, Nat.reduceLT, Nat.reduceLeDiff, Int.reduceEq, Int.reduceNeg, IntKind.bits, Nat.reduceAdd, Nat.reduceMul, Nat.reducePow, Int.reducePow, ini, *]; done) | (simp only [fws, cond_true, cond_false, if_true, if_false, unV, isNil, optI, iV, stepI, evalR, reduceIte, reduceCtorEq, Nat.reduceEqDiff, Int.reduceLT, Int.reduceLE, Int.reduceToNat, Nat.reduceLT, Nat.reduceLeDiff, Int.reduceEq, Int.reduceNeg, IntKind.bits, Nat.reduceAdd, Nat.reduceMul, Nat.reducePow, Int.reducePow, ini]; rfl))
theorem f_syms_Sysv {T : Tab} (h : T 17 = some F_syms_Sysv) (l : List UInt8) (hl : l.length ≤ 4096) : FnV T 17 [strV l] (.int .u32 (sysvN l 0)) := by
  refine FnV_of rfl ?_
  rw [Ev_fn h rfl]
  simp only [F_syms_Sysv, fws, cond_true, cond_false, if_true, if_false, unV, isNil, optI, iV, stepI, evalR, reduceIte, reduceCtorEq, Nat.reduceEqDiff, Int.reduceLT, Int.reduceLE, Int.reduceToNat, Nat.reduceLT, Nat.reduceLeDiff, Int.reduceEq, Int.reduceNeg, IntKind.bits, Nat.reduceAdd, Nat.reduceMul, Nat.reducePow, Int.reducePow, ini, fwi, F_syms_Sysvr0_W, F_syms_Sysvr1_W, F_syms_Sysvr2_W, F_syms_Sysvr3_W, F_syms_Sysvr4_W, F_syms_Sysvr5_W, F_syms_Sysvr6_W, F_syms_Sysvr7_W, F_syms_Sysvr8_W, F_syms_Sysvr9_W, F_syms_Sysvl0_W, F_syms_Sysvr10_W, F_syms_Sysvc_W, lenI_str]
  refine W.mono (loop_syms_Sysv l hl l.length 0 0 _ (Nat.zero_add _) (by decide) ?_ ?_ ?_ ?_) fun x e h ⟨g1, g2⟩ => ?_
  · (first | (simp only [fws, cond_true, cond_false, if_true, if_false, unV, isNil, optI, iV, stepI, evalR, reduceIte, reduceCtorEq, Nat.reduceEqDiff, Int.reduceLT, Int.reduceLE, Int.reduceToNat, Nat.reduceLT, Nat.reduceLeDiff, Int.reduceEq, Int.reduceNeg, IntKind.bits, Nat.reduceAdd, Nat.reduceMul, Nat.reducePow, Int.reducePow, ini, *]; done) | (simp only [fws, cond_true, cond_false, if_true, if_false, unV, isNil, optI, iV, stepI, evalR, reduceIte, reduceCtorEq, Nat.reduceEqDiff, Int.reduceLT, Int.reduceLE, Int.reduceToNat, Nat.reduceLT, Nat.reduceLeDiff, Int.reduceEq, Int.reduceNeg, IntKind.bits, Nat.reduceAdd, Nat.reduceMul, Nat.reducePow, Int.reducePow, ini]; rfl))
  · (first | (simp only [fws, cond_true, cond_false, if_true, if_false, unV, isNil, optI, iV, stepI, evalR, reduceIte, reduceCtorEq, Nat.reduceEqDiff, Int.reduceLT, Int.reduceLE, Int.reduceToNat, Nat.reduceLT, Nat.reduceLeDiff, Int.reduceEq, Int.reduceNeg, IntKind.bits, Nat.reduceAdd, Nat.reduceMul, Nat.reducePow, Int.reducePow, ini, *]; done) | (simp only [fws, cond_true, cond_false, if_true, if_false, unV, isNil, optI, iV, stepI, evalR, reduceIte, reduceCtorEq, Nat.reduceEqDiff, Int.reduceLT, Int.reduceLE, Int.reduceToNat, Nat.reduceLT, Nat.reduceLeDiff, Int.reduceEq, Int.reduceNeg, IntKind.bits, Nat.reduceAdd, Nat.reduceMul, Nat.reducePow, Int.reducePow, ini]; rfl))
  · (first | (simp only [fws, cond_true, cond_false, if_true, if_false, unV, isNil, optI, iV, stepI, evalR, reduceIte, reduceCtorEq, Nat.reduceEqDiff, Int.reduceLT, Int.reduceLE, Int.reduceToNat, Nat.reduceLT, Nat.reduceLeDiff, Int.reduceEq, Int.reduceNeg, IntKind.bits, Nat.reduceAdd, Nat.reduceMul, Nat.reducePow, Int.reducePow, ini, *]; done) | (simp only [fws, cond_true, cond_false, if_true, if_false, unV, isNil, optI, iV, stepI, evalR, reduceIte, reduceCtorEq, Nat.reduceEqDiff, Int.reduceLT, Int.reduceLE, Int.reduceToNat, Nat.reduceLT, Nat.reduceLeDiff, Int.reduceEq, Int.reduceNeg, IntKind.bits, Nat.reduceAdd, Nat.reduceMul, Nat.reducePow, Int.reducePow, ini]; rfl))
  · (first | (simp only [fws, cond_true, cond_false, if_true, if_false, unV, isNil, optI, iV, stepI, evalR, reduceIte, reduceCtorEq, Nat.reduceEqDiff, Int.reduceLT, Int.reduceLE, Int.reduceToNat, Nat.reduceLT, Nat.reduceLeDiff, Int.reduceEq, Int.reduceNeg, IntKind.bits, Nat.reduceAdd, Nat.reduceMul, Nat.reducePow, Int.reducePow, ini, *]; done) | (simp only [fws, cond_true, cond_false, if_true, if_false, unV, isNil, optI, iV, stepI, evalR, reduceIte, reduceCtorEq, Nat.reduceEqDiff, Int.reduceLT, Int.reduceLE, Int.reduceToNat, Nat.reduceLT, Nat.reduceLeDiff, Int.reduceEq, Int.reduceNeg, IntKind.bits, Nat.reduceAdd, Nat.reduceMul, Nat.reducePow, Int.reducePow, ini]; rfl))
  subst g1
  simp only [fws, cond_true, cond_false, if_true, if_false, unV, isNil, optI, iV, stepI, evalR, reduceIte, reduceCtorEq, Nat.reduceEqDiff, Int.reduceLT, Int.reduceLE, Int.reduceToNat, Nat.reduceLT, Nat.reduceLeDiff, Int.reduceEq, Int.reduceNeg, IntKind.bits, Nat.reduceAdd, Nat.reduceMul, Nat.reducePow, Int.reducePow, ini, F_syms_Sysvr0_W, F_syms_Sysvr1_W, F_syms_Sysvr2_W, F_syms_Sysvr3_W, F_syms_Sysvr4_W, F_syms_Sysvr5_W, F_syms_Sysvr6_W, F_syms_Sysvr7_W, F_syms_Sysvr8_W, F_syms_Sysvr9_W, F_syms_Sysvl0_W, F_syms_Sysvr10_W, F_syms_Sysvc_W, g2, List.drop_zero]
  rfl
theorem loop_ref10_Sysv {T : Tab} (l : List UInt8) (hl : l.length ≤ 4096) : ∀ (m i h : Nat) (env : Env), i + m = l.length → h < 268435456 → env 0 = strV l → env 3 = .int .u64 h → env 4 = .int .i64 i →
    W T (.loop F_ref10_Sysvl0) env [] fun x e _ => x = .exit 0 ∧ e 3 = .int .u64 (sysvN (l.drop i) h) := by
  intro m
  induction m with
  | zero =>
    intro i h env hi hh v0 v3 v4
    have h1 : ¬ ((i : Int) < l.length) := by omega
    rw [w_loop, List.drop_of_length_le (by omega)]
    simp only [fws, cond_true, cond_false, if_true, if_false, unV, isNil, optI, iV, stepI, evalR, reduceIte, reduceCtorEq, Nat.reduceEqDiff, Int.reduceLT, Int.reduceLE, Int.reduceToNat, Nat.reduceLT, Nat.reduceLeDiff, Int.reduceEq, Int.reduceNeg, IntKind.bits, Nat.reduceAdd, Nat.reduceMul, Nat.reducePow, Int.reducePow, ini, fwi, F_ref10_Sysvr0_W, F_ref10_Sysvr1_W, F_ref10_Sysvr2_W, F_ref10_Sysvr3_W, F_ref10_Sysvr5_W, F_ref10_Sysvr6_W, F_ref10_Sysvr7_W, F_ref10_Sysvr8_W, F_ref10_Sysvr4_W, F_ref10_Sysvl0_W, F_ref10_Sysvr9_W, F_ref10_Sysvc_W, v0, v3, v4, lenI_str, h1]
    exact ⟨trivial, rfl⟩
  | succ m ih =>
    intro i h env hi hh v0 v3 v4
    have h1 : ((i : Int) < l.length) := by omega
    have hix : i < l.length := by omega
    have h0 : (0 : Int) ≤ i := Int.natCast_nonneg _
    have hc := (l[i]).toNat_lt
    have hget : l.getD i 0 = l[i] := by rw [List.getD_eq_getElem?_getD, List.getElem?_eq_getElem hix]; rfl
    have w2 : IntKind.i64.wrap ((i : Int) + 1) = ((i + 1 : Nat) : Int) := by rw [wrapI64 (by omega) (by omega)]; rfl
    have hd : sysvN (l.drop i) h = sysvN (l.drop (i + 1)) (svN h (l[i]).toNat) := by rw [List.drop_eq_getElem_cons hix]; rfl
    have hs := svN_lt h (l[i]).toNat
    have w1 : (IntKind.u64.wrap (IntKind.u64.wrap ((h : Int) * 16) + IntKind.u64.wrap ((l[i]).toNat : Int))).tmod 4294967296 = (((h * 16 + (l[i]).toNat) % 4294967296 : Nat) : Int) := by
      rw [wrap_u64, wrap_u64, wrap_u64, tmodN (by omega)]; omega
    generalize hx : (h * 16 + (l[i]).toNat) % 4294967296 = x at w1
    have b1 : (x : Int).tdiv 268435456 = ((x / 268435456 : Nat) : Int) := by rw [tdivN (by omega)]; rfl
    have b2 : (x : Int).tmod 268435456 = ((x % 268435456 : Nat) : Int) := by rw [tmodN (by omega)]; rfl
    have b3 : IntKind.u64.wrap (((x / 268435456 : Nat) : Int) * 16) = ((x / 268435456 * 16 : Nat) : Int) := by rw [wrap_u64]; omega
    have b4 : Go.bits .xor .u64 ((x % 268435456 : Nat) : Int) ((x / 268435456 * 16 : Nat) : Int) = ((svN h (l[i]).toNat : Nat) : Int) := by
      rw [(bits_u64 (by omega) (by omega)).2.2.1, ← hx]; rfl
    have b5 : IntKind.u64.wrap ((x / 268435456 : Nat) : Int) = ((x / 268435456 : Nat) : Int) := by rw [wrap_u64]; omega
    rw [hd, w_loop]
    simp only [fws, cond_true, cond_false, if_true, if_false, unV, isNil, optI, iV, stepI, evalR, reduceIte, reduceCtorEq, Nat.reduceEqDiff, Int.reduceLT, Int.reduceLE, Int.reduceToNat, Nat.reduceLT, Nat.reduceLeDiff, Int.reduceEq, Int.reduceNeg, IntKind.bits, Nat.reduceAdd, Nat.reduceMul, Nat.reducePow, Int.reducePow, ini, fwi, F_ref10_Sysvr0_W, F_ref10_Sysvr1_W, F_ref10_Sysvr2_W, F_ref10_Sysvr3_W, F_ref10_Sysvr5_W, F_ref10_Sysvr6_W, F_ref10_Sysvr7_W, F_ref10_Sysvr8_W, F_ref10_Sysvr4_W, F_ref10_Sysvl0_W, F_ref10_Sysvr9_W, F_ref10_Sysvc_W, v0, v3, v4, lenI_str, h1, h0, hget, and_self, w1, b1, b5, b2, b3, b4, w2]
    refine W.mono (ih (i + 1) (svN h (l[i]).toNat) _ (by omega) hs ?_ ?_ ?_) fun _ _ _ h => h
    · (first | (simp only [fws, cond_true, cond_false, if_true, if_false, unV, isNil, optI, iV, stepI, evalR, reduceIte, reduceCtorEq, Nat.reduceEqDiff, Int.reduceLT, Int.reduceLE, Int.reduceToNat, Nat.reduceLT, Nat.reduceLeDiff, Int.reduceEq, Int.reduceNeg, IntKind.bits, Nat.reduceAdd, Nat.reduceMul, Nat.reducePow, Int.reducePow, ini, *]; done) | (simp only [fws, cond_true, cond_false, if_true, if_false, unV, isNil, optI, iV, stepI, evalR, reduceIte, reduceCtorEq, Nat.reduceEqDiff, Int.reduceLT, Int.reduceLE, Int.reduceToNat, Nat.reduceLT, Nat.reduceLeDiff, Int.reduceEq, Int.reduceNeg, IntKind.bits, Nat.reduceAdd, Nat.reduceMul, Nat.reducePow, Int.reducePow, ini]; rfl))
    · (first | (simp only [fws, cond_true, cond_false, if_true, if_false, unV, isNil, optI, iV, stepI, evalR, reduceIte, reduceCtorEq, Nat.reduceEqDiff, Int.reduceLT, Int.reduceLE, Int.reduceToNat, Nat.reduceLT, Nat.reduceLeDiff, Int.reduceEq, Int.reduceNeg, IntKind.bits, Nat.reduceAdd, Nat.reduceMul, Nat.reducePow, Int.reducePow, ini, *]; done) | (simp only [fws, cond_true, cond_false, if_true, if_false, unV, isNil, optI, iV, stepI, evalR, reduceIte, reduceCtorEq, Nat.reduceEqDiff, Int.reduceLT, Int.reduceLE, Int.reduceToNat, Nat.reduceLT, Nat.reduceLeDiff, Int.reduceEq, Int.reduceNeg, IntKind.bits, Nat.reduceAdd, Nat.reduceMul, Nat.reducePow, Int.reducePow, ini]; rfl))
    · (first | (simp only [fws, cond_true, cond_false, if_true, if_false, unV, isNil, optI, iV, stepI, evalR, reduceIte, reduceCtorEq, Nat.reduceEqDiff, Int.reduceLT, Int.reduceLE, Int.reduceToNat, Nat.reduceLT, Nat.reduceLeDiff, Int.reduceEq, Int.reduceNeg, IntKind.bits, Nat.reduceAdd, Nat.reduceMul, Nat.reducePow, Int.reducePow, ini, *]; done) | (simp only [fws, cond_true, cond_false, if_true, if_false, unV, isNil, optI, iV, stepI, evalR, reduceIte, reduceCtorEq, Nat.reduceEqDiff, Int.reduceLT, Int.reduceLE, Int.reduceToNat, Nat.reduceLT, Nat.reduceLeDiff, Int.reduceEq, Int.reduceNeg, IntKind.bits, Nat.reduceAdd, Nat.reduceMul, Nat.reducePow, Int.reducePow, ini]; rfl))
theorem f_ref10_Sysv {T : Tab} (h : T 18 = some F_ref10_Sysv) (l : List UInt8) (hl : l.length ≤ 4096) : FnV T 18 [strV l] (.int .u32 (sysvN l 0)) := by
  refine FnV_of rfl ?_
  rw [Ev_fn h rfl]
  simp only [F_ref10_Sysv, fws, cond_true, cond_false, if_true, if_false, unV, isNil, optI, iV, stepI, evalR, reduceIte, reduceCtorEq, Nat.reduceEqDiff, Int.reduceLT, Int.reduceLE, Int.reduceToNat, Nat.reduceLT, Nat.reduceLeDiff, Int.reduceEq, Int.reduceNeg, IntKind.bits, Nat.reduceAdd, Nat.reduceMul, Nat.reducePow, Int.reducePow, ini, fwi, F_ref10_Sysvr0_W, F_ref10_Sysvr1_W, F_ref10_Sysvr2_W, F_ref10_Sysvr3_W, F_ref10_Sysvr5_W, F_ref10_Sysvr6_W, F_ref10_Sysvr7_W, F_ref10_Sysvr8_W, F_ref10_Sysvr4_W, F_ref10_Sysvl0_W, F_ref10_Sysvr9_W, F_ref10_Sysvc_W]
  refine W.mono (loop_ref10_Sysv l hl l.length 0 0 _ (Nat.zero_add _) (by decide) ?_ ?_ ?_) fun x e h ⟨g1, g2⟩ => ?_
  · (first | (simp only [fws, cond_true, cond_false, if_true, if_false, unV, isNil, optI, iV, stepI, evalR, reduceIte, reduceCtorEq, Nat.reduceEqDiff, Int.reduceLT, Int.reduceLE, Int.reduceToNat, Nat.reduceLT, Nat.reduceLeDiff, Int.reduceEq, Int.reduceNeg, IntKind.bits, Nat.reduceAdd, Nat.reduceMul, Nat.reducePow, Int.reducePow, ini, *]; done) | (simp only [fws, cond_true, cond_false, if_true, if_false, unV, isNil, optI, iV, stepI, evalR, reduceIte, reduceCtorEq, Nat.reduceEqDiff, Int.reduceLT, Int.reduceLE, Int.reduceToNat, Nat.reduceLT, Nat.reduceLeDiff, Int.reduceEq, Int.reduceNeg, IntKind.bits, Nat.reduceAdd, Nat.reduceMul, Nat.reducePow, Int.reducePow, ini]; rfl))
  · (first | (simp only [fws, cond_true, cond_false, if_true, if_false, unV, isNil, optI, iV, stepI, evalR, reduceIte, reduceCtorEq, Nat.reduceEqDiff, Int.reduceLT, Int.reduceLE, Int.reduceToNat, Nat.reduceLT, Nat.reduceLeDiff, Int.reduceEq, Int.reduceNeg, IntKind.bits, Nat.reduceAdd, Nat.reduceMul, Nat.reducePow, Int.reducePow, ini, *]; done) | (simp only [fws, cond_true, cond_false, if_true, if_false, unV, isNil, optI, iV, stepI, evalR, reduceIte, reduceCtorEq, Nat.reduceEqDiff, Int.reduceLT, Int.reduceLE, Int.reduceToNat, Nat.reduceLT, Nat.reduceLeDiff, Int.reduceEq, Int.reduceNeg, IntKind.bits, Nat.reduceAdd, Nat.reduceMul, Nat.reducePow, Int.reducePow, ini]; rfl))
  · (first | (simp only [fws, cond_true, cond_false, if_true, if_false, unV, isNil, optI, iV, stepI, evalR, reduceIte, reduceCtorEq, Nat.reduceEqDiff, Int.reduceLT, Int.reduceLE, Int.reduceToNat, Nat.reduceLT, Nat.reduceLeDiff, Int.reduceEq, Int.reduceNeg, IntKind.bits, Nat.reduceAdd, Nat.reduceMul, Nat.reducePow, Int.reducePow, ini, *]; done) | (simp only [fws, cond_true, cond_false, if_true, if_false, unV, isNil, optI, iV, stepI, evalR, reduceIte, reduceCtorEq, Nat.reduceEqDiff, Int.reduceLT, Int.reduceLE, Int.reduceToNat, Nat.reduceLT, Nat.reduceLeDiff, Int.reduceEq, Int.reduceNeg, IntKind.bits, Nat.reduceAdd, Nat.reduceMul, Nat.reducePow, Int.reducePow, ini]; rfl))
  subst g1
  rw [List.drop_zero] at g2
  have w : IntKind.u32.wrap (sysvN l 0 : Int) = sysvN l 0 := by have := sysvN_lt l 0 (by decide); rw [wrap_u32]; omega
  simp only [fws, cond_true, cond_false, if_true, if_false, unV, isNil, optI, iV, stepI, evalR, reduceIte, reduceCtorEq, Nat.reduceEqDiff, Int.reduceLT, Int.reduceLE, Int.reduceToNat, Nat.reduceLT, Nat.reduceLeDiff, Int.reduceEq, Int.reduceNeg, IntKind.bits, Nat.reduceAdd, Nat.reduceMul, Nat.reducePow, Int.reducePow, ini, F_ref10_Sysvr0_W, F_ref10_Sysvr1_W, F_ref10_Sysvr2_W, F_ref10_Sysvr3_W, F_ref10_Sysvr5_W, F_ref10_Sysvr6_W, F_ref10_Sysvr7_W, F_ref10_Sysvr8_W, F_ref10_Sysvr4_W, F_ref10_Sysvl0_W, F_ref10_Sysvr9_W, F_ref10_Sysvc_W, g2, w]
  rfl
theorem gnuN_lt : ∀ (l : List UInt8) (h : Nat), h < 4294967296 → gnuN l h < 4294967296
  | [], h, hh => hh
  | c :: l, h, _ => gnuN_lt l (gnN h c.toNat) (gnN_lt _ _)
theorem loop_syms_Gnu {T : Tab} (l : List UInt8) (hl : l.length ≤ 4096) : ∀ (m i h : Nat) (env : Env), i + m = l.length → h < 4294967296 → env 0 = strV l → env 3 = .int .u32 h → env 6 = .int .i64 l.length → env 7 = .int .i64 i →
    W T (.loop F_syms_Gnul0) env [] fun x e _ => x = .exit 0 ∧ e 3 = .int .u32 (gnuN (l.drop i) h) := by
  intro m
  induction m with
  | zero =>
    intro i h env hi hh v0 v3 v6 v7
    have h1 : ¬ ((i : Int) < l.length) := by omega
    rw [w_loop, List.drop_of_length_le (by omega)]
    simp only [fws, cond_true, cond_false, if_true, if_false, unV, isNil, optI, iV, stepI, evalR, reduceIte, reduceCtorEq, Nat.reduceEqDiff, Int.reduceLT, Int.reduceLE, Int.reduceToNat, Nat.reduceLT, Nat.reduceLeDiff, Int.reduceEq, Int.reduceNeg, IntKind.bits, Nat.reduceAdd, Nat.reduceMul, Nat.reducePow, Int.reducePow, ini, F_syms_Gnur0_W, F_syms_Gnur1_W, F_syms_Gnur2_W, F_syms_Gnur3_W, F_syms_Gnur4_W, F_syms_Gnur5_W, F_syms_Gnur6_W, F_syms_Gnul0_W, F_syms_Gnur7_W, F_syms_Gnuc_W, v0, v3, v6, v7, h1]
    exact ⟨trivial, rfl⟩
  | succ m ih =>
    intro i h env hi hh v0 v3 v6 v7
    have h1 : ((i : Int) < l.length) := by omega
    have hix : i < l.length := by omega
    have h0 : (0 : Int) ≤ i := Int.natCast_nonneg _
    have hc := (l[i]).toNat_lt
    have hget : l.getD i 0 = l[i] := by rw [List.getD_eq_getElem?_getD, List.getElem?_eq_getElem hix]; rfl
    have w1 : IntKind.u32.wrap (IntKind.u32.wrap ((h : Int) * 33) + IntKind.u32.wrap ((l[i]).toNat : Int)) = ((gnN h (l[i]).toNat : Nat) : Int) := by
      unfold gnN
      rw [wrap_u32, wrap_u32, wrap_u32]; omega
    have w2 : IntKind.i64.wrap ((i : Int) + 1) = ((i + 1 : Nat) : Int) := by rw [wrapI64 (by omega) (by omega)]; rfl
    have hd : gnuN (l.drop i) h = gnuN (l.drop (i + 1)) (gnN h (l[i]).toNat) := by rw [List.drop_eq_getElem_cons hix]; rfl
    rw [hd, w_loop]
    simp only [fws, cond_true, cond_false, if_true, if_false, unV, isNil, optI, iV, stepI, evalR, reduceIte, reduceCtorEq, Nat.reduceEqDiff, Int.reduceLT, Int.reduceLE, Int.reduceToNat, Nat.reduceLT, Nat.reduceLeDiff, Int.reduceEq, Int.reduceNeg, IntKind.bits, Nat.reduceAdd, Nat.reduceMul, Nat.reducePow, Int.reducePow, ini, fwi, F_syms_Gnur0_W, F_syms_Gnur1_W, F_syms_Gnur2_W, F_syms_Gnur3_W, F_syms_Gnur4_W, F_syms_Gnur5_W, F_syms_Gnur6_W, F_syms_Gnul0_W, F_syms_Gnur7_W, F_syms_Gnuc_W, v0, v3, v6, v7, h1, h0, hget, and_self, w1, w2]
    refine W.mono (ih (i + 1) _ _ (by omega) (gnN_lt _ _) ?_ ?_ ?_ ?_) fun _ _ _ h => h
    · (first | (simp only [fws, cond_true, cond_false, if_true, if_false, unV, isNil, optI, iV, stepI, evalR, reduceIte, reduceCtorEq, Nat.reduceEqDiff, Int.reduceLT, Int.reduceLE, Int.reduceToNat, Nat.reduceLT, Nat.reduceLeDiff, Int.reduceEq, Int.reduceNeg, IntKind.bits, Nat.reduceAdd, Nat.reduceMul, Nat.reducePow, Int.reducePow, ini, *]; done) | (simp only [fws, cond_true, cond_false, if_true, if_false, unV, isNil, optI, iV, stepI, evalR, reduceIte, reduceCtorEq, Nat.reduceEqDiff, Int.reduceLT, Int.reduceLE, Int.reduceToNat, Nat.reduceLT, Nat.reduceLeDiff, Int.reduceEq, Int.reduceNeg, IntKind.bits, Nat.reduceAdd, Nat.reduceMul, Nat.reducePow, Int.reducePow, ini]; rfl))
    · (first | (simp only [fws, cond_true, cond_false, if_true, if_false, unV, isNil, optI, iV, stepI, evalR, reduceIte, reduceCtorEq, Nat.reduceEqDiff, Int.reduceLT, Int.reduceLE, Int.reduceToNat, Nat.reduceLT, Nat.reduceLeDiff, Int.reduceEq, Int.reduceNeg, IntKind.bits, Nat.reduceAdd, Nat.reduceMul, Nat.reducePow, Int.reducePow, ini, *]; done) | (simp only [fws, cond_true, cond_false, if_true, if_false, unV, isNil, optI, iV, stepI, evalR, reduceIte, reduceCtorEq, Nat.reduceEqDiff, Int.reduceLT, Int.reduceLE, Int.reduceToNat, Nat.reduceLT, Nat.reduceLeDiff, Int.reduceEq, Int.reduceNeg, IntKind.bits, Nat.reduceAdd, Nat.reduceMul, Nat.reducePow, Int.reducePow, ini]; rfl))
    · (first | (simp only [fws, cond_true, cond_false, if_true, if_false, unV, isNil, optI, iV, stepI, evalR, reduceIte, reduceCtorEq, Nat.reduceEqDiff, Int.reduceLT, Int.reduceLE, Int.reduceToNat, Nat.reduceLT, Nat.reduceLeDiff, Int.reduceEq, Int.reduceNeg, IntKind.bits, Nat.reduceAdd, Nat.reduceMul, Nat.reducePow, Int.reducePow, ini, *]; done) | (simp only [fws, cond_true, cond_false, if_true, if_false, unV, isNil, optI, iV, stepI, evalR, reduceIte, reduceCtorEq, Nat.reduceEqDiff, Int.reduceLT, Int.reduceLE, Int.reduceToNat, Nat.reduceLT, Nat.reduceLeDiff, Int.reduceEq, Int.reduceNeg, IntKind.bits, Nat.reduceAdd, Nat.reduceMul, Nat.reducePow, Int.reducePow, ini]; rfl))
    · (first | (simp only [fws, cond_true, cond_false, if_true, if_false, unV, isNil, optI, iV, stepI, evalR, reduceIte, reduceCtorEq, Nat.reduceEqDiff, Int.reduceLT, Int.reduceLE, Int.reduceToNat, Nat.reduceLT, Nat.reduceLeDiff, Int.reduceEq, Int.reduceNeg, IntKind.bits, Nat.reduceAdd, Nat.reduceMul, Nat.reducePow, Int.reducePow, ini, *]; done) | (simp only [fws, cond_true, cond_false, if_true, if_false, unV, isNil, optI, iV, stepI, evalR, reduceIte, reduceCtorEq, Nat.reduceEqDiff, Int.reduceLT, Int.reduceLE, Int.reduceToNat, Nat.reduceLT, Nat.reduceLeDiff, Int.reduceEq, Int.reduceNeg, IntKind.bits, Nat.reduceAdd, Nat.reduceMul, Nat.reducePow, Int.reducePow, ini]; rfl))
theorem f_syms_Gnu {T : Tab} (h : T 19 = some F_syms_Gnu) (l : List UInt8) (hl : l.length ≤ 4096) : FnV T 19 [strV l] (.int .u32 (gnuN l 5381)) := by
  refine FnV_of rfl ?_
  rw [Ev_fn h rfl]
  simp only [F_syms_Gnu, fws, cond_true, cond_false, if_true, if_false, unV, isNil, optI, iV, stepI, evalR, reduceIte, reduceCtorEq, Nat.reduceEqDiff, Int.reduceLT, Int.reduceLE, Int.reduceToNat, Nat.reduceLT, Nat.reduceLeDiff, Int.reduceEq, Int.reduceNeg, IntKind.bits, Nat.reduceAdd, Nat.reduceMul, Nat.reducePow, Int.reducePow, ini, fwi, F_syms_Gnur0_W, F_syms_Gnur1_W, F_syms_Gnur2_W, F_syms_Gnur3_W, F_syms_Gnur4_W, F_syms_Gnur5_W, F_syms_Gnur6_W, F_syms_Gnul0_W, F_syms_Gnur7_W, F_syms_Gnuc_W, lenI_str]
  refine W.mono (loop_syms_Gnu l hl l.length 0 5381 _ (Nat.zero_add _) (by decide) ?_ ?_ ?_ ?_) fun x e h ⟨g1, g2⟩ => ?_
  · (first | (simp only [fws, cond_true, cond_false, if_true, if_false, unV, isNil, optI, iV, stepI, evalR, reduceIte, reduceCtorEq, Nat.reduceEqDiff, Int.reduceLT, Int.reduceLE, Int.reduceToNat, Nat.reduceLT, Nat.reduceLeDiff, Int.reduceEq, Int.reduceNeg, IntKind.bits, Nat.reduceAdd, Nat.reduceMul, Nat.reducePow, Int.reducePow, ini, *]; done) | (simp only [fws, cond_true, cond_false, if_true, if_false, unV, isNil, optI, iV, stepI, evalR, reduceIte, reduceCtorEq, Nat.reduceEqDiff, Int.reduceLT, Int.reduceLE, Int.reduceToNat, Nat.reduceLT, Nat.reduceLeDiff, Int.reduceEq, Int.reduceNeg, IntKind.bits, Nat.reduceAdd, Nat.reduceMul, Nat.reducePow, Int.reducePow, ini]; rfl))
  · (first | (simp only [fws, cond_true, cond_false, if_true, if_false, unV, isNil, optI, iV, stepI, evalR, reduceIte, reduceCtorEq, Nat.reduceEqDiff, Int.reduceLT, Int.reduceLE, Int.reduceToNat, Nat.reduceLT, Nat.reduceLeDiff, Int.reduceEq, Int.reduceNeg, IntKind.bits, Nat.reduceAdd, Nat.reduceMul, Nat.reducePow, Int.reducePow, ini, *]; done) | (simp only [fws, cond_true, cond_false, if_true, if_false, unV, isNil, optI, iV, stepI, evalR, reduceIte, reduceCtorEq, Nat.reduceEqDiff, Int.reduceLT, Int.reduceLE, Int.reduceToNat, Nat.reduceLT, Nat.reduceLeDiff, Int.reduceEq, Int.reduceNeg, IntKind.bits, Nat.reduceAdd, Nat.reduceMul, Nat.reducePow, Int.reducePow, ini]; rfl))
  · (first | (simp only [fws, cond_true, cond_false, if_true, if_false, unV, isNil, optI, iV, stepI, evalR, reduceIte, reduceCtorEq, Nat.reduceEqDiff, Int.reduceLT, Int.reduceLE, Int.reduceToNat, Nat.reduceLT, Nat.reduceLeDiff, Int.reduceEq, Int.reduceNeg, IntKind.bits, Nat.reduceAdd, Nat.reduceMul, Nat.reducePow, Int.reducePow, ini, *]; done) | (simp only [fws, cond_true, cond_false, if_true, if_false, unV, isNil, optI, iV, stepI, evalR, reduceIte, reduceCtorEq, Nat.reduceEqDiff, Int.reduceLT, Int.reduceLE, Int.reduceToNat, Nat.reduceLT, Nat.reduceLeDiff, Int.reduceEq, Int.reduceNeg, IntKind.bits, Nat.reduceAdd, Nat.reduceMul, Nat.reducePow, Int.reducePow, ini]; rfl))
  · (first | (simp only [fws, cond_true, cond_false, if_true, if_false, unV, isNil, optI, iV, stepI, evalR, reduceIte, reduceCtorEq, Nat.reduceEqDiff, Int.reduceLT, Int.reduceLE, Int.reduceToNat, Nat.reduceLT, Nat.reduceLeDiff, Int.reduceEq, Int.reduceNeg, IntKind.bits, Nat.reduceAdd, Nat.reduceMul, Nat.reducePow, Int.reducePow, ini, *]; done) | (simp only [fws, cond_true, cond_false, if_true, if_false, unV, isNil, optI, iV, stepI, evalR, reduceIte, reduceCtorEq, Nat.reduceEqDiff, Int.reduceLT, Int.reduceLE, Int.reduceToNat, Nat.reduceLT, Nat.reduceLeDiff, Int.reduceEq, Int.reduceNeg, IntKind.bits, Nat.reduceAdd, Nat.reduceMul, Nat.reducePow, Int.reducePow, ini]; rfl))
  subst g1
  simp only [fws, cond_true, cond_false, if_true, if_false, unV, isNil, optI, iV, stepI, evalR, reduceIte, reduceCtorEq, Nat.reduceEqDiff, Int.reduceLT, Int.reduceLE, Int.reduceToNat, Nat.reduceLT, Nat.reduceLeDiff, Int.reduceEq, Int.reduceNeg, IntKind.bits, Nat.reduceAdd, Nat.reduceMul, Nat.reducePow, Int.reducePow, ini, F_syms_Gnur0_W, F_syms_Gnur1_W, F_syms_Gnur2_W, F_syms_Gnur3_W, F_syms_Gnur4_W, F_syms_Gnur5_W, F_syms_Gnur6_W, F_syms_Gnul0_W, F_syms_Gnur7_W, F_syms_Gnuc_W, g2, List.drop_zero]
  rfl
theorem loop_ref10_Gnu {T : Tab} (l : List UInt8) (hl : l.length ≤ 4096) : ∀ (m i h : Nat) (env : Env), i + m = l.length → h < 4294967296 → env 0 = strV l → env 3 = .int .u64 h → env 4 = .int .i64 i →
    W T (.loop F_ref10_Gnul0) env [] fun x e _ => x = .exit 0 ∧ e 3 = .int .u64 (gnuN (l.drop i) h) := by
  intro m
  induction m with
  | zero =>
    intro i h env hi hh v0 v3 v4
    have h1 : ¬ ((i : Int) < l.length) := by omega
    rw [w_loop, List.drop_of_length_le (by omega)]
    simp only [fws, cond_true, cond_false, if_true, if_false, unV, isNil, optI, iV, stepI, evalR, reduceIte, reduceCtorEq, Nat.reduceEqDiff, Int.reduceLT, Int.reduceLE, Int.reduceToNat, Nat.reduceLT, Nat.reduceLeDiff, Int.reduceEq, Int.reduceNeg, IntKind.bits, Nat.reduceAdd, Nat.reduceMul, Nat.reducePow, Int.reducePow, ini, fwi, F_ref10_Gnur0_W, F_ref10_Gnur1_W, F_ref10_Gnur2_W, F_ref10_Gnur3_W, F_ref10_Gnur5_W, F_ref10_Gnur4_W, F_ref10_Gnul0_W, F_ref10_Gnur6_W, F_ref10_Gnuc_W, v0, v3, v4, lenI_str, h1]
    exact ⟨trivial, rfl⟩
  | succ m ih =>
    intro i h env hi hh v0 v3 v4
    have h1 : ((i : Int) < l.length) := by omega
    have hix : i < l.length := by omega
    have h0 : (0 : Int) ≤ i := Int.natCast_nonneg _
    have hc := (l[i]).toNat_lt
    have hget : l.getD i 0 = l[i] := by rw [List.getD_eq_getElem?_getD, List.getElem?_eq_getElem hix]; rfl
    have w1 : (IntKind.u64.wrap (IntKind.u64.wrap ((h : Int) * 33) + IntKind.u64.wrap ((l[i]).toNat : Int))).tmod 4294967296 = ((gnN h (l[i]).toNat : Nat) : Int) := by
      unfold gnN
      rw [wrap_u64, wrap_u64, wrap_u64, tmodN (by omega)]; omega
    have w2 : IntKind.i64.wrap ((i : Int) + 1) = ((i + 1 : Nat) : Int) := by rw [wrapI64 (by omega) (by omega)]; rfl
    have hd : gnuN (l.drop i) h = gnuN (l.drop (i + 1)) (gnN h (l[i]).toNat) := by rw [List.drop_eq_getElem_cons hix]; rfl
    rw [hd, w_loop]
    simp only [fws, cond_true, cond_false, if_true, if_false, unV, isNil, optI, iV, stepI, evalR, reduceIte, reduceCtorEq, Nat.reduceEqDiff, Int.reduceLT, Int.reduceLE, Int.reduceToNat, Nat.reduceLT, Nat.reduceLeDiff, Int.reduceEq, Int.reduceNeg, IntKind.bits, Nat.reduceAdd, Nat.reduceMul, Nat.reducePow, Int.reducePow, ini, fwi, F_ref10_Gnur0_W, F_ref10_Gnur1_W, F_ref10_Gnur2_W, F_ref10_Gnur3_W, F_ref10_Gnur5_W, F_ref10_Gnur4_W, F_ref10_Gnul0_W, F_ref10_Gnur6_W, F_ref10_Gnuc_W, v0, v3, v4, lenI_str, h1, h0, hget, and_self, w1, w2]
    refine W.mono (ih (i + 1) _ _ (by omega) (gnN_lt _ _) ?_ ?_ ?_) fun _ _ _ h => h
    · (first | (simp only [fws, cond_true, cond_false, if_true, if_false, unV, isNil, optI, iV, stepI, evalR, reduceIte, reduceCtorEq, Nat.reduceEqDiff, Int.reduceLT, Int.reduceLE, Int.reduceToNat, Nat.reduceLT, Nat.reduceLeDiff, Int.reduceEq, Int.reduceNeg, IntKind.bits, Nat.reduceAdd, Nat.reduceMul, Nat.reducePow, Int.reducePow, ini, *]; done) | (simp only [fws, cond_true, cond_false, if_true, if_false, unV, isNil, optI, iV, stepI, evalR, reduceIte, reduceCtorEq, Nat.reduceEqDiff, Int.reduceLT, Int.reduceLE, Int.reduceToNat, Nat.reduceLT, Nat.reduceLeDiff, Int.reduceEq, Int.reduceNeg, IntKind.bits, Nat.reduceAdd, Nat.reduceMul, Nat.reducePow, Int.reducePow, ini]; rfl))
    · (first | (simp only [fws, cond_true, cond_false, if_true, if_false, unV, isNil, optI, iV, stepI, evalR, reduceIte, reduceCtorEq, Nat.reduceEqDiff, Int.reduceLT, Int.reduceLE, Int.reduceToNat, Nat.reduceLT, Nat.reduceLeDiff, Int.reduceEq, Int.reduceNeg, IntKind.bits, Nat.reduceAdd, Nat.reduceMul, Nat.reducePow, Int.reducePow, ini, *]; done) | (simp only [fws, cond_true, cond_false, if_true, if_false, unV, isNil, optI, iV, stepI, evalR, reduceIte, reduceCtorEq, Nat.reduceEqDiff, Int.reduceLT, Int.reduceLE, Int.reduceToNat, Nat.reduceLT, Nat.reduceLeDiff, Int.reduceEq, Int.reduceNeg, IntKind.bits, Nat.reduceAdd, Nat.reduceMul, Nat.reducePow, Int.reducePow, ini]; rfl))
    · (first | (simp only [fws, cond_true, cond_false, if_true, if_false, unV, isNil, optI, iV, stepI, evalR, reduceIte, reduceCtorEq, Nat.reduceEqDiff, Int.reduceLT, Int.reduceLE, Int.reduceToNat, Nat.reduceLT, Nat.reduceLeDiff, Int.reduceEq, Int.reduceNeg, IntKind.bits, Nat.reduceAdd, Nat.reduceMul, Nat.reducePow, Int.reducePow, ini, *]; done) | (simp only [fws, cond_true, cond_false, if_true, if_false, unV, isNil, optI, iV, stepI, evalR, reduceIte, reduceCtorEq, Nat.reduceEqDiff, Int.reduceLT, Int.reduceLE, Int.reduceToNat, Nat.reduceLT, Nat.reduceLeDiff, Int.reduceEq, Int.reduceNeg, IntKind.bits, Nat.reduceAdd, Nat.reduceMul, Nat.reducePow, Int.reducePow, ini]; rfl))
theorem f_ref10_Gnu {T : Tab} (h : T 20 = some F_ref10_Gnu) (l : List UInt8) (hl : l.length ≤ 4096) : FnV T 20 [strV l] (.int .u32 (gnuN l 5381)) := by
  refine FnV_of rfl ?_
  rw [Ev_fn h rfl]
  simp only [F_ref10_Gnu, fws, cond_true, cond_false, if_true, if_false, unV, isNil, optI, iV, stepI, evalR, reduceIte, reduceCtorEq, Nat.reduceEqDiff, Int.reduceLT, Int.reduceLE, Int.reduceToNat, Nat.reduceLT, Nat.reduceLeDiff, Int.reduceEq, Int.reduceNeg, IntKind.bits, Nat.reduceAdd, Nat.reduceMul, Nat.reducePow, Int.reducePow, ini, fwi, F_ref10_Gnur0_W, F_ref10_Gnur1_W, F_ref10_Gnur2_W, F_ref10_Gnur3_W, F_ref10_Gnur5_W, F_ref10_Gnur4_W, F_ref10_Gnul0_W, F_ref10_Gnur6_W, F_ref10_Gnuc_W]
  refine W.mono (loop_ref10_Gnu l hl l.length 0 5381 _ (Nat.zero_add _) (by decide) ?_ ?_ ?_) fun x e h ⟨g1, g2⟩ => ?_
  · (first | (simp only [fws, cond_true, cond_false, if_true, if_false, unV, isNil, optI, iV, stepI, evalR, reduceIte, reduceCtorEq, Nat.reduceEqDiff, Int.reduceLT, Int.reduceLE, Int.reduceToNat, Nat.reduceLT, Nat.reduceLeDiff, Int.reduceEq, Int.reduceNeg, IntKind.bits, Nat.reduceAdd, Nat.reduceMul, Nat.reducePow, Int.reducePow, ini, *]; done) | (simp only [fws, cond_true, cond_false, if_true, if_false, unV, isNil, optI, iV, stepI, evalR, reduceIte, reduceCtorEq, Nat.reduceEqDiff, Int.reduceLT, Int.reduceLE, Int.reduceToNat, Nat.reduceLT, Nat.reduceLeDiff, Int.reduceEq, Int.reduceNeg, IntKind.bits, Nat.reduceAdd, Nat.reduceMul, Nat.reducePow, Int.reducePow, ini]; rfl))
  · (first | (simp only [fws, cond_true, cond_false, if_true, if_false, unV, isNil, optI, iV, stepI, evalR, reduceIte, reduceCtorEq, Nat.reduceEqDiff, Int.reduceLT, Int.reduceLE, Int.reduceToNat, Nat.reduceLT, Nat.reduceLeDiff, Int.reduceEq, Int.reduceNeg, IntKind.bits, Nat.reduceAdd, Nat.reduceMul, Nat.reducePow, Int.reducePow, ini, *]; done) | (simp only [fws, cond_true, cond_false, if_true, if_false, unV, isNil, optI, iV, stepI, evalR, reduceIte, reduceCtorEq, Nat.reduceEqDiff, Int.reduceLT, Int.reduceLE, Int.reduceToNat, Nat.reduceLT, Nat.reduceLeDiff, Int.reduceEq, Int.reduceNeg, IntKind.bits, Nat.reduceAdd, Nat.reduceMul, Nat.reducePow, Int.reducePow, ini]; rfl))
  · (first | (simp only [fws, cond_true, cond_false, if_true, if_false, unV, isNil, optI, iV, stepI, evalR, reduceIte, reduceCtorEq, Nat.reduceEqDiff, Int.reduceLT, Int.reduceLE, Int.reduceToNat, Nat.reduceLT, Nat.reduceLeDiff, Int.reduceEq, Int.reduceNeg, IntKind.bits, Nat.reduceAdd, Nat.reduceMul, Nat.reducePow, Int.reducePow, ini, *]; done) | (simp only [fws, cond_true, cond_false, if_true, if_false, unV, isNil, optI, iV, stepI, evalR, reduceIte, reduceCtorEq, Nat.reduceEqDiff, Int.reduceLT, Int.reduceLE, Int.reduceToNat, Nat.reduceLT, Nat.reduceLeDiff, Int.reduceEq, Int.reduceNeg, IntKind.bits, Nat.reduceAdd, Nat.reduceMul, Nat.reducePow, Int.reducePow, ini]; rfl))
  subst g1
  rw [List.drop_zero] at g2
  have w : IntKind.u32.wrap (gnuN l 5381 : Int) = gnuN l 5381 := by have := gnuN_lt l 5381 (by decide); rw [wrap_u32]; omega
  simp only [fws, cond_true, cond_false, if_true, if_false, unV, isNil, optI, iV, stepI, evalR, reduceIte, reduceCtorEq, Nat.reduceEqDiff, Int.reduceLT, Int.reduceLE, Int.reduceToNat, Nat.reduceLT, Nat.reduceLeDiff, Int.reduceEq, Int.reduceNeg, IntKind.bits, Nat.reduceAdd, Nat.reduceMul, Nat.reducePow, Int.reducePow, ini, F_ref10_Gnur0_W, F_ref10_Gnur1_W, F_ref10_Gnur2_W, F_ref10_Gnur3_W, F_ref10_Gnur5_W, F_ref10_Gnur4_W, F_ref10_Gnul0_W, F_ref10_Gnur6_W, F_ref10_Gnuc_W, g2, w]
  rfl
theorem law_SymsSums (l : List UInt8) : Ev TSyms 4 [strV l] [] fun v _ => v = .bool true := by
  rw [Ev_fn rfl rfl]
  by_cases hl : l.length ≤ 4096
  · have q1 : ¬ ((4096 : Int) < l.length) := by omega
    have q2 : ((sysvN l 0 : Nat) : Int) < 268435456 := by have := sysvN_lt l 0 (by decide); omega
    simp only [F_law10_SymsSums, fws, cond_true, cond_false, if_true, if_false, unV, isNil, optI, iV, stepI, evalR, reduceIte, reduceCtorEq, Nat.reduceEqDiff, Int.reduceLT, Int.reduceLE, Int.reduceToNat, Nat.reduceLT, Nat.reduceLeDiff, Int.reduceEq, Int.reduceNeg, IntKind.bits, Nat.reduceAdd, Nat.reduceMul, Nat.reducePow, Int.reducePow, ini, fwi, F_law10_SymsSumsr0_W, F_law10_SymsSumsr1_W, F_law10_SymsSumsr1_g3, F_law10_SymsSumsr1_g9, F_law10_SymsSumsr1_g16, F_law10_SymsSumsr1_g21, F_law10_SymsSumsc_W, lenI_str, q1, CC_of (f_syms_Sysv (T := TSyms) rfl l hl), CC_of (f_ref10_Sysv (T := TSyms) rfl l hl), CC_of (f_syms_Gnu (T := TSyms) rfl l hl), CC_of (f_ref10_Gnu (T := TSyms) rfl l hl), q2, CC_of syms_alive]
  · have q1 : ((4096 : Int) < l.length) := by omega
    simp only [F_law10_SymsSums, fws, cond_true, cond_false, if_true, if_false, unV, isNil, optI, iV, stepI, evalR, reduceIte, reduceCtorEq, Nat.reduceEqDiff, Int.reduceLT, Int.reduceLE, Int.reduceToNat, Nat.reduceLT, Nat.reduceLeDiff, Int.reduceEq, Int.reduceNeg, IntKind.bits, Nat.reduceAdd, Nat.reduceMul, Nat.reducePow, Int.reducePow, ini, fwi, F_law10_SymsSumsr0_W, F_law10_SymsSumsr1_W, F_law10_SymsSumsr1_g3, F_law10_SymsSumsr1_g9, F_law10_SymsSumsr1_g16, F_law10_SymsSumsr1_g21, F_law10_SymsSumsc_W, lenI_str, q1]
end Go.Proofs.Ytkhojkdcejmgpaa
