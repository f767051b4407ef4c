/- Rows of bytes within one another, and apart. -/
import Derived.Test.YtiekjbejgmdkkaaFw27
import Derived.Test.YtiekjbejgmdkkaaIrNum
namespace Go.Proofs.Ytiekjbejgmdkkaa
open Go Fw
set_option linter.unusedSimpArgs false
set_option linter.unusedVariables false

theorem num_alive : FnV TNum 12 [] (.bool true) := FnV_run 60 rfl (by kernel_rfl)
abbrev isU64 (n : Int) : Prop := 0 ≤ n ∧ n < 18446744073709551616
theorem u64_of {n : Int} (h : (Lit.int .u64 n).wf = true) : isU64 n := by
  simp [Lit.wf, IntKind.min, IntKind.max, IntKind.bits, IntKind.signed] at h
  unfold isU64
  omega
def insI (at_ size from_ room : Int) : Bool := decide (from_ ≤ at_) && (decide (at_ - from_ ≤ room) && decide (size ≤ room - (at_ - from_)))
def aprI (at_ size from_ room : Int) : Bool := decide (size = 0) || (decide (room = 0) || (if from_ ≤ at_ then decide (room ≤ at_ - from_) else decide (size ≤ from_ - at_)))
theorem f_num_Sub {T : Tab} (h : T 17 = some F_num_Sub) {a b : Int} (ha : isU64 a) (hb : isU64 b) :
    FnV T 17 [.int .u64 a, .int .u64 b] (if a < b then .tuple #[.int .u64 0, .bool false] else .tuple #[.int .u64 (a - b), .bool true]) := by
  refine FnV_of rfl ?_
  rw [Ev_fn h rfl]
  simp only [isU64] at ha hb
  by_cases hab : a < b
  · simp only [F_num_Sub, fws, cond_true, cond_false, if_true, if_false, unV, isNil, optI, iV, stepI, evalR, reduceIte, reduceCtorEq, Nat.reduceEqDiff, Int.reduceLT, Int.reduceLE, Int.reduceToNat, Nat.reduceLT, Nat.reduceLeDiff, Int.reduceEq, Int.reduceNeg, IntKind.bits, Nat.reduceAdd, Nat.reduceMul, Nat.reducePow, Int.reducePow, ini, F_num_Subr0_W, F_num_Subr1_W, F_num_Subr2_W, F_num_Subr3_W, F_num_Subc_W, hab]
    rfl
  · have w : IntKind.u64.wrap (a - b) = a - b := by rw [wrap_u64]; omega
    simp only [F_num_Sub, fws, cond_true, cond_false, if_true, if_false, unV, isNil, optI, iV, stepI, evalR, reduceIte, reduceCtorEq, Nat.reduceEqDiff, Int.reduceLT, Int.reduceLE, Int.reduceToNat, Nat.reduceLT, Nat.reduceLeDiff, Int.reduceEq, Int.reduceNeg, IntKind.bits, Nat.reduceAdd, Nat.reduceMul, Nat.reducePow, Int.reducePow, ini, F_num_Subr0_W, F_num_Subr1_W, F_num_Subr2_W, F_num_Subr3_W, F_num_Subc_W, hab, w]
    rfl
theorem f_num_Inside {T : Tab} (h0 : T 17 = some F_num_Sub) (h : T 23 = some F_num_Inside) {a s f r : Int} (ha : isU64 a) (hs : isU64 s) (hf : isU64 f) (hr : isU64 r) :
    FnV T 23 [.int .u64 a, .int .u64 s, .int .u64 f, .int .u64 r] (.bool (insI a s f r)) := by
  refine FnV_of rfl ?_
  rw [Ev_fn h rfl]
  have c1 := f_num_Sub h0 ha hf
  simp only [isU64] at ha hs hf hr
  unfold insI
  by_cases hab : a < f
  · have e1 : ¬ f ≤ a := by omega
    rw [if_pos hab] at c1
    simp only [F_num_Inside, fws, cond_true, cond_false, if_true, if_false, unV, isNil, optI, iV, stepI, evalR, reduceIte, reduceCtorEq, Nat.reduceEqDiff, Int.reduceLT, Int.reduceLE, Int.reduceToNat, Nat.reduceLT, Nat.reduceLeDiff, Int.reduceEq, Int.reduceNeg, IntKind.bits, Nat.reduceAdd, Nat.reduceMul, Nat.reducePow, Int.reducePow, ini, fwh, lk, cellsAt, tagOf, spotOf, rdN, spl, fillL, zr, fwi, F_num_Insider0_W, F_num_Insider1_W, F_num_Insider2_W, F_num_Insider2_g1, F_num_Insider2_g6, F_num_Insidec_W, CC_of c1, e1]
    rfl
  · have e1 : f ≤ a := by omega
    rw [if_neg hab] at c1
    by_cases e2 : a - f ≤ r
    · have w : IntKind.u64.wrap (r - (a - f)) = r - (a - f) := by rw [wrap_u64]; omega
      simp only [F_num_Inside, fws, cond_true, cond_false, if_true, if_false, unV, isNil, optI, iV, stepI, evalR, reduceIte, reduceCtorEq, Nat.reduceEqDiff, Int.reduceLT, Int.reduceLE, Int.reduceToNat, Nat.reduceLT, Nat.reduceLeDiff, Int.reduceEq, Int.reduceNeg, IntKind.bits, Nat.reduceAdd, Nat.reduceMul, Nat.reducePow, Int.reducePow, ini, fwh, lk, cellsAt, tagOf, spotOf, rdN, spl, fillL, zr, fwi, F_num_Insider0_W, F_num_Insider1_W, F_num_Insider2_W, F_num_Insider2_g1, F_num_Insider2_g6, F_num_Insidec_W, CC_of c1, e1, e2, w]
      rfl
    · simp only [F_num_Inside, fws, cond_true, cond_false, if_true, if_false, unV, isNil, optI, iV, stepI, evalR, reduceIte, reduceCtorEq, Nat.reduceEqDiff, Int.reduceLT, Int.reduceLE, Int.reduceToNat, Nat.reduceLT, Nat.reduceLeDiff, Int.reduceEq, Int.reduceNeg, IntKind.bits, Nat.reduceAdd, Nat.reduceMul, Nat.reducePow, Int.reducePow, ini, fwh, lk, cellsAt, tagOf, spotOf, rdN, spl, fillL, zr, fwi, F_num_Insider0_W, F_num_Insider1_W, F_num_Insider2_W, F_num_Insider2_g1, F_num_Insider2_g6, F_num_Insidec_W, CC_of c1, e1, e2]
      rfl
theorem f_num_Apart {T : Tab} (h : T 25 = some F_num_Apart) {a s f r : Int} (ha : isU64 a) (hs : isU64 s) (hf : isU64 f) (hr : isU64 r) :
    FnV T 25 [.int .u64 a, .int .u64 s, .int .u64 f, .int .u64 r] (.bool (aprI a s f r)) := by
  refine FnV_of rfl ?_
  rw [Ev_fn h rfl]
  simp only [isU64] at ha hs hf hr
  unfold aprI
  by_cases e1 : s = 0
  · simp only [F_num_Apart, fws, cond_true, cond_false, if_true, if_false, unV, isNil, optI, iV, stepI, evalR, reduceIte, reduceCtorEq, Nat.reduceEqDiff, Int.reduceLT, Int.reduceLE, Int.reduceToNat, Nat.reduceLT, Nat.reduceLeDiff, Int.reduceEq, Int.reduceNeg, IntKind.bits, Nat.reduceAdd, Nat.reduceMul, Nat.reducePow, Int.reducePow, ini, F_num_Apartr0_W, F_num_Apartr1_W, F_num_Apartr1_g2, F_num_Apartr2_W, F_num_Apartr3_W, F_num_Apartr4_W, F_num_Apartr5_W, F_num_Apartc_W, e1]
    rfl
  · by_cases e2 : r = 0
    · simp only [F_num_Apart, fws, cond_true, cond_false, if_true, if_false, unV, isNil, optI, iV, stepI, evalR, reduceIte, reduceCtorEq, Nat.reduceEqDiff, Int.reduceLT, Int.reduceLE, Int.reduceToNat, Nat.reduceLT, Nat.reduceLeDiff, Int.reduceEq, Int.reduceNeg, IntKind.bits, Nat.reduceAdd, Nat.reduceMul, Nat.reducePow, Int.reducePow, ini, F_num_Apartr0_W, F_num_Apartr1_W, F_num_Apartr1_g2, F_num_Apartr2_W, F_num_Apartr3_W, F_num_Apartr4_W, F_num_Apartr5_W, F_num_Apartc_W, e1, e2]
      rfl
    · by_cases e3 : f ≤ a
      · have w : IntKind.u64.wrap (a - f) = a - f := by rw [wrap_u64]; omega
        simp only [F_num_Apart, fws, cond_true, cond_false, if_true, if_false, unV, isNil, optI, iV, stepI, evalR, reduceIte, reduceCtorEq, Nat.reduceEqDiff, Int.reduceLT, Int.reduceLE, Int.reduceToNat, Nat.reduceLT, Nat.reduceLeDiff, Int.reduceEq, Int.reduceNeg, IntKind.bits, Nat.reduceAdd, Nat.reduceMul, Nat.reducePow, Int.reducePow, ini, F_num_Apartr0_W, F_num_Apartr1_W, F_num_Apartr1_g2, F_num_Apartr2_W, F_num_Apartr3_W, F_num_Apartr4_W, F_num_Apartr5_W, F_num_Apartc_W, e1, e2, e3, w]
        rfl
      · have w : IntKind.u64.wrap (f - a) = f - a := by rw [wrap_u64]; omega
        simp only [F_num_Apart, fws, cond_true, cond_false, if_true, if_false, unV, isNil, optI, iV, stepI, evalR, reduceIte, reduceCtorEq, Nat.reduceEqDiff, Int.reduceLT, Int.reduceLE, Int.reduceToNat, Nat.reduceLT, Nat.reduceLeDiff, Int.reduceEq, Int.reduceNeg, IntKind.bits, Nat.reduceAdd, Nat.reduceMul, Nat.reducePow, Int.reducePow, ini, F_num_Apartr0_W, F_num_Apartr1_W, F_num_Apartr1_g2, F_num_Apartr2_W, F_num_Apartr3_W, F_num_Apartr4_W, F_num_Apartr5_W, F_num_Apartc_W, e1, e2, e3, w]
        rfl
abbrev wideV (n : Int) : Value := .agg #[.int .u64 (n / 18446744073709551616), .int .u64 (n % 18446744073709551616)]
theorem f_ref01_Sum {T : Tab} (h : T 35 = some F_ref01_Sum) {a b : Int} (ha : isU64 a) (hb : isU64 b) : FnV T 35 [.int .u64 a, .int .u64 b] (wideV (a + b)) := by
  refine FnV_of rfl ?_
  rw [Ev_fn h rfl]
  simp only [isU64] at ha hb
  have w : IntKind.u64.wrap (a + b) = (a + b) % 18446744073709551616 := wrap_u64 _
  by_cases e : (a + b) % 18446744073709551616 < a
  · have e1 : (a + b) / 18446744073709551616 = 1 := by omega
    simp only [F_ref01_Sum, fws, cond_true, cond_false, if_true, if_false, unV, isNil, optI, iV, stepI, evalR, reduceIte, reduceCtorEq, Nat.reduceEqDiff, Int.reduceLT, Int.reduceLE, Int.reduceToNat, Nat.reduceLT, Nat.reduceLeDiff, Int.reduceEq, Int.reduceNeg, IntKind.bits, Nat.reduceAdd, Nat.reduceMul, Nat.reducePow, Int.reducePow, ini, fwh, lk, cellsAt, tagOf, spotOf, rdN, spl, fillL, zr, fwi, F_ref01_Sumr0_W, F_ref01_Sumr1_W, F_ref01_Sumr2_W, F_ref01_Sumr3_W, F_ref01_Sumr4_W, F_ref01_Sumc_W, w, e, wideV, e1]
    rfl
  · have e1 : (a + b) / 18446744073709551616 = 0 := by omega
    simp only [F_ref01_Sum, fws, cond_true, cond_false, if_true, if_false, unV, isNil, optI, iV, stepI, evalR, reduceIte, reduceCtorEq, Nat.reduceEqDiff, Int.reduceLT, Int.reduceLE, Int.reduceToNat, Nat.reduceLT, Nat.reduceLeDiff, Int.reduceEq, Int.reduceNeg, IntKind.bits, Nat.reduceAdd, Nat.reduceMul, Nat.reducePow, Int.reducePow, ini, fwh, lk, cellsAt, tagOf, spotOf, rdN, spl, fillL, zr, fwi, F_ref01_Sumr0_W, F_ref01_Sumr1_W, F_ref01_Sumr2_W, F_ref01_Sumr3_W, F_ref01_Sumr4_W, F_ref01_Sumc_W, w, e, wideV, e1]
    rfl
theorem f_ref01_Less {T : Tab} (h : T 36 = some F_ref01_Less) (m n : Int) : FnV T 36 [wideV m, wideV n] (.bool (decide (m < n))) := by
  refine FnV_of (by simp [pure_agg, pure_tup, pure_int, pure_bool, pure_string, pure_slN, pure_ptrN, pure_mapN, pure_imm, pure_immN, bltN, byteE_d, intE_d, boolE_d, strE_d]) ?_
  rw [Ev_fn h rfl]
  by_cases e1 : m / 18446744073709551616 < n / 18446744073709551616
  · have e2 : m < n := by omega
    simp only [F_ref01_Less, fws, cond_true, cond_false, if_true, if_false, unV, isNil, optI, iV, stepI, evalR, reduceIte, reduceCtorEq, Nat.reduceEqDiff, Int.reduceLT, Int.reduceLE, Int.reduceToNat, Nat.reduceLT, Nat.reduceLeDiff, Int.reduceEq, Int.reduceNeg, IntKind.bits, Nat.reduceAdd, Nat.reduceMul, Nat.reducePow, Int.reducePow, ini, fwh, lk, cellsAt, tagOf, spotOf, rdN, spl, fillL, zr, fwi, F_ref01_Lessr0_W, F_ref01_Lessr1_W, F_ref01_Lessr1_g5, F_ref01_Lessr1_g11, F_ref01_Lessc_W, e1, e2]
    rfl
  · by_cases e2 : m / 18446744073709551616 = n / 18446744073709551616
    · have e4 : (m < n) = (m % 18446744073709551616 < n % 18446744073709551616) := by rw [eq_iff_iff]; omega
      have e3 : ¬ (n / 18446744073709551616 < n / 18446744073709551616) := by omega
      simp only [F_ref01_Less, fws, cond_true, cond_false, if_true, if_false, unV, isNil, optI, iV, stepI, evalR, reduceIte, reduceCtorEq, Nat.reduceEqDiff, Int.reduceLT, Int.reduceLE, Int.reduceToNat, Nat.reduceLT, Nat.reduceLeDiff, Int.reduceEq, Int.reduceNeg, IntKind.bits, Nat.reduceAdd, Nat.reduceMul, Nat.reducePow, Int.reducePow, ini, fwh, lk, cellsAt, tagOf, spotOf, rdN, spl, fillL, zr, fwi, F_ref01_Lessr0_W, F_ref01_Lessr1_W, F_ref01_Lessr1_g5, F_ref01_Lessr1_g11, F_ref01_Lessc_W, e2, e3, e4]
      rfl
    · have e3 : ¬ m < n := by omega
      simp only [F_ref01_Less, fws, cond_true, cond_false, if_true, if_false, unV, isNil, optI, iV, stepI, evalR, reduceIte, reduceCtorEq, Nat.reduceEqDiff, Int.reduceLT, Int.reduceLE, Int.reduceToNat, Nat.reduceLT, Nat.reduceLeDiff, Int.reduceEq, Int.reduceNeg, IntKind.bits, Nat.reduceAdd, Nat.reduceMul, Nat.reducePow, Int.reducePow, ini, fwh, lk, cellsAt, tagOf, spotOf, rdN, spl, fillL, zr, fwi, F_ref01_Lessr0_W, F_ref01_Lessr1_W, F_ref01_Lessr1_g5, F_ref01_Lessr1_g11, F_ref01_Lessc_W, e1, e2, e3]
      rfl
theorem f_ref01_LessS {T : Tab} (h : T 36 = some F_ref01_Less) {m : Int} (hm : isU64 m) (n : Int) : FnV T 36 [.agg #[.int .u64 0, .int .u64 m], wideV n] (.bool (decide (m < n))) := by
  have := f_ref01_Less h m n
  simp only [isU64] at hm
  have e1 : m / 18446744073709551616 = 0 := by omega
  have e2 : m % 18446744073709551616 = m := by omega
  simp only [wideV, e1, e2] at this
  exact this
theorem f_ref01_Inside {T : Tab} (h0 : T 35 = some F_ref01_Sum) (h1 : T 36 = some F_ref01_Less) (h : T 24 = some F_ref01_Inside) {a s f r : Int} (ha : isU64 a) (hs : isU64 s) (hf : isU64 f) (hr : isU64 r) :
    FnV T 24 [.int .u64 a, .int .u64 s, .int .u64 f, .int .u64 r] (.bool (insI a s f r)) := by
  refine FnV_of rfl ?_
  rw [Ev_fn h rfl]
  have c1 := f_ref01_Sum h0 hf hr
  have c2 := f_ref01_Sum h0 ha hs
  have c3 := f_ref01_Less h1 (f + r) (a + s)
  simp only [isU64] at ha hs hf hr
  have key : insI a s f r = (decide (f ≤ a) && !decide (f + r < a + s)) := by
    unfold insI
    rw [Bool.eq_iff_iff]
    simp only [Bool.and_eq_true, decide_eq_true_eq, Bool.not_eq_true', decide_eq_false_iff_not]
    omega
  rw [key]
  by_cases e1 : f ≤ a
  · simp only [F_ref01_Inside, fws, cond_true, cond_false, if_true, if_false, unV, isNil, optI, iV, stepI, evalR, reduceIte, reduceCtorEq, Nat.reduceEqDiff, Int.reduceLT, Int.reduceLE, Int.reduceToNat, Nat.reduceLT, Nat.reduceLeDiff, Int.reduceEq, Int.reduceNeg, IntKind.bits, Nat.reduceAdd, Nat.reduceMul, Nat.reducePow, Int.reducePow, ini, fwh, lk, cellsAt, tagOf, spotOf, rdN, spl, fillL, zr, fwi, F_ref01_Insider0_W, F_ref01_Insider1_W, F_ref01_Insider1_g3, F_ref01_Insidec_W, CC_of c1, CC_of c2, CC_of c3, e1]
    rfl
  · simp only [F_ref01_Inside, fws, cond_true, cond_false, if_true, if_false, unV, isNil, optI, iV, stepI, evalR, reduceIte, reduceCtorEq, Nat.reduceEqDiff, Int.reduceLT, Int.reduceLE, Int.reduceToNat, Nat.reduceLT, Nat.reduceLeDiff, Int.reduceEq, Int.reduceNeg, IntKind.bits, Nat.reduceAdd, Nat.reduceMul, Nat.reducePow, Int.reducePow, ini, fwh, lk, cellsAt, tagOf, spotOf, rdN, spl, fillL, zr, fwi, F_ref01_Insider0_W, F_ref01_Insider1_W, F_ref01_Insider1_g3, F_ref01_Insidec_W, e1]
    rfl
theorem f_ref01_Apart {T : Tab} (h0 : T 35 = some F_ref01_Sum) (h1 : T 36 = some F_ref01_Less) (h : T 26 = some F_ref01_Apart) {a s f r : Int} (ha : isU64 a) (hs : isU64 s) (hf : isU64 f) (hr : isU64 r) :
    FnV T 26 [.int .u64 a, .int .u64 s, .int .u64 f, .int .u64 r] (.bool (aprI a s f r)) := by
  refine FnV_of rfl ?_
  rw [Ev_fn h rfl]
  have c1 := f_ref01_Sum h0 hf hr
  have c2 := f_ref01_Sum h0 ha hs
  have c3 := f_ref01_LessS h1 ha (f + r)
  have c4 := f_ref01_LessS h1 hf (a + s)
  simp only [isU64] at ha hs hf hr
  by_cases e1 : s = 0
  · have key : aprI a s f r = true := by simp [aprI, e1]
    rw [key]
    simp only [F_ref01_Apart, fws, cond_true, cond_false, if_true, if_false, unV, isNil, optI, iV, stepI, evalR, reduceIte, reduceCtorEq, Nat.reduceEqDiff, Int.reduceLT, Int.reduceLE, Int.reduceToNat, Nat.reduceLT, Nat.reduceLeDiff, Int.reduceEq, Int.reduceNeg, IntKind.bits, Nat.reduceAdd, Nat.reduceMul, Nat.reducePow, Int.reducePow, ini, fwh, lk, cellsAt, tagOf, spotOf, rdN, spl, fillL, zr, fwi, F_ref01_Apartr0_W, F_ref01_Apartr1_W, F_ref01_Apartr1_g2, F_ref01_Apartr1_g6, F_ref01_Apartr1_g15, F_ref01_Apartc_W, e1]
    rfl
  · by_cases e2 : r = 0
    · have key : aprI a s f r = true := by simp [aprI, e2]
      rw [key]
      simp only [F_ref01_Apart, fws, cond_true, cond_false, if_true, if_false, unV, isNil, optI, iV, stepI, evalR, reduceIte, reduceCtorEq, Nat.reduceEqDiff, Int.reduceLT, Int.reduceLE, Int.reduceToNat, Nat.reduceLT, Nat.reduceLeDiff, Int.reduceEq, Int.reduceNeg, IntKind.bits, Nat.reduceAdd, Nat.reduceMul, Nat.reducePow, Int.reducePow, ini, fwh, lk, cellsAt, tagOf, spotOf, rdN, spl, fillL, zr, fwi, F_ref01_Apartr0_W, F_ref01_Apartr1_W, F_ref01_Apartr1_g2, F_ref01_Apartr1_g6, F_ref01_Apartr1_g15, F_ref01_Apartc_W, e1, e2]
      rfl
    · by_cases e3 : a < f + r
      · have key : aprI a s f r = !decide (f < a + s) := by
          unfold aprI
          rw [Bool.eq_iff_iff]
          simp only [e1, e2, decide_false, Bool.false_or, Bool.not_eq_true', decide_eq_false_iff_not]
          split <;> simp only [decide_eq_true_eq] <;> omega
        rw [key]
        simp only [F_ref01_Apart, fws, cond_true, cond_false, if_true, if_false, unV, isNil, optI, iV, stepI, evalR, reduceIte, reduceCtorEq, Nat.reduceEqDiff, Int.reduceLT, Int.reduceLE, Int.reduceToNat, Nat.reduceLT, Nat.reduceLeDiff, Int.reduceEq, Int.reduceNeg, IntKind.bits, Nat.reduceAdd, Nat.reduceMul, Nat.reducePow, Int.reducePow, ini, fwh, lk, cellsAt, tagOf, spotOf, rdN, spl, fillL, zr, fwi, F_ref01_Apartr0_W, F_ref01_Apartr1_W, F_ref01_Apartr1_g2, F_ref01_Apartr1_g6, F_ref01_Apartr1_g15, F_ref01_Apartc_W, e1, e2, CC_of c1, CC_of c3, e3, CC_of c2, CC_of c4]
        rfl
      · have key : aprI a s f r = true := by
          unfold aprI
          rw [if_pos (by omega)]
          simp only [e1, e2, decide_false, Bool.false_or, decide_eq_true_eq]
          omega
        rw [key]
        simp only [F_ref01_Apart, fws, cond_true, cond_false, if_true, if_false, unV, isNil, optI, iV, stepI, evalR, reduceIte, reduceCtorEq, Nat.reduceEqDiff, Int.reduceLT, Int.reduceLE, Int.reduceToNat, Nat.reduceLT, Nat.reduceLeDiff, Int.reduceEq, Int.reduceNeg, IntKind.bits, Nat.reduceAdd, Nat.reduceMul, Nat.reducePow, Int.reducePow, ini, fwh, lk, cellsAt, tagOf, spotOf, rdN, spl, fillL, zr, fwi, F_ref01_Apartr0_W, F_ref01_Apartr1_W, F_ref01_Apartr1_g2, F_ref01_Apartr1_g6, F_ref01_Apartr1_g15, F_ref01_Apartc_W, e1, e2, CC_of c1, CC_of c3, e3]
        rfl
theorem law_NumInside {a s f r : Int} (ha : isU64 a) (hs : isU64 s) (hf : isU64 f) (hr : isU64 r) : Ev TNum 7 [.agg #[.int .u64 a, .int .u64 s, .int .u64 f, .int .u64 r]] [] fun v _ => v = .bool true := by
  rw [Ev_fn rfl rfl]
  have c1 := f_num_Inside (T := TNum) rfl rfl ha hs hf hr
  have c2 := f_num_Apart (T := TNum) rfl ha hs hf hr
  have c3 := f_num_Apart (T := TNum) rfl hf hr ha hs
  have c4 := f_ref01_Inside (T := TNum) rfl rfl rfl ha hs hf hr
  have c5 := f_ref01_Apart (T := TNum) rfl rfl rfl ha hs hf hr
  have key : aprI f r a s = aprI a s f r := by
    simp only [isU64] at ha hs hf hr
    unfold aprI
    rw [Bool.eq_iff_iff]
    by_cases e1 : s = 0 <;> by_cases e2 : r = 0 <;> simp [e1, e2]
    split <;> split <;> (try simp only [decide_eq_true_eq]) <;> omega
  rw [key] at c3
  simp only [F_law01_NumInside, fws, cond_true, cond_false, if_true, if_false, unV, isNil, optI, iV, stepI, evalR, reduceIte, reduceCtorEq, Nat.reduceEqDiff, Int.reduceLT, Int.reduceLE, Int.reduceToNat, Nat.reduceLT, Nat.reduceLeDiff, Int.reduceEq, Int.reduceNeg, IntKind.bits, Nat.reduceAdd, Nat.reduceMul, Nat.reducePow, Int.reducePow, ini, fwh, lk, cellsAt, tagOf, spotOf, rdN, spl, fillL, zr, fwi, F_law01_NumInsider0_W, F_law01_NumInsider1_g19, F_law01_NumInsider1_g40, F_law01_NumInsider1_g61, F_law01_NumInsider1_W, F_law01_NumInsidec_W, CC_of c1, CC_of c2, CC_of c3, CC_of c4, CC_of c5, CC_of num_alive]
set_option maxRecDepth 100000 in
set_option maxHeartbeats 1000000 in
theorem law_NumMoves {a s f r by_ : Int} (ha : isU64 a) (hs : isU64 s) (hf : isU64 f) (hr : isU64 r) (hb : isU64 by_) : Ev TNum 8 [.agg #[.int .u64 a, .int .u64 s, .int .u64 f, .int .u64 r], .int .u64 by_] [] fun v _ => v = .bool true := by
  rw [Ev_fn rfl rfl]
  have w1 : IntKind.u64.wrap (18446744073709551615 - a) = 18446744073709551615 - a := by simp only [isU64] at ha; rw [wrap_u64]; omega
  have w2 : IntKind.u64.wrap (18446744073709551615 - f) = 18446744073709551615 - f := by simp only [isU64] at hf; rw [wrap_u64]; omega
  by_cases q1 : 18446744073709551615 - a < by_
  · simp only [F_law01_NumMoves, fws, cond_true, cond_false, if_true, if_false, unV, isNil, optI, iV, stepI, evalR, reduceIte, reduceCtorEq, Nat.reduceEqDiff, Int.reduceLT, Int.reduceLE, Int.reduceToNat, Nat.reduceLT, Nat.reduceLeDiff, Int.reduceEq, Int.reduceNeg, IntKind.bits, Nat.reduceAdd, Nat.reduceMul, Nat.reducePow, Int.reducePow, ini, fwh, lk, cellsAt, tagOf, spotOf, rdN, spl, fillL, zr, fwi, F_law01_NumMovesr0_W, F_law01_NumMovesr1_W, F_law01_NumMovesr1_g5, F_law01_NumMovesr2_W, F_law01_NumMovesr3_g23, F_law01_NumMovesr3_g48, F_law01_NumMovesr3_g52, F_law01_NumMovesr3_g64, F_law01_NumMovesr3_g77, F_law01_NumMovesr3_W, F_law01_NumMovesc_W, w1, q1, CC_of num_alive]
  · by_cases q2 : 18446744073709551615 - f < by_
    · simp only [F_law01_NumMoves, fws, cond_true, cond_false, if_true, if_false, unV, isNil, optI, iV, stepI, evalR, reduceIte, reduceCtorEq, Nat.reduceEqDiff, Int.reduceLT, Int.reduceLE, Int.reduceToNat, Nat.reduceLT, Nat.reduceLeDiff, Int.reduceEq, Int.reduceNeg, IntKind.bits, Nat.reduceAdd, Nat.reduceMul, Nat.reducePow, Int.reducePow, ini, fwh, lk, cellsAt, tagOf, spotOf, rdN, spl, fillL, zr, fwi, F_law01_NumMovesr0_W, F_law01_NumMovesr1_W, F_law01_NumMovesr1_g5, F_law01_NumMovesr2_W, F_law01_NumMovesr3_g23, F_law01_NumMovesr3_g48, F_law01_NumMovesr3_g52, F_law01_NumMovesr3_g64, F_law01_NumMovesr3_g77, F_law01_NumMovesr3_W, F_law01_NumMovesc_W, w1, w2, q1, q2, CC_of num_alive]
    · have w3 : IntKind.u64.wrap (a + by_) = a + by_ := by simp only [isU64] at ha hb; rw [wrap_u64]; omega
      have w4 : IntKind.u64.wrap (f + by_) = f + by_ := by simp only [isU64] at hf hb; rw [wrap_u64]; omega
      have ha' : isU64 (a + by_) := by simp only [isU64] at ha hb ⊢; omega
      have hf' : isU64 (f + by_) := by simp only [isU64] at hf hb ⊢; omega
      have c1 := f_num_Inside (T := TNum) rfl rfl ha hs hf hr
      have c2 := f_num_Apart (T := TNum) rfl ha hs hf hr
      have c3 := f_num_Inside (T := TNum) rfl rfl ha' hs hf' hr
      have c4 := f_num_Apart (T := TNum) rfl ha' hs hf' hr
      have k1 : insI (a + by_) s (f + by_) r = insI a s f r := by
        unfold insI
        have e1 : (f + by_ ≤ a + by_) = (f ≤ a) := by rw [eq_iff_iff]; omega
        have e2 : a + by_ - (f + by_) = a - f := by omega
        simp only [e1, e2]
      have k2 : aprI (a + by_) s (f + by_) r = aprI a s f r := by
        unfold aprI
        have e1 : (f + by_ ≤ a + by_) = (f ≤ a) := by rw [eq_iff_iff]; omega
        have e2 : a + by_ - (f + by_) = a - f := by omega
        have e3 : f + by_ - (a + by_) = f - a := by omega
        simp only [e1, e2, e3]
      have k3 : s ≠ 0 → insI a s f r = true → aprI a s f r = false := fun h0 h1 => by
        simp only [isU64] at hs hr
        unfold insI at h1
        simp only [Bool.and_eq_true, decide_eq_true_eq] at h1
        unfold aprI
        rw [if_pos h1.1]
        simp only [Bool.or_eq_false_iff, decide_eq_false_iff_not]
        omega
      rw [k1] at c3
      rw [k2] at c4
      by_cases e0 : s = 0
      · subst e0
        simp only [F_law01_NumMoves, fws, cond_true, cond_false, if_true, if_false, unV, isNil, optI, iV, stepI, evalR, reduceIte, reduceCtorEq, Nat.reduceEqDiff, Int.reduceLT, Int.reduceLE, Int.reduceToNat, Nat.reduceLT, Nat.reduceLeDiff, Int.reduceEq, Int.reduceNeg, IntKind.bits, Nat.reduceAdd, Nat.reduceMul, Nat.reducePow, Int.reducePow, ini, fwh, lk, cellsAt, tagOf, spotOf, rdN, spl, fillL, zr, fwi, F_law01_NumMovesr0_W, F_law01_NumMovesr1_W, F_law01_NumMovesr1_g5, F_law01_NumMovesr2_W, F_law01_NumMovesr3_g23, F_law01_NumMovesr3_g48, F_law01_NumMovesr3_g52, F_law01_NumMovesr3_g64, F_law01_NumMovesr3_g77, F_law01_NumMovesr3_W, F_law01_NumMovesc_W, w1, w2, w3, w4, q1, q2, CC_of c1, CC_of c2, CC_of c3, CC_of c4, CC_of num_alive]
      · cases hi : insI a s f r with
        | false =>
          rw [hi] at c1 c3
          simp only [F_law01_NumMoves, fws, cond_true, cond_false, if_true, if_false, unV, isNil, optI, iV, stepI, evalR, reduceIte, reduceCtorEq, Nat.reduceEqDiff, Int.reduceLT, Int.reduceLE, Int.reduceToNat, Nat.reduceLT, Nat.reduceLeDiff, Int.reduceEq, Int.reduceNeg, IntKind.bits, Nat.reduceAdd, Nat.reduceMul, Nat.reducePow, Int.reducePow, ini, fwh, lk, cellsAt, tagOf, spotOf, rdN, spl, fillL, zr, fwi, F_law01_NumMovesr0_W, F_law01_NumMovesr1_W, F_law01_NumMovesr1_g5, F_law01_NumMovesr2_W, F_law01_NumMovesr3_g23, F_law01_NumMovesr3_g48, F_law01_NumMovesr3_g52, F_law01_NumMovesr3_g64, F_law01_NumMovesr3_g77, F_law01_NumMovesr3_W, F_law01_NumMovesc_W, w1, w2, w3, w4, q1, q2, CC_of c1, CC_of c2, CC_of c3, CC_of c4, e0, CC_of num_alive]
        | true =>
          rw [hi] at c1 c3
          rw [k3 e0 hi] at c2 c4
          simp only [F_law01_NumMoves, fws, cond_true, cond_false, if_true, if_false, unV, isNil, optI, iV, stepI, evalR, reduceIte, reduceCtorEq, Nat.reduceEqDiff, Int.reduceLT, Int.reduceLE, Int.reduceToNat, Nat.reduceLT, Nat.reduceLeDiff, Int.reduceEq, Int.reduceNeg, IntKind.bits, Nat.reduceAdd, Nat.reduceMul, Nat.reducePow, Int.reducePow, ini, fwh, lk, cellsAt, tagOf, spotOf, rdN, spl, fillL, zr, fwi, F_law01_NumMovesr0_W, F_law01_NumMovesr1_W, F_law01_NumMovesr1_g5, F_law01_NumMovesr2_W, F_law01_NumMovesr3_g23, F_law01_NumMovesr3_g48, F_law01_NumMovesr3_g52, F_law01_NumMovesr3_g64, F_law01_NumMovesr3_g77, F_law01_NumMovesr3_W, F_law01_NumMovesc_W, w1, w2, w3, w4, q1, q2, CC_of c1, CC_of c2, CC_of c3, CC_of c4, e0, CC_of num_alive]
end Go.Proofs.Ytiekjbejgmdkkaa
