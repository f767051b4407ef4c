/- What a reader tells of itself; the document's numbers, bit by bit. -/
import Derived.Test.YtdkdifjjpbfohaaLebD
namespace Go.Proofs.Ytdkdifjjpbfohaa
open Go Fw
set_option linter.unusedSimpArgs false
set_option linter.unusedVariables false

theorem ev_leb_Fail {T : Tab} (h : T 22 = some F_leb_Reader_Fail) (H : Heap) (k : Nat) (hk : k < H.length) (l : List UInt8) (at_ : Nat) (fail : Int) :
    Ev T 22 [.pointer (some ⟨k, 0, none⟩)] (H.set k (ro l at_ fail)) fun v h' => v = .int .i64 fail ∧ h' = H.set k (ro l at_ fail) := by
  rw [Ev_fn h rfl]
  simp only [F_leb_Reader_Fail, fws, cond_true, cond_false, if_true, if_false, unV, isNil, optI, iV, stepI, evalR, reduceIte, reduceCtorEq, Nat.reduceEqDiff, Int.reduceLT, Int.reduceLE, Int.reduceToNat, Nat.reduceLT, Nat.reduceLeDiff, Int.reduceEq, Int.reduceNeg, IntKind.bits, Nat.reduceAdd, Nat.reduceMul, Nat.reducePow, Int.reducePow, ini, fwh, lk, cellsAt, tagOf, spotOf, rdN, spl, fillL, zr, fwi, F_leb_Reader_Failr0_W, F_leb_Reader_Failr1_W, F_leb_Reader_Failc_W, F_leb_Reader_Failr0_W, F_leb_Reader_Failr1_W, F_leb_Reader_Failc_W, set_get hk, ro, and_self]
theorem ev_leb_Left {T : Tab} (h : T 23 = some F_leb_Reader_Left) (H : Heap) (k : Nat) (hk : k < H.length) (l : List UInt8) (hl : l.length < 9223372036854775000) {at_ : Nat} (ha : at_ ≤ l.length) (fail : Int) :
    Ev T 23 [.pointer (some ⟨k, 0, none⟩)] (H.set k (ro l at_ fail)) fun v h' => v = .int .i64 (if fail ≠ 0 then 0 else (l.length - at_ : Nat)) ∧ h' = H.set k (ro l at_ fail) := by
  rw [Ev_fn h rfl]
  by_cases hf : fail = 0
  · have w1 : IntKind.i64.wrap ((l.length : Int) - at_) = ((l.length - at_ : Nat) : Int) := by rw [wrapI64 (by omega) (by omega)]; omega
    simp only [F_leb_Reader_Left, fws, cond_true, cond_false, if_true, if_false, unV, isNil, optI, iV, stepI, evalR, reduceIte, reduceCtorEq, Nat.reduceEqDiff, Int.reduceLT, Int.reduceLE, Int.reduceToNat, Nat.reduceLT, Nat.reduceLeDiff, Int.reduceEq, Int.reduceNeg, IntKind.bits, Nat.reduceAdd, Nat.reduceMul, Nat.reducePow, Int.reducePow, ini, fwh, lk, cellsAt, tagOf, spotOf, rdN, spl, fillL, zr, fwi, F_leb_Reader_Leftr0_W, F_leb_Reader_Leftr1_W, F_leb_Reader_Leftr2_W, F_leb_Reader_Leftr3_W, F_leb_Reader_Leftc_W, F_leb_Reader_Leftr0_W, F_leb_Reader_Leftr1_W, F_leb_Reader_Leftr2_W, F_leb_Reader_Leftr3_W, F_leb_Reader_Leftc_W, set_get hk, ro, hf, lenI_immN, w1, ne_eq, not_true_eq_false, and_self]
  · simp only [F_leb_Reader_Left, fws, cond_true, cond_false, if_true, if_false, unV, isNil, optI, iV, stepI, evalR, reduceIte, reduceCtorEq, Nat.reduceEqDiff, Int.reduceLT, Int.reduceLE, Int.reduceToNat, Nat.reduceLT, Nat.reduceLeDiff, Int.reduceEq, Int.reduceNeg, IntKind.bits, Nat.reduceAdd, Nat.reduceMul, Nat.reducePow, Int.reducePow, ini, fwh, lk, cellsAt, tagOf, spotOf, rdN, spl, fillL, zr, fwi, F_leb_Reader_Leftr0_W, F_leb_Reader_Leftr1_W, F_leb_Reader_Leftr2_W, F_leb_Reader_Leftr3_W, F_leb_Reader_Leftc_W, F_leb_Reader_Leftr0_W, F_leb_Reader_Leftr1_W, F_leb_Reader_Leftr2_W, F_leb_Reader_Leftr3_W, F_leb_Reader_Leftc_W, set_get hk, ro, hf, ne_eq, not_false_eq_true, and_self]
/-- A reader is made: of a list in whatever form. -/
theorem ev_leb_Read {T : Tab} (h : T 17 = some F_leb_Read) (H : Heap) (l : List UInt8) (hl : l.length ≤ 140737488355328) (y : Value) (hy : srcOf H 1 y = some (byteE.cs l, l.length)) :
    Ev T 17 [y] H fun v h' => v = .pointer (some ⟨H.length, 0, none⟩) ∧ h' = H ++ [ro l 0 0] := by
  rw [Ev_fn h rfl]
  have hc := cpyI_N (E := byteE) (n := 1) (eb := 1) rfl (by omega) hy
  simp only [F_leb_Read, fws, cond_true, cond_false, if_true, if_false, unV, isNil, optI, iV, stepI, evalR, reduceIte, reduceCtorEq, Nat.reduceEqDiff, Int.reduceLT, Int.reduceLE, Int.reduceToNat, Nat.reduceLT, Nat.reduceLeDiff, Int.reduceEq, Int.reduceNeg, IntKind.bits, Nat.reduceAdd, Nat.reduceMul, Nat.reducePow, Int.reducePow, ini, fwh, lk, cellsAt, tagOf, spotOf, rdN, spl, fillL, zr, fwi, F_leb_Readr0_W, F_leb_Readr1_W, F_leb_Readc_W, F_leb_Readr0_W, F_leb_Readr1_W, F_leb_Readc_W, ro, hc, and_self]

/-! The document's -/
def bits7 (c : UInt8) : List Bool := (List.range 7).map fun k => c.toNat.testBit k
def bitsL (g : List UInt8) : List Bool := g.flatMap bits7
def numB (l : List Bool) : Nat := l.foldr (fun b n => 2 * n + b.toNat) 0

theorem bit_test (c : UInt8) {k : Nat} (_ : k < 7) : (Go.bits .and .u8 ((c.toNat : Int).fdiv (2 ^ k)) 1 = 1) ↔ c.toNat.testBit k = true := by
  have h1 : (c.toNat : Int).fdiv (2 ^ k) = ((c.toNat / 2 ^ k : Nat) : Int) := by
    rw [Int.fdiv_eq_ediv_of_nonneg _ (Int.pow_nonneg (by decide)), Int.natCast_ediv, Int.natCast_pow]
    rfl
  have h2 : c.toNat / 2 ^ k < 256 := Nat.lt_of_le_of_lt (Nat.div_le_self _ _) c.toNat_lt
  have key : ((List.range 256).all fun m => decide (Go.bits .and .u8 (m : Int) 1 = ((m % 2 : Nat) : Int))) = true := by kernel_rfl
  have h3 := of_decide_eq_true (List.all_eq_true.1 key (c.toNat / 2 ^ k) (by simpa using h2))
  rw [h1, h3, Nat.testBit_eq_decide_div_mod_eq, decide_eq_true_eq]
  omega

theorem loop_ref03_bits_in {T : Tab} (g : List UInt8) (i : Nat) (hi : i < g.length) (sg : Bool) : ∀ (m k : Nat) (out : List Bool) (v : Value) (H : Heap) (env : Env), k + m = 7 → out.length + m ≤ 100000 → env 0 = imm byteE g → env 1 = .bool sg → env 6 = .int .i64 i → env 7 = .int .i64 k → env 5 = v → Acc boolE [] v H out →
    W T (.loop F_ref03_bitsl1) env H fun x e h => x = .exit 2 ∧ e 0 = imm byteE g ∧ e 1 = .bool sg ∧ e 6 = .int .i64 i ∧ Acc boolE [] (e 5) h (out ++ (bits7 g[i]).drop k) := by
  intro m
  induction m with
  | zero =>
    intro k out v H env hk ho v0 v1 v6 v7 v5 ha
    have hk7 : ¬ ((k : Int) < 7) := by omega
    rw [w_loop]
    simp only [fws, cond_true, cond_false, if_true, if_false, unV, isNil, optI, iV, stepI, evalR, reduceIte, reduceCtorEq, Nat.reduceEqDiff, Int.reduceLT, Int.reduceLE, Int.reduceToNat, Nat.reduceLT, Nat.reduceLeDiff, Int.reduceEq, Int.reduceNeg, IntKind.bits, Nat.reduceAdd, Nat.reduceMul, Nat.reducePow, Int.reducePow, ini, F_ref03_bitsr0_W, F_ref03_bitsr1_W, F_ref03_bitsr2_W, F_ref03_bitsr3_W, F_ref03_bitsr5_W, F_ref03_bitsr6_W, F_ref03_bitsr8_W, F_ref03_bitsr7_W, F_ref03_bitsl1_W, F_ref03_bitsr4_W, F_ref03_bitsl0_W, F_ref03_bitsr9_W, F_ref03_bitsr9_g1, F_ref03_bitsr9_g6, F_ref03_bitsr10_W, F_ref03_bitsr11_W, F_ref03_bitsl2_W, F_ref03_bitsr12_W, F_ref03_bitsc_W, F_ref03_bitsr0_W, F_ref03_bitsr1_W, F_ref03_bitsr2_W, F_ref03_bitsr3_W, F_ref03_bitsr5_W, F_ref03_bitsr6_W, F_ref03_bitsr8_W, F_ref03_bitsr7_W, F_ref03_bitsl1_W, F_ref03_bitsr4_W, F_ref03_bitsl0_W, F_ref03_bitsr9_W, F_ref03_bitsr9_g1, F_ref03_bitsr9_g6, F_ref03_bitsr10_W, F_ref03_bitsr11_W, F_ref03_bitsl2_W, F_ref03_bitsr12_W, F_ref03_bitsc_W, v0, v1, v6, v7, v5, hk7]
    refine ⟨trivial, trivial, trivial, trivial, ?_⟩
    have : (bits7 g[i]).drop k = [] := List.drop_eq_nil_of_le (by simp [bits7]; omega)
    rw [this, List.append_nil]
    exact ha
  | succ m ih =>
    intro k out v H env hk ho v0 v1 v6 v7 v5 ha
    have hk7 : ((k : Int) < 7) := by omega
    have hkn : k < 7 := by omega
    have w1 : IntKind.u64.wrap (k : Int) = k := by rw [wrap_u64]; omega
    have w2 : ¬ ((k : Int) < 0) := by omega
    have w3 : ¬ (8 < k) := by omega
    have w3' : ¬ (8 ≤ k) := by omega
    have w4 : min k 8 = k := by omega
    have w5 : IntKind.i64.wrap ((k : Int) + 1) = ((k + 1 : Nat) : Int) := by rw [wrapI64 (by omega) (by omega)]; rfl
    have hx := ix_at (E := byteE) (n := 1) rfl hi
    have hb : decide (Go.bits .and .u8 ((g[i].toNat : Int).fdiv (2 ^ k)) 1 = 1) = g[i].toNat.testBit k := by
      rw [Bool.eq_iff_iff, decide_eq_true_eq]
      exact bit_test g[i] hkn
    obtain ⟨v', H', a1, a2⟩ := ha.app1 (n := 1) (eb := 1) rfl (g[i].toNat.testBit k) (cs := [.bool (g[i].toNat.testBit k)]) rfl (by omega)
    rw [w_loop]
    simp only [fws, cond_true, cond_false, if_true, if_false, unV, isNil, optI, iV, stepI, evalR, reduceIte, reduceCtorEq, Nat.reduceEqDiff, Int.reduceLT, Int.reduceLE, Int.reduceToNat, Nat.reduceLT, Nat.reduceLeDiff, Int.reduceEq, Int.reduceNeg, IntKind.bits, Nat.reduceAdd, Nat.reduceMul, Nat.reducePow, Int.reducePow, ini, fwh, lk, cellsAt, tagOf, spotOf, rdN, spl, fillL, zr, fwi, F_ref03_bitsr0_W, F_ref03_bitsr1_W, F_ref03_bitsr2_W, F_ref03_bitsr3_W, F_ref03_bitsr5_W, F_ref03_bitsr6_W, F_ref03_bitsr8_W, F_ref03_bitsr7_W, F_ref03_bitsl1_W, F_ref03_bitsr4_W, F_ref03_bitsl0_W, F_ref03_bitsr9_W, F_ref03_bitsr9_g1, F_ref03_bitsr9_g6, F_ref03_bitsr10_W, F_ref03_bitsr11_W, F_ref03_bitsl2_W, F_ref03_bitsr12_W, F_ref03_bitsc_W, F_ref03_bitsr0_W, F_ref03_bitsr1_W, F_ref03_bitsr2_W, F_ref03_bitsr3_W, F_ref03_bitsr5_W, F_ref03_bitsr6_W, F_ref03_bitsr8_W, F_ref03_bitsr7_W, F_ref03_bitsl1_W, F_ref03_bitsr4_W, F_ref03_bitsl0_W, F_ref03_bitsr9_W, F_ref03_bitsr9_g1, F_ref03_bitsr9_g6, F_ref03_bitsr10_W, F_ref03_bitsr11_W, F_ref03_bitsl2_W, F_ref03_bitsr12_W, F_ref03_bitsc_W, v0, v1, v6, v7, v5, hk7, hx, at_cons hi, w1, w2, w3, w3', w4, w5, hb, srcOf_immV, a1]
    refine W.mono (ih (k + 1) _ v' H' _ (by omega) (by simp; omega) ?_ ?_ ?_ ?_ ?_ a2) fun x e hh ⟨q1, q2, q3, q4, q5⟩ => ⟨q1, q2, q3, q4, ?_⟩
    · (first | assumption | rfl)
    · (first | assumption | rfl)
    · (first | assumption | rfl)
    · (first | assumption | rfl)
    · (first | assumption | rfl)
    have hd : (bits7 g[i]).drop k = g[i].toNat.testBit k :: (bits7 g[i]).drop (k + 1) := by
      have hlt : k < (bits7 g[i]).length := by simp [bits7]; omega
      rw [List.drop_eq_getElem_cons hlt]
      congr 1
      simp [bits7]
    rw [hd]
    rw [List.append_assoc] at q5
    exact q5

theorem loop_ref03_bits {T : Tab} (g : List UInt8) (hg : g.length ≤ 1000) (sg : Bool) : ∀ (m i : Nat) (out : List Bool) (v : Value) (H : Heap) (env : Env), i + m = g.length → out.length + 7 * m ≤ 50000 → env 0 = imm byteE g → env 1 = .bool sg → env 6 = .int .i64 i → env 5 = v → Acc boolE [] v H out →
    W T (.loop F_ref03_bitsl0) env H fun x e h => x = .exit 0 ∧ e 0 = imm byteE g ∧ e 1 = .bool sg ∧ Acc boolE [] (e 5) h (out ++ bitsL (g.drop i)) := by
  intro m
  induction m with
  | zero =>
    intro i out v H env hi ho v0 v1 v6 v5 ha
    have hk7 : ¬ ((i : Int) < g.length) := by omega
    rw [w_loop]
    simp only [fws, cond_true, cond_false, if_true, if_false, unV, isNil, optI, iV, stepI, evalR, reduceIte, reduceCtorEq, Nat.reduceEqDiff, Int.reduceLT, Int.reduceLE, Int.reduceToNat, Nat.reduceLT, Nat.reduceLeDiff, Int.reduceEq, Int.reduceNeg, IntKind.bits, Nat.reduceAdd, Nat.reduceMul, Nat.reducePow, Int.reducePow, ini, fwi, F_ref03_bitsr0_W, F_ref03_bitsr1_W, F_ref03_bitsr2_W, F_ref03_bitsr3_W, F_ref03_bitsr5_W, F_ref03_bitsr6_W, F_ref03_bitsr8_W, F_ref03_bitsr7_W, F_ref03_bitsl1_W, F_ref03_bitsr4_W, F_ref03_bitsl0_W, F_ref03_bitsr9_W, F_ref03_bitsr9_g1, F_ref03_bitsr9_g6, F_ref03_bitsr10_W, F_ref03_bitsr11_W, F_ref03_bitsl2_W, F_ref03_bitsr12_W, F_ref03_bitsc_W, F_ref03_bitsr0_W, F_ref03_bitsr1_W, F_ref03_bitsr2_W, F_ref03_bitsr3_W, F_ref03_bitsr5_W, F_ref03_bitsr6_W, F_ref03_bitsr8_W, F_ref03_bitsr7_W, F_ref03_bitsl1_W, F_ref03_bitsr4_W, F_ref03_bitsl0_W, F_ref03_bitsr9_W, F_ref03_bitsr9_g1, F_ref03_bitsr9_g6, F_ref03_bitsr10_W, F_ref03_bitsr11_W, F_ref03_bitsl2_W, F_ref03_bitsr12_W, F_ref03_bitsc_W, v0, v1, v6, v5, hk7]
    refine ⟨trivial, trivial, trivial, ?_⟩
    rw [List.drop_eq_nil_of_le (by omega)]
    simpa [bitsL] using ha
  | succ m ih =>
    intro i out v H env hi ho v0 v1 v6 v5 ha
    have hk7 : ((i : Int) < g.length) := by omega
    have hig : i < g.length := by omega
    have w5 : IntKind.i64.wrap ((i : Int) + 1) = ((i + 1 : Nat) : Int) := by rw [wrapI64 (by omega) (by omega)]; rfl
    rw [w_loop]
    simp only [fws, cond_true, cond_false, if_true, if_false, unV, isNil, optI, iV, stepI, evalR, reduceIte, reduceCtorEq, Nat.reduceEqDiff, Int.reduceLT, Int.reduceLE, Int.reduceToNat, Nat.reduceLT, Nat.reduceLeDiff, Int.reduceEq, Int.reduceNeg, IntKind.bits, Nat.reduceAdd, Nat.reduceMul, Nat.reducePow, Int.reducePow, ini, fwi, F_ref03_bitsr0_W, F_ref03_bitsr1_W, F_ref03_bitsr2_W, F_ref03_bitsr3_W, F_ref03_bitsr5_W, F_ref03_bitsr6_W, F_ref03_bitsr8_W, F_ref03_bitsr7_W, F_ref03_bitsl1_W, F_ref03_bitsr4_W, F_ref03_bitsl0_W, F_ref03_bitsr9_W, F_ref03_bitsr9_g1, F_ref03_bitsr9_g6, F_ref03_bitsr10_W, F_ref03_bitsr11_W, F_ref03_bitsl2_W, F_ref03_bitsr12_W, F_ref03_bitsc_W, F_ref03_bitsr0_W, F_ref03_bitsr1_W, F_ref03_bitsr2_W, F_ref03_bitsr3_W, F_ref03_bitsr5_W, F_ref03_bitsr6_W, F_ref03_bitsr8_W, F_ref03_bitsr7_W, F_ref03_bitsl1_W, F_ref03_bitsr4_W, F_ref03_bitsl0_W, F_ref03_bitsr9_W, F_ref03_bitsr9_g1, F_ref03_bitsr9_g6, F_ref03_bitsr10_W, F_ref03_bitsr11_W, F_ref03_bitsl2_W, F_ref03_bitsr12_W, F_ref03_bitsc_W, v0, v1, v6, v5, hk7]
    refine W.mono (loop_ref03_bits_in g i hig sg 7 0 out v H _ rfl (by omega) ?_ ?_ ?_ ?_ ?_ ha) fun x e hh ⟨q1, q2, q3, q4, q5⟩ => ?_
    · (first | assumption | rfl)
    · (first | assumption | rfl)
    · (first | assumption | rfl)
    · (first | assumption | rfl)
    · (first | assumption | rfl)
    subst q1
    simp only [fws, cond_true, cond_false, if_true, if_false, unV, isNil, optI, iV, stepI, evalR, reduceIte, reduceCtorEq, Nat.reduceEqDiff, Int.reduceLT, Int.reduceLE, Int.reduceToNat, Nat.reduceLT, Nat.reduceLeDiff, Int.reduceEq, Int.reduceNeg, IntKind.bits, Nat.reduceAdd, Nat.reduceMul, Nat.reducePow, Int.reducePow, ini, fwi, F_ref03_bitsr0_W, F_ref03_bitsr1_W, F_ref03_bitsr2_W, F_ref03_bitsr3_W, F_ref03_bitsr5_W, F_ref03_bitsr6_W, F_ref03_bitsr8_W, F_ref03_bitsr7_W, F_ref03_bitsl1_W, F_ref03_bitsr4_W, F_ref03_bitsl0_W, F_ref03_bitsr9_W, F_ref03_bitsr9_g1, F_ref03_bitsr9_g6, F_ref03_bitsr10_W, F_ref03_bitsr11_W, F_ref03_bitsl2_W, F_ref03_bitsr12_W, F_ref03_bitsc_W, F_ref03_bitsr0_W, F_ref03_bitsr1_W, F_ref03_bitsr2_W, F_ref03_bitsr3_W, F_ref03_bitsr5_W, F_ref03_bitsr6_W, F_ref03_bitsr8_W, F_ref03_bitsr7_W, F_ref03_bitsl1_W, F_ref03_bitsr4_W, F_ref03_bitsl0_W, F_ref03_bitsr9_W, F_ref03_bitsr9_g1, F_ref03_bitsr9_g6, F_ref03_bitsr10_W, F_ref03_bitsr11_W, F_ref03_bitsl2_W, F_ref03_bitsr12_W, F_ref03_bitsc_W, q4, w5]
    refine W.mono (ih (i + 1) (out ++ (bits7 g[i]).drop 0) (e 5) hh _ (by omega) (by simp [bits7]; omega) ?_ ?_ ?_ ?_ q5) fun x e hh ⟨q1, q2, q3, q4⟩ => ⟨q1, q2, q3, ?_⟩
    · (first | assumption | rfl)
    · (first | assumption | rfl)
    · (first | assumption | rfl)
    · (first | assumption | rfl)
    rw [List.drop_eq_getElem_cons hig]
    rw [List.append_assoc, List.drop_zero] at q4
    exact q4

theorem loop_ref03_pad {T : Tab} (b : Bool) : ∀ (m : Nat) (out : List Bool) (v : Value) (H : Heap) (env : Env), 64 ≤ out.length + m → out.length + m ≤ 1000 → (out.length < 64 → out.length + m = 64) → env 8 = .bool b → env 5 = v → Acc boolE [] v H out →
    W T (.loop F_ref03_bitsl2) env H fun x e h => x = .exit 4 ∧ Acc boolE [] (e 5) h (out ++ List.replicate (64 - out.length) b) := by
  intro m
  induction m with
  | zero =>
    intro out v H env h1 h2 h3 v8 v5 ha
    have hk7 : ¬ ((out.length : Int) < 64) := by omega
    rw [w_loop]
    simp only [fws, cond_true, cond_false, if_true, if_false, unV, isNil, optI, iV, stepI, evalR, reduceIte, reduceCtorEq, Nat.reduceEqDiff, Int.reduceLT, Int.reduceLE, Int.reduceToNat, Nat.reduceLT, Nat.reduceLeDiff, Int.reduceEq, Int.reduceNeg, IntKind.bits, Nat.reduceAdd, Nat.reduceMul, Nat.reducePow, Int.reducePow, ini, fwi, F_ref03_bitsr0_W, F_ref03_bitsr1_W, F_ref03_bitsr2_W, F_ref03_bitsr3_W, F_ref03_bitsr5_W, F_ref03_bitsr6_W, F_ref03_bitsr8_W, F_ref03_bitsr7_W, F_ref03_bitsl1_W, F_ref03_bitsr4_W, F_ref03_bitsl0_W, F_ref03_bitsr9_W, F_ref03_bitsr9_g1, F_ref03_bitsr9_g6, F_ref03_bitsr10_W, F_ref03_bitsr11_W, F_ref03_bitsl2_W, F_ref03_bitsr12_W, F_ref03_bitsc_W, F_ref03_bitsr0_W, F_ref03_bitsr1_W, F_ref03_bitsr2_W, F_ref03_bitsr3_W, F_ref03_bitsr5_W, F_ref03_bitsr6_W, F_ref03_bitsr8_W, F_ref03_bitsr7_W, F_ref03_bitsl1_W, F_ref03_bitsr4_W, F_ref03_bitsl0_W, F_ref03_bitsr9_W, F_ref03_bitsr9_g1, F_ref03_bitsr9_g6, F_ref03_bitsr10_W, F_ref03_bitsr11_W, F_ref03_bitsl2_W, F_ref03_bitsr12_W, F_ref03_bitsc_W, v8, v5, ha.len, hk7]
    have : 64 - out.length = 0 := by omega
    rw [this]
    simpa using ha
  | succ m ih =>
    intro out v H env h1 h2 h3 v8 v5 ha
    rw [w_loop]
    by_cases hk : out.length < 64
    · have hk7 : ((out.length : Int) < 64) := by omega
      obtain ⟨v', H', a1, a2⟩ := ha.app1 (n := 1) (eb := 1) rfl b (cs := [.bool b]) rfl (by omega)
      simp only [fws, cond_true, cond_false, if_true, if_false, unV, isNil, optI, iV, stepI, evalR, reduceIte, reduceCtorEq, Nat.reduceEqDiff, Int.reduceLT, Int.reduceLE, Int.reduceToNat, Nat.reduceLT, Nat.reduceLeDiff, Int.reduceEq, Int.reduceNeg, IntKind.bits, Nat.reduceAdd, Nat.reduceMul, Nat.reducePow, Int.reducePow, ini, fwh, lk, cellsAt, tagOf, spotOf, rdN, spl, fillL, zr, fwi, F_ref03_bitsr0_W, F_ref03_bitsr1_W, F_ref03_bitsr2_W, F_ref03_bitsr3_W, F_ref03_bitsr5_W, F_ref03_bitsr6_W, F_ref03_bitsr8_W, F_ref03_bitsr7_W, F_ref03_bitsl1_W, F_ref03_bitsr4_W, F_ref03_bitsl0_W, F_ref03_bitsr9_W, F_ref03_bitsr9_g1, F_ref03_bitsr9_g6, F_ref03_bitsr10_W, F_ref03_bitsr11_W, F_ref03_bitsl2_W, F_ref03_bitsr12_W, F_ref03_bitsc_W, F_ref03_bitsr0_W, F_ref03_bitsr1_W, F_ref03_bitsr2_W, F_ref03_bitsr3_W, F_ref03_bitsr5_W, F_ref03_bitsr6_W, F_ref03_bitsr8_W, F_ref03_bitsr7_W, F_ref03_bitsl1_W, F_ref03_bitsr4_W, F_ref03_bitsl0_W, F_ref03_bitsr9_W, F_ref03_bitsr9_g1, F_ref03_bitsr9_g6, F_ref03_bitsr10_W, F_ref03_bitsr11_W, F_ref03_bitsl2_W, F_ref03_bitsr12_W, F_ref03_bitsc_W, v8, v5, ha.len, hk7, srcOf_immV, a1]
      refine W.mono (ih (out ++ [b]) v' H' _ (by simp; omega) (by simp; omega) (by simp; omega) ?_ ?_ a2) fun x e hh ⟨q1, q2⟩ => ⟨q1, ?_⟩
      · (first | assumption | rfl)
      · (first | assumption | rfl)
      have e1 : 64 - out.length = (64 - (out ++ [b]).length) + 1 := by simp; omega
      rw [e1, List.replicate_succ]
      rw [List.append_assoc] at q2
      exact q2
    · have hk7 : ¬ ((out.length : Int) < 64) := by omega
      simp only [fws, cond_true, cond_false, if_true, if_false, unV, isNil, optI, iV, stepI, evalR, reduceIte, reduceCtorEq, Nat.reduceEqDiff, Int.reduceLT, Int.reduceLE, Int.reduceToNat, Nat.reduceLT, Nat.reduceLeDiff, Int.reduceEq, Int.reduceNeg, IntKind.bits, Nat.reduceAdd, Nat.reduceMul, Nat.reducePow, Int.reducePow, ini, fwi, F_ref03_bitsr0_W, F_ref03_bitsr1_W, F_ref03_bitsr2_W, F_ref03_bitsr3_W, F_ref03_bitsr5_W, F_ref03_bitsr6_W, F_ref03_bitsr8_W, F_ref03_bitsr7_W, F_ref03_bitsl1_W, F_ref03_bitsr4_W, F_ref03_bitsl0_W, F_ref03_bitsr9_W, F_ref03_bitsr9_g1, F_ref03_bitsr9_g6, F_ref03_bitsr10_W, F_ref03_bitsr11_W, F_ref03_bitsl2_W, F_ref03_bitsr12_W, F_ref03_bitsc_W, F_ref03_bitsr0_W, F_ref03_bitsr1_W, F_ref03_bitsr2_W, F_ref03_bitsr3_W, F_ref03_bitsr5_W, F_ref03_bitsr6_W, F_ref03_bitsr8_W, F_ref03_bitsr7_W, F_ref03_bitsl1_W, F_ref03_bitsr4_W, F_ref03_bitsl0_W, F_ref03_bitsr9_W, F_ref03_bitsr9_g1, F_ref03_bitsr9_g6, F_ref03_bitsr10_W, F_ref03_bitsr11_W, F_ref03_bitsl2_W, F_ref03_bitsr12_W, F_ref03_bitsc_W, v8, v5, ha.len, hk7]
      have : 64 - out.length = 0 := by omega
      rw [this]
      simpa using ha

theorem bitsL_length (g : List UInt8) : (bitsL g).length = 7 * g.length := by
  unfold bitsL
  induction g with
  | nil => rfl
  | cons c g ih => rw [List.flatMap_cons, List.length_append, ih, List.length_cons]; simp [bits7]; omega
/-- The last bit. -/
def lastBit (g : List UInt8) : Bool := (bitsL g).getLastD false
def padded (g : List UInt8) (sg : Bool) : List Bool := (bitsL g ++ List.replicate (64 - (bitsL g).length) (sg && lastBit g)).take 64

theorem drop_last {α : Type} : ∀ (l : List α) (d : α), l ≠ [] → l.drop (l.length - 1) = [l.getLastD d]
  | [], _, h => absurd rfl h
  | [x], _, _ => rfl
  | x :: y :: l, d, _ => by
    have := drop_last (y :: l) d (by simp)
    simpa using this
theorem Acc.last {E : Enc Bool} {l : List Bool} {H g : Heap} {v : Value} (h : Acc boolE g v H l) (hl : l ≠ []) : ∃ p, ixaI H 1 v (.int .i64 (l.length - 1 : Nat)) = some (p, H) ∧ loadI H p = some (.bool (l.getLastD false), H) := by
  rcases h with ⟨rfl, _⟩ | ⟨_, tag, rfl, rfl⟩
  · exact absurd rfl hl
  · have hlk : ∀ off, lk (g ++ [oe boolE tag l]) ⟨g.length, off, spotOf tag⟩ = some (oe boolE tag l) := fun off => own_lk (H := g ++ [oe boolE tag l]) (tag := tag) (o := .cells false boolE.u (boolE.cs l)) (by simp [oe])
    have h0 : 0 < l.length := by cases l with | nil => exact absurd rfl hl | cons => simp
    refine ⟨.pointer (some ⟨g.length, 0 + (l.length - 1) * 1, spotOf tag⟩), ?_, ?_⟩
    · simp only [ixaI, own]
      rw [if_pos ⟨by omega, by omega⟩]
      rfl
    · simp only [loadI_ptr, cellsAt, hlk]
      simp only [oe]
      have h1 : (boolE.cs l).drop (0 + (l.length - 1) * 1) = boolE.cs (l.drop (l.length - 1)) := by
        rw [Nat.zero_add]; exact cs_drop (E := boolE) l (l.length - 1)
      have h2 : l.drop (l.length - 1) = [l.getLastD false] := drop_last l false hl
      rw [h1, h2]
      rfl

theorem f_ref03_bits {T : Tab} (h : T 38 = some F_ref03_bits) (g : List UInt8) (hg : g ≠ []) (hgl : g.length ≤ 10) (sg : Bool) : FnV T 38 [imm byteE g, .bool sg] (imm boolE (padded g sg)) := by
  refine FnV_of (by simp [pure_agg, pure_tup, pure_int, pure_bool, pure_string, pure_slN, pure_ptrN, pure_mapN, pure_imm, pure_immN, bltN, byteE_d, intE_d, boolE_d, strE_d]) ?_
  rw [Ev_fn h rfl]
  simp only [F_ref03_bits, fws, cond_true, cond_false, if_true, if_false, unV, isNil, optI, iV, stepI, evalR, reduceIte, reduceCtorEq, Nat.reduceEqDiff, Int.reduceLT, Int.reduceLE, Int.reduceToNat, Nat.reduceLT, Nat.reduceLeDiff, Int.reduceEq, Int.reduceNeg, IntKind.bits, Nat.reduceAdd, Nat.reduceMul, Nat.reducePow, Int.reducePow, ini, fwh, lk, cellsAt, tagOf, spotOf, rdN, spl, fillL, zr, fwi, F_ref03_bitsr0_W, F_ref03_bitsr1_W, F_ref03_bitsr2_W, F_ref03_bitsr3_W, F_ref03_bitsr5_W, F_ref03_bitsr6_W, F_ref03_bitsr8_W, F_ref03_bitsr7_W, F_ref03_bitsl1_W, F_ref03_bitsr4_W, F_ref03_bitsl0_W, F_ref03_bitsr9_W, F_ref03_bitsr9_g1, F_ref03_bitsr9_g6, F_ref03_bitsr10_W, F_ref03_bitsr11_W, F_ref03_bitsl2_W, F_ref03_bitsr12_W, F_ref03_bitsc_W, F_ref03_bitsr0_W, F_ref03_bitsr1_W, F_ref03_bitsr2_W, F_ref03_bitsr3_W, F_ref03_bitsr5_W, F_ref03_bitsr6_W, F_ref03_bitsr8_W, F_ref03_bitsr7_W, F_ref03_bitsl1_W, F_ref03_bitsr4_W, F_ref03_bitsl0_W, F_ref03_bitsr9_W, F_ref03_bitsr9_g1, F_ref03_bitsr9_g6, F_ref03_bitsr10_W, F_ref03_bitsr11_W, F_ref03_bitsl2_W, F_ref03_bitsr12_W, F_ref03_bitsc_W]
  refine W.mono (loop_ref03_bits g (by omega) sg g.length 0 [] _ _ _ (by omega) (by simp; omega) ?_ ?_ ?_ ?_ Acc.nil) fun x e hh ⟨q1, q2, q3, q4⟩ => ?_
  · (first | assumption | rfl)
  · (first | assumption | rfl)
  · (first | assumption | rfl)
  · (first | assumption | rfl)
  subst q1
  rw [List.nil_append, List.drop_zero] at q4
  have hbl := bitsL_length g
  have hg0 : 0 < g.length := by cases g with | nil => exact absurd rfl hg | cons => simp
  have hne : bitsL g ≠ [] := by intro h; rw [h] at hbl; simp at hbl; omega
  obtain ⟨p, hp1, hp2⟩ := Acc.last (E := boolE) q4 hne
  have hpos : (0 : Int) < ((bitsL g).length : Int) := by omega
  have w1 : IntKind.i64.wrap (((bitsL g).length : Int) - 1) = (((bitsL g).length - 1 : Nat) : Int) := by rw [wrapI64 (by omega) (by omega)]; omega
  have hpad : ∀ env, env 8 = .bool (sg && lastBit g) → env 5 = e 5 → W T (.loop F_ref03_bitsl2) env hh fun x e h => x = .exit 4 ∧ Acc boolE [] (e 5) h (bitsL g ++ List.replicate (64 - (bitsL g).length) (sg && lastBit g)) := fun env v8 v5 =>
    loop_ref03_pad _ (if (bitsL g).length < 64 then 64 - (bitsL g).length else 0) _ (e 5) hh env (by split <;> omega) (by split <;> omega) (fun h => by rw [if_pos h]; omega) v8 v5 q4
  have hend : ∀ (x : Ex) (e : Env) (h : Heap), (x = .exit 4 ∧ Acc boolE [] (e 5) h (bitsL g ++ List.replicate (64 - (bitsL g).length) (sg && lastBit g))) → seqQ T ((ICode.reg F_ref03_bitsr12).seq ICode.ret) (retQ [IRes.tmp 4] fun v h => Fw.frz 8 h v = some (imm boolE (padded g sg))) (match x with | .exit 4 => .normal | x => x) e h := fun x e h ⟨h1, h2⟩ => by
    subst h1
    have hlen : (bitsL g ++ List.replicate (64 - (bitsL g).length) (sg && lastBit g)).length = (bitsL g).length + (64 - (bitsL g).length) := by simp
    obtain ⟨v', c1, c2⟩ := h2.front (n := 1) (j := 64) rfl (by simp [hne]) (by omega) .i64
    simp only [fws, cond_true, cond_false, if_true, if_false, unV, isNil, optI, iV, stepI, evalR, reduceIte, reduceCtorEq, Nat.reduceEqDiff, Int.reduceLT, Int.reduceLE, Int.reduceToNat, Nat.reduceLT, Nat.reduceLeDiff, Int.reduceEq, Int.reduceNeg, IntKind.bits, Nat.reduceAdd, Nat.reduceMul, Nat.reducePow, Int.reducePow, ini, fwh, lk, cellsAt, tagOf, spotOf, rdN, spl, fillL, zr, fwi, F_ref03_bitsr0_W, F_ref03_bitsr1_W, F_ref03_bitsr2_W, F_ref03_bitsr3_W, F_ref03_bitsr5_W, F_ref03_bitsr6_W, F_ref03_bitsr8_W, F_ref03_bitsr7_W, F_ref03_bitsl1_W, F_ref03_bitsr4_W, F_ref03_bitsl0_W, F_ref03_bitsr9_W, F_ref03_bitsr9_g1, F_ref03_bitsr9_g6, F_ref03_bitsr10_W, F_ref03_bitsr11_W, F_ref03_bitsl2_W, F_ref03_bitsr12_W, F_ref03_bitsc_W, F_ref03_bitsr0_W, F_ref03_bitsr1_W, F_ref03_bitsr2_W, F_ref03_bitsr3_W, F_ref03_bitsr5_W, F_ref03_bitsr6_W, F_ref03_bitsr8_W, F_ref03_bitsr7_W, F_ref03_bitsl1_W, F_ref03_bitsr4_W, F_ref03_bitsl0_W, F_ref03_bitsr9_W, F_ref03_bitsr9_g1, F_ref03_bitsr9_g6, F_ref03_bitsr10_W, F_ref03_bitsr11_W, F_ref03_bitsl2_W, F_ref03_bitsr12_W, F_ref03_bitsc_W]
    simp only [show ((64 : Nat) : Int) = 64 from rfl] at c1
    simp only [fws, cond_true, cond_false, if_true, if_false, unV, isNil, optI, iV, stepI, evalR, reduceIte, reduceCtorEq, Nat.reduceEqDiff, Int.reduceLT, Int.reduceLE, Int.reduceToNat, Nat.reduceLT, Nat.reduceLeDiff, Int.reduceEq, Int.reduceNeg, IntKind.bits, Nat.reduceAdd, Nat.reduceMul, Nat.reducePow, Int.reducePow, ini, fwh, lk, cellsAt, tagOf, spotOf, rdN, spl, fillL, zr, fwi, F_ref03_bitsr0_W, F_ref03_bitsr1_W, F_ref03_bitsr2_W, F_ref03_bitsr3_W, F_ref03_bitsr5_W, F_ref03_bitsr6_W, F_ref03_bitsr8_W, F_ref03_bitsr7_W, F_ref03_bitsl1_W, F_ref03_bitsr4_W, F_ref03_bitsl0_W, F_ref03_bitsr9_W, F_ref03_bitsr9_g1, F_ref03_bitsr9_g6, F_ref03_bitsr10_W, F_ref03_bitsr11_W, F_ref03_bitsl2_W, F_ref03_bitsr12_W, F_ref03_bitsc_W, F_ref03_bitsr0_W, F_ref03_bitsr1_W, F_ref03_bitsr2_W, F_ref03_bitsr3_W, F_ref03_bitsr5_W, F_ref03_bitsr6_W, F_ref03_bitsr8_W, F_ref03_bitsr7_W, F_ref03_bitsl1_W, F_ref03_bitsr4_W, F_ref03_bitsl0_W, F_ref03_bitsr9_W, F_ref03_bitsr9_g1, F_ref03_bitsr9_g6, F_ref03_bitsr10_W, F_ref03_bitsr11_W, F_ref03_bitsl2_W, F_ref03_bitsr12_W, F_ref03_bitsc_W, c1]
    exact c2 7 (by decide)
  cases sg with
  | false =>
    simp only [fws, cond_true, cond_false, if_true, if_false, unV, isNil, optI, iV, stepI, evalR, reduceIte, reduceCtorEq, Nat.reduceEqDiff, Int.reduceLT, Int.reduceLE, Int.reduceToNat, Nat.reduceLT, Nat.reduceLeDiff, Int.reduceEq, Int.reduceNeg, IntKind.bits, Nat.reduceAdd, Nat.reduceMul, Nat.reducePow, Int.reducePow, ini, fwh, lk, cellsAt, tagOf, spotOf, rdN, spl, fillL, zr, fwi, F_ref03_bitsr0_W, F_ref03_bitsr1_W, F_ref03_bitsr2_W, F_ref03_bitsr3_W, F_ref03_bitsr5_W, F_ref03_bitsr6_W, F_ref03_bitsr8_W, F_ref03_bitsr7_W, F_ref03_bitsl1_W, F_ref03_bitsr4_W, F_ref03_bitsl0_W, F_ref03_bitsr9_W, F_ref03_bitsr9_g1, F_ref03_bitsr9_g6, F_ref03_bitsr10_W, F_ref03_bitsr11_W, F_ref03_bitsl2_W, F_ref03_bitsr12_W, F_ref03_bitsc_W, F_ref03_bitsr0_W, F_ref03_bitsr1_W, F_ref03_bitsr2_W, F_ref03_bitsr3_W, F_ref03_bitsr5_W, F_ref03_bitsr6_W, F_ref03_bitsr8_W, F_ref03_bitsr7_W, F_ref03_bitsl1_W, F_ref03_bitsr4_W, F_ref03_bitsl0_W, F_ref03_bitsr9_W, F_ref03_bitsr9_g1, F_ref03_bitsr9_g6, F_ref03_bitsr10_W, F_ref03_bitsr11_W, F_ref03_bitsl2_W, F_ref03_bitsr12_W, F_ref03_bitsc_W, q2, q3]
    refine W.mono (hpad _ ?_ ?_) fun x e h hq => ?_
    · (first | assumption | rfl)
    · (first | assumption | rfl)
    have := hend x e h hq
    obtain ⟨rfl, _⟩ := hq
    simpa only [fws, cond_true, cond_false, if_true, if_false, unV, isNil, optI, iV, stepI, evalR, reduceIte, reduceCtorEq, Nat.reduceEqDiff, Int.reduceLT, Int.reduceLE, Int.reduceToNat, Nat.reduceLT, Nat.reduceLeDiff, Int.reduceEq, Int.reduceNeg, IntKind.bits, Nat.reduceAdd, Nat.reduceMul, Nat.reducePow, Int.reducePow, ini] using this
  | true =>
    simp only [fws, cond_true, cond_false, if_true, if_false, unV, isNil, optI, iV, stepI, evalR, reduceIte, reduceCtorEq, Nat.reduceEqDiff, Int.reduceLT, Int.reduceLE, Int.reduceToNat, Nat.reduceLT, Nat.reduceLeDiff, Int.reduceEq, Int.reduceNeg, IntKind.bits, Nat.reduceAdd, Nat.reduceMul, Nat.reducePow, Int.reducePow, ini, fwh, lk, cellsAt, tagOf, spotOf, rdN, spl, fillL, zr, fwi, F_ref03_bitsr0_W, F_ref03_bitsr1_W, F_ref03_bitsr2_W, F_ref03_bitsr3_W, F_ref03_bitsr5_W, F_ref03_bitsr6_W, F_ref03_bitsr8_W, F_ref03_bitsr7_W, F_ref03_bitsl1_W, F_ref03_bitsr4_W, F_ref03_bitsl0_W, F_ref03_bitsr9_W, F_ref03_bitsr9_g1, F_ref03_bitsr9_g6, F_ref03_bitsr10_W, F_ref03_bitsr11_W, F_ref03_bitsl2_W, F_ref03_bitsr12_W, F_ref03_bitsc_W, F_ref03_bitsr0_W, F_ref03_bitsr1_W, F_ref03_bitsr2_W, F_ref03_bitsr3_W, F_ref03_bitsr5_W, F_ref03_bitsr6_W, F_ref03_bitsr8_W, F_ref03_bitsr7_W, F_ref03_bitsl1_W, F_ref03_bitsr4_W, F_ref03_bitsl0_W, F_ref03_bitsr9_W, F_ref03_bitsr9_g1, F_ref03_bitsr9_g6, F_ref03_bitsr10_W, F_ref03_bitsr11_W, F_ref03_bitsl2_W, F_ref03_bitsr12_W, F_ref03_bitsc_W, q2, q3, q4.len, hpos, w1, hp1, hp2]
    refine W.mono (hpad _ ?_ ?_) fun x e h hq => ?_
    · simp only [fws, cond_true, cond_false, if_true, if_false, unV, isNil, optI, iV, stepI, evalR, reduceIte, reduceCtorEq, Nat.reduceEqDiff, Int.reduceLT, Int.reduceLE, Int.reduceToNat, Nat.reduceLT, Nat.reduceLeDiff, Int.reduceEq, Int.reduceNeg, IntKind.bits, Nat.reduceAdd, Nat.reduceMul, Nat.reducePow, Int.reducePow, ini]; simp [lastBit]
    · (first | assumption | rfl)
    have := hend x e h hq
    obtain ⟨rfl, _⟩ := hq
    simpa only [fws, cond_true, cond_false, if_true, if_false, unV, isNil, optI, iV, stepI, evalR, reduceIte, reduceCtorEq, Nat.reduceEqDiff, Int.reduceLT, Int.reduceLE, Int.reduceToNat, Nat.reduceLT, Nat.reduceLeDiff, Int.reduceEq, Int.reduceNeg, IntKind.bits, Nat.reduceAdd, Nat.reduceMul, Nat.reducePow, Int.reducePow, ini] using this
end Go.Proofs.Ytdkdifjjpbfohaa
