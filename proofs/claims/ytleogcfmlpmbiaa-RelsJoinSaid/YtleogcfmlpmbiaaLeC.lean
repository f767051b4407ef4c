/- Parts of bytes; LeReads. -/
import Derived.Test.YtleogcfmlpmbiaaLeB
namespace Go.Proofs.Ytleogcfmlpmbiaa
open Go Fw
set_option linter.unusedSimpArgs false
set_option linter.unusedVariables false

theorem f_le_Part {T : Tab} (h0 : T 69 = some F_num_Sub) (h1 : T 55 = some F_num_Inside) (h : T 36 = some F_le_Part) (o : Option (List UInt8)) (hl : (lst o).length ≤ 100000) (a s : Nat) (ha : a < 18446744073709551616) (hs : s < 18446744073709551616) :
    FnV T 36 [slV byteE o, .int .u64 a, .int .u64 s] (if a + s ≤ (lst o).length then .tuple #[immN byteE (((lst o).drop a).take s), .int .i64 0] else .tuple #[.slice none 0 0, .int .i64 20]) := by
  refine FnV_of (by simp [pure_int, pure_sl (E := byteE) (o := o) (k := 6) rfl]) ?_
  rw [Ev_fn h rfl]
  have wl : IntKind.u64.wrap ((lst o).length : Int) = (lst o).length := by rw [wrap_u64]; omega
  have c1 := f_num_Inside (T := T) h0 h1 (a := a) (s := s) (f := 0) (r := (lst o).length) ⟨by omega, by omega⟩ ⟨by omega, by omega⟩ ⟨by omega, by omega⟩ ⟨by omega, by omega⟩
  rw [show (0 : Int) = ((0 : Nat) : Int) from rfl, show insI a s ((0 : Nat) : Int) (lst o).length = decide (a + s ≤ (lst o).length) from ins_iff] at c1
  simp only [Int.cast_ofNat_Int] at c1
  by_cases hak : a + s ≤ (lst o).length
  · have hd : decide (a + s ≤ (lst o).length) = true := by simp [hak]
    rw [hd] at c1
    have w1 : IntKind.u64.wrap ((a : Int) + s) = ((a + s : Nat) : Int) := by rw [wrap_u64]; omega
    have hs := fun H => sleI_sl (E := byteE) (o := o) (H := H) (n := 1) (lo := some (.int .u64 a)) (hi := some (.int .u64 (a + s : Nat))) (mx := some (.int .u64 (a + s : Nat))) rfl rfl rfl rfl ⟨Nat.le_add_right _ _, Nat.le_refl _, hak⟩
    have hp : lst (part o a (a + s)) = ((lst o).drop a).take s := by rw [lst_part, Nat.add_sub_cancel_left]
    have hc := fun H => cpyI_N (E := byteE) (l := ((lst o).drop a).take s) (H := H) (n := 1) (eb := 1) (y := slV byteE (part o a (a + s))) rfl (by rw [List.length_take]; omega) (by have := srcOf_sl (E := byteE) (o := part o a (a + s)) (H := H) (n := 1) rfl; rwa [hp] at this)
    rw [if_pos hak]
    simp only [F_le_Part, fws, cond_true, cond_false, if_true, if_false, unV, isNil, optI, iV, stepI, evalR, reduceIte, reduceCtorEq, Nat.reduceEqDiff, Int.reduceLT, Int.reduceLE, Int.reduceToNat, Nat.reduceLT, Nat.reduceLeDiff, Int.reduceEq, Int.reduceNeg, IntKind.bits, Nat.reduceAdd, Nat.reduceMul, Nat.reducePow, Int.reducePow, ini, fwi, F_le_Partr0_W, F_le_Partr1_W, F_le_Partr2_W, F_le_Partr3_W, F_le_Partc_W, lenI_sl, wl, CC_of c1, w1, hs, hc]
    exact frz_pure (pure_tup.trans (by simp [pure_int, pure_immN (E := byteE) (l := ((lst o).drop a).take s) (k := 7) rfl]))
  · have hd : decide (a + s ≤ (lst o).length) = false := by simp [hak]
    rw [hd] at c1
    rw [if_neg hak]
    simp only [F_le_Part, fws, cond_true, cond_false, if_true, if_false, unV, isNil, optI, iV, stepI, evalR, reduceIte, reduceCtorEq, Nat.reduceEqDiff, Int.reduceLT, Int.reduceLE, Int.reduceToNat, Nat.reduceLT, Nat.reduceLeDiff, Int.reduceEq, Int.reduceNeg, IntKind.bits, Nat.reduceAdd, Nat.reduceMul, Nat.reducePow, Int.reducePow, ini, fwi, F_le_Partr0_W, F_le_Partr1_W, F_le_Partr2_W, F_le_Partr3_W, F_le_Partc_W, lenI_sl, wl, CC_of c1]
    rfl
theorem f_ref02_Part {T : Tab} (h : T 38 = some F_ref02_Part) (o : Option (List UInt8)) (hl : (lst o).length ≤ 100000) (a s : Nat) (ha : a < 18446744073709551616) (hs : s < 18446744073709551616) :
    FnV T 38 [slV byteE o, .int .u64 a, .int .u64 s] (if a + s ≤ (lst o).length then .tuple #[imm byteE (((lst o).drop a).take s), .int .i64 0] else .tuple #[.slice none 0 0, .int .i64 20]) := by
  refine FnV_of (by simp [pure_int, pure_sl (E := byteE) (o := o) (k := 6) rfl]) ?_
  rw [Ev_fn h rfl]
  have wl : IntKind.u64.wrap ((lst o).length : Int) = (lst o).length := by rw [wrap_u64]; omega
  by_cases h1 : (lst o).length < a
  · have q : (((lst o).length : Int) < a) := by omega
    rw [if_neg (by omega)]
    simp only [F_ref02_Part, fws, cond_true, cond_false, if_true, if_false, unV, isNil, optI, iV, stepI, evalR, reduceIte, reduceCtorEq, Nat.reduceEqDiff, Int.reduceLT, Int.reduceLE, Int.reduceToNat, Nat.reduceLT, Nat.reduceLeDiff, Int.reduceEq, Int.reduceNeg, IntKind.bits, Nat.reduceAdd, Nat.reduceMul, Nat.reducePow, Int.reducePow, ini, fwi, F_ref02_Partr0_W, F_ref02_Partr1_W, F_ref02_Partr2_W, F_ref02_Partr2_g3, F_ref02_Partr3_W, F_ref02_Partr4_W, F_ref02_Partc_W, lenI_sl, wl, q]
    rfl
  · have q : ¬ (((lst o).length : Int) < a) := by omega
    have ws : IntKind.u64.wrap (((lst o).length : Int) - a) = ((lst o).length : Int) - a := by rw [wrap_u64]; omega
    by_cases hak : a + s ≤ (lst o).length
    · have q2 : ¬ (((lst o).length : Int) - a < s) := by omega
      have w1 : IntKind.u64.wrap ((a : Int) + s) = ((a + s : Nat) : Int) := by rw [wrap_u64]; omega
      have hs := fun H => sleI_sl (E := byteE) (o := o) (H := H) (n := 1) (lo := some (.int .u64 a)) (hi := some (.int .u64 (a + s : Nat))) (mx := none) (k := (lst o).length) rfl rfl rfl rfl ⟨Nat.le_add_right _ _, hak, Nat.le_refl _⟩
      have hp : lst (part o a (a + s)) = ((lst o).drop a).take s := by rw [lst_part, Nat.add_sub_cancel_left]
      have a1 := appf_z (E := byteE) (n := 1) (eb := 1) rfl (by decide) [] (((lst o).drop a).take s) (by rw [List.length_take]; omega)
      have hsr := fun H => srcOf_sl (E := byteE) (o := part o a (a + s)) (H := H) (n := 1) rfl
      simp only [hp] at hsr
      simp only [List.nil_append, List.length_nil] at a1
      rw [if_pos hak]
      simp only [F_ref02_Part, fws, cond_true, cond_false, if_true, if_false, unV, isNil, optI, iV, stepI, evalR, reduceIte, reduceCtorEq, Nat.reduceEqDiff, Int.reduceLT, Int.reduceLE, Int.reduceToNat, Nat.reduceLT, Nat.reduceLeDiff, Int.reduceEq, Int.reduceNeg, IntKind.bits, Nat.reduceAdd, Nat.reduceMul, Nat.reducePow, Int.reducePow, ini, fwh, lk, cellsAt, tagOf, spotOf, rdN, spl, fillL, zr, fwi, F_ref02_Partr0_W, F_ref02_Partr1_W, F_ref02_Partr2_W, F_ref02_Partr2_g3, F_ref02_Partr3_W, F_ref02_Partr4_W, F_ref02_Partc_W, lenI_sl, wl, q, ws, q2, w1, hs, hsr, a1]
      exact frz_pure (pure_tup.trans (by simp [pure_int, pure_imm (E := byteE) (l := ((lst o).drop a).take s) (k := 7) rfl]))
    · have q2 : (((lst o).length : Int) - a < s) := by omega
      rw [if_neg hak]
      simp only [F_ref02_Part, fws, cond_true, cond_false, if_true, if_false, unV, isNil, optI, iV, stepI, evalR, reduceIte, reduceCtorEq, Nat.reduceEqDiff, Int.reduceLT, Int.reduceLE, Int.reduceToNat, Nat.reduceLT, Nat.reduceLeDiff, Int.reduceEq, Int.reduceNeg, IntKind.bits, Nat.reduceAdd, Nat.reduceMul, Nat.reducePow, Int.reducePow, ini, fwi, F_ref02_Partr0_W, F_ref02_Partr1_W, F_ref02_Partr2_W, F_ref02_Partr2_g3, F_ref02_Partr3_W, F_ref02_Partr4_W, F_ref02_Partc_W, lenI_sl, wl, q, ws, q2]
      rfl
set_option maxRecDepth 100000 in
set_option maxHeartbeats 1000000 in
theorem law_LeReads (o : Option (List UInt8)) {a s : Nat} (ha : a < 18446744073709551616) (hs : s < 18446744073709551616) : Ev TLe 6 [slV byteE o, .int .u64 a, .int .u64 s] [] fun v _ => v = .bool true := by
  rw [Ev_fn rfl rfl]
  by_cases hl : (lst o).length ≤ 4096
  · have q : ¬ ((4096 : Int) < (lst o).length) := by omega
    have hp := pure_sl (E := byteE) (o := o) (k := 6) rfl
    have hl2 : (lst o).length ≤ 100000 := by omega
    have c1 := f_le_U16 (T := TLe) rfl rfl rfl (lst o) (slV byteE o) Src_sl hp hl2 a ha rfl
    have c2 := f_le_U32 (T := TLe) rfl rfl rfl (lst o) (slV byteE o) Src_sl hp hl2 a ha rfl
    have c3 := f_le_U64 (T := TLe) rfl rfl rfl (lst o) (slV byteE o) Src_sl hp hl2 a ha rfl
    have c4 := f_le_Part (T := TLe) rfl rfl rfl o hl2 a s ha hs
    have d1 : FnV TLe 37 [slV byteE o, .int .u64 a, .int .i64 2] (getV (lst o) a 2) := f_ref02_Get (T := TLe) rfl (lst o) (slV byteE o) Src_sl hp hl2 a 2 ha ⟨by decide, by decide⟩
    have d2 : FnV TLe 37 [slV byteE o, .int .u64 a, .int .i64 4] (getV (lst o) a 4) := f_ref02_Get (T := TLe) rfl (lst o) (slV byteE o) Src_sl hp hl2 a 4 ha ⟨by decide, by decide⟩
    have d3 : FnV TLe 37 [slV byteE o, .int .u64 a, .int .i64 8] (getV (lst o) a 8) := f_ref02_Get (T := TLe) rfl (lst o) (slV byteE o) Src_sl hp hl2 a 8 ha ⟨by decide, by decide⟩
    have d4 := f_ref02_Part (T := TLe) rfl o hl2 a s ha hs
    have l1 := leN_take (l := lst o) (a := a) (k := 2) (by decide)
    have l2 := leN_take (l := lst o) (a := a) (k := 4) (by decide)
    have w1 : IntKind.u64.wrap (leN (((lst o).drop a).take 2) : Int) = leN (((lst o).drop a).take 2) := by rw [wrap_u64]; omega
    have w2 : IntKind.u64.wrap (leN (((lst o).drop a).take 4) : Int) = leN (((lst o).drop a).take 4) := by rw [wrap_u64]; omega
    have w0 : IntKind.u64.wrap 0 = 0 := by decide
    have t1 : ∀ (kd : IntKind) (k : Nat), getC kd (lst o) a k = .tuple #[.int kd ((if a + k ≤ (lst o).length then leN (((lst o).drop a).take k) else 0 : Nat) : Int), .int .i64 (if a + k ≤ (lst o).length then 0 else 20)] := fun kd k => by
      unfold getC; split <;> rfl
    have t2 : ∀ (k : Nat), getV (lst o) a k = .tuple #[.int .u64 ((if a + k ≤ (lst o).length then leN (((lst o).drop a).take k) else 0 : Nat) : Int), .int .i64 (if a + k ≤ (lst o).length then 0 else 20)] := fun k => by
      unfold getV; split <;> rfl
    have t3 : (if a + s ≤ (lst o).length then Value.tuple #[immN byteE (((lst o).drop a).take s), .int .i64 0] else .tuple #[.slice none 0 0, .int .i64 20]) = .tuple #[immN byteE (if a + s ≤ (lst o).length then ((lst o).drop a).take s else []), .int .i64 (if a + s ≤ (lst o).length then 0 else 20)] := by split <;> rfl
    have t4 : ∃ Q, (if a + s ≤ (lst o).length then Value.tuple #[imm byteE (((lst o).drop a).take s), .int .i64 0] else .tuple #[.slice none 0 0, .int .i64 20]) = .tuple #[Q, .int .i64 (if a + s ≤ (lst o).length then 0 else 20)] ∧ ∀ H, b2sI H Q = some (strV (if a + s ≤ (lst o).length then ((lst o).drop a).take s else []), H) := by
      split
      · exact ⟨_, rfl, fun H => b2sI_imm⟩
      · exact ⟨_, rfl, fun H => b2sI_nil⟩
    obtain ⟨Q, t4, t5⟩ := t4
    rw [t1] at c1 c2
    rw [t2] at c3 d1 d2 d3
    rw [t3] at c4
    rw [t4] at d4
    have w1' : IntKind.u64.wrap ((if a + 2 ≤ (lst o).length then leN (((lst o).drop a).take 2) else 0 : Nat) : Int) = ((if a + 2 ≤ (lst o).length then leN (((lst o).drop a).take 2) else 0 : Nat) : Int) := by split <;> first | exact w1 | exact w0
    have w2' : IntKind.u64.wrap ((if a + 4 ≤ (lst o).length then leN (((lst o).drop a).take 4) else 0 : Nat) : Int) = ((if a + 4 ≤ (lst o).length then leN (((lst o).drop a).take 4) else 0 : Nat) : Int) := by split <;> first | exact w2 | exact w0
    generalize (if a + 2 ≤ (lst o).length then leN (((lst o).drop a).take 2) else 0 : Nat) = n1 at *
    generalize (if a + 4 ≤ (lst o).length then leN (((lst o).drop a).take 4) else 0 : Nat) = n2 at *
    generalize (if a + 8 ≤ (lst o).length then leN (((lst o).drop a).take 8) else 0 : Nat) = n3 at *
    generalize (if a + 2 ≤ (lst o).length then 0 else 20 : Int) = e1 at *
    generalize (if a + 4 ≤ (lst o).length then 0 else 20 : Int) = e2 at *
    generalize (if a + 8 ≤ (lst o).length then 0 else 20 : Int) = e3 at *
    generalize (if a + s ≤ (lst o).length then 0 else 20 : Int) = e4 at *
    generalize (if a + s ≤ (lst o).length then ((lst o).drop a).take s else []) = pl at *
    simp only [F_law02_LeReads, fws, cond_true, cond_false, if_true, if_false, unV, isNil, optI, iV, stepI, evalR, reduceIte, reduceCtorEq, Nat.reduceEqDiff, Int.reduceLT, Int.reduceLE, Int.reduceToNat, Nat.reduceLT, Nat.reduceLeDiff, Int.reduceEq, Int.reduceNeg, IntKind.bits, Nat.reduceAdd, Nat.reduceMul, Nat.reducePow, Int.reducePow, ini, fwh, lk, cellsAt, tagOf, spotOf, rdN, spl, fillL, zr, fwi, F_law02_LeReadsr0_W, F_law02_LeReadsr1_W, F_law02_LeReadsr2_W, F_law02_LeReadsr3_W, F_law02_LeReadsr4_W, F_law02_LeReadsr5_W, F_law02_LeReadsr6_W, F_law02_LeReadsr7_W, F_law02_LeReadsr8_W, F_law02_LeReadsr9_W, F_law02_LeReadsr10_W, F_law02_LeReadsr11_W, F_law02_LeReadsr11_g4, F_law02_LeReadsr11_g9, F_law02_LeReadsr11_g15, F_law02_LeReadsr11_g20, F_law02_LeReadsr11_g25, F_law02_LeReadsr11_g30, F_law02_LeReadsr11_g37, F_law02_LeReadsr11_g42, F_law02_LeReadsc_W, lenI_sl, q, CC_of c1, CC_of c2, CC_of c3, CC_of c4, CC_of d1, CC_of d2, CC_of d3, CC_of d4, w1', w2', b2sI_immN, t5, strEq_self, CC_of le_alive]
  · have q : ((4096 : Int) < (lst o).length) := by omega
    simp only [F_law02_LeReads, fws, cond_true, cond_false, if_true, if_false, unV, isNil, optI, iV, stepI, evalR, reduceIte, reduceCtorEq, Nat.reduceEqDiff, Int.reduceLT, Int.reduceLE, Int.reduceToNat, Nat.reduceLT, Nat.reduceLeDiff, Int.reduceEq, Int.reduceNeg, IntKind.bits, Nat.reduceAdd, Nat.reduceMul, Nat.reducePow, Int.reducePow, ini, fwi, F_law02_LeReadsr0_W, F_law02_LeReadsr1_W, F_law02_LeReadsr2_W, F_law02_LeReadsr3_W, F_law02_LeReadsr4_W, F_law02_LeReadsr5_W, F_law02_LeReadsr6_W, F_law02_LeReadsr7_W, F_law02_LeReadsr8_W, F_law02_LeReadsr9_W, F_law02_LeReadsr10_W, F_law02_LeReadsr11_W, F_law02_LeReadsr11_g4, F_law02_LeReadsr11_g9, F_law02_LeReadsr11_g15, F_law02_LeReadsr11_g20, F_law02_LeReadsr11_g25, F_law02_LeReadsr11_g30, F_law02_LeReadsr11_g37, F_law02_LeReadsr11_g42, F_law02_LeReadsc_W, lenI_sl, q]
end Go.Proofs.Ytleogcfmlpmbiaa
