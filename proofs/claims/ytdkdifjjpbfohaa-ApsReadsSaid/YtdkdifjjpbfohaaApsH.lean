/- Groups of relocations: the document's numbers. -/
import Derived.Test.YtdkdifjjpbfohaaApsG
namespace Go.Proofs.Ytdkdifjjpbfohaa
open Go Fw
set_option linter.unusedSimpArgs false
set_option linter.unusedVariables false
set_option linter.unusedSectionVars false

abbrev I64 : Enc Int := intE .i64
theorem pure_i64 {o : Option (List Int)} : pureV 6 (slV I64 o) = true := pure_sl (E := I64) (o := o) (k := 6) rfl
theorem f_has {T : Tab} (h : T 43 = some F_ref14_has) {f : Nat} (hf : f < 16) : FnV T 43 [.int .i64 f, .int .i64 1] (.bool (b1 f)) ∧ FnV T 43 [.int .i64 f, .int .i64 2] (.bool (b2 f)) ∧ FnV T 43 [.int .i64 f, .int .i64 4] (.bool (b4 f)) ∧ FnV T 43 [.int .i64 f, .int .i64 8] (.bool (b8 f)) := by
  have key : ∀ (b : Nat), 1 ≤ b → b ≤ 8 → FnV T 43 [.int .i64 f, .int .i64 b] (.bool (decide (f / b % 2 = 1))) := fun b hb hb8 => by
    refine FnV_of rfl ?_
    rw [Ev_fn h rfl]
    have hne : ¬ ((b : Int) = 0) := by omega
    have hdl := Nat.div_le_self f b
    have t2 : (f : Int).tdiv b = ((f / b : Nat) : Int) := by rw [tdivN (by omega)]; rfl
    have t3 : IntKind.i64.wrap ((f / b : Nat) : Int) = ((f / b : Nat) : Int) := by
      generalize f / b = D at hdl ⊢
      exact wrapI64 (by omega) (by omega)
    have t1 : ((f / b : Nat) : Int).tmod 2 = ((f / b % 2 : Nat) : Int) := by rw [tmodN (Int.natCast_nonneg _)]; rfl
    have e : decide (((f / b % 2 : Nat) : Int) = 1) = decide (f / b % 2 = 1) := by
      generalize f / b % 2 = D
      by_cases hD : D = 1
      · subst hD; rfl
      · have : ¬ ((D : Int) = 1) := by omega
        simp [this, hD]
    simp only [F_ref14_has, fws, cond_true, cond_false, if_true, if_false, unV, isNil, optI, iV, stepI, evalR, reduceIte, reduceCtorEq, Nat.reduceEqDiff, Int.reduceLT, Int.reduceLE, Int.reduceToNat, Nat.reduceLT, Nat.reduceLeDiff, Int.reduceEq, Int.reduceNeg, IntKind.bits, Nat.reduceAdd, Nat.reduceMul, Nat.reducePow, Int.reducePow, ini, F_ref14_hasr0_W, F_ref14_hasr1_W, F_ref14_hasc_W, F_ref14_hasr0_W, F_ref14_hasr1_W, F_ref14_hasc_W, hne, t2, t3, t1, e]
    rfl
  refine ⟨?_, key 2 (by decide) (by decide), key 4 (by decide) (by decide), key 8 (by decide) (by decide)⟩
  have := key 1 (by decide) (by decide)
  rw [Nat.div_one] at this
  exact this
theorem f_take {T : Tab} (h : T 42 = some F_ref14_take) (o : Option (List Int)) (bad : Bool) :
    ∃ o', lst o' = (tk ⟨lst o, bad⟩).1.N ∧ FnV T 42 [.agg #[slV I64 o, .bool bad]] (.tuple #[.agg #[slV I64 o', .bool (tk ⟨lst o, bad⟩).1.bad], .int .i64 (tk ⟨lst o, bad⟩).2]) := by
  have hp : [Value.agg #[slV I64 o, .bool bad]].all (pureV 6) = true := by
    simp [pure_agg, pure_sl, pure_bool, bltN, intE_d]
  cases ho : lst o with
  | nil =>
    refine ⟨o, by rw [ho]; rfl, FnV_of hp ?_⟩
    rw [Ev_fn h rfl]
    have hlen : ∀ H, lenI H 1 (slV I64 o) = some (.int .i64 0, H) := fun H => by have := lenI_sl (E := I64) (o := o) (H := H); rwa [ho] at this
    simp only [F_ref14_take, fws, cond_true, cond_false, if_true, if_false, unV, isNil, optI, iV, stepI, evalR, reduceIte, reduceCtorEq, Nat.reduceEqDiff, Int.reduceLT, Int.reduceLE, Int.reduceToNat, Nat.reduceLT, Nat.reduceLeDiff, Int.reduceEq, Int.reduceNeg, IntKind.bits, Nat.reduceAdd, Nat.reduceMul, Nat.reducePow, Int.reducePow, ini, fwh, lk, cellsAt, tagOf, spotOf, rdN, spl, fillL, zr, fwi, F_ref14_taker0_W, F_ref14_taker1_W, F_ref14_taker2_W, F_ref14_taker3_W, F_ref14_taker4_W, F_ref14_taker5_W, F_ref14_taker6_W, F_ref14_takec_W, F_ref14_taker0_W, F_ref14_taker1_W, F_ref14_taker2_W, F_ref14_taker3_W, F_ref14_taker4_W, F_ref14_taker5_W, F_ref14_taker6_W, F_ref14_takec_W, hlen, oneC_sl, oneAll_sl]
    show _ = some (Value.tuple #[.agg #[slV I64 o, .bool true], .int .i64 0])
    exact frz_pure (by simp [pure_tup, pure_agg, pure_sl, pure_bool, pure_int, bltN, intE_d])
  | cons n r =>
    have hix : 0 < (lst o).length := by rw [ho]; simp
    have hle : 1 ≤ (lst o).length := hix
    refine ⟨part o 1 (lst o).length, ?_, FnV_of hp ?_⟩
    · rw [lst_part, ho]
      show (r.take _) = r
      exact List.take_of_length_le (by simp)
    rw [Ev_fn h rfl]
    have hlen : ∀ H, lenI H 1 (slV I64 o) = some (.int .i64 (lst o).length, H) := fun H => lenI_sl
    have hx : ∀ H, ixaI H 1 (slV I64 o) (.int .i64 0) = some (atI I64 (lst o) 0, H) := fun H => ix_sl (E := I64) (n := 1) rfl hix .i64 H
    have h0 : (lst o)[0] = n := by simp [ho]
    have hld : ∀ H, loadI H (atI I64 (lst o) 0) = some (.int .i64 n, H) := fun H => by
      rw [at_cons hix, h0]
      rfl
    have hs : ∀ H, sleI H 1 (slV I64 o) (some (.int .i64 1)) none none = some (slV I64 (part o 1 (lst o).length), H) := fun H => sleI_sl (E := I64) (i := 1) (j := (lst o).length) (k := (lst o).length) rfl rfl rfl rfl ⟨hle, Nat.le_refl _, Nat.le_refl _⟩
    have q : ¬ (((lst o).length : Int) = 0) := by omega
    simp only [F_ref14_take, fws, cond_true, cond_false, if_true, if_false, unV, isNil, optI, iV, stepI, evalR, reduceIte, reduceCtorEq, Nat.reduceEqDiff, Int.reduceLT, Int.reduceLE, Int.reduceToNat, Nat.reduceLT, Nat.reduceLeDiff, Int.reduceEq, Int.reduceNeg, IntKind.bits, Nat.reduceAdd, Nat.reduceMul, Nat.reducePow, Int.reducePow, ini, fwh, lk, cellsAt, tagOf, spotOf, rdN, spl, fillL, zr, fwi, F_ref14_taker0_W, F_ref14_taker1_W, F_ref14_taker2_W, F_ref14_taker3_W, F_ref14_taker4_W, F_ref14_taker5_W, F_ref14_taker6_W, F_ref14_takec_W, F_ref14_taker0_W, F_ref14_taker1_W, F_ref14_taker2_W, F_ref14_taker3_W, F_ref14_taker4_W, F_ref14_taker5_W, F_ref14_taker6_W, F_ref14_takec_W, hlen, q, hx, hld, hs, oneC_sl, oneAll_sl, cells_sl]
    show _ = some (Value.tuple #[.agg #[slV I64 (part o 1 (lst o).length), .bool bad], .int .i64 n])
    exact frz_pure (by simp [pure_tup, pure_agg, pure_sl, pure_bool, pure_int, bltN, intE_d])
abbrev nE (l : List UInt8) : Entry := ⟨0, .cells false 2 [imm byteE l, .int .i64 0]⟩
theorem loop_numbers {T : Tab} (h1 : T 36 = some F_ref03_groups) (h2 : T 38 = some F_ref03_bits) (h3 : T 37 = some F_ref03_number) (h4 : T 18 = some F_ref03_S) : ∀ (n : Nat) (l : List UInt8) (A : List Int) (u : Value) (H : Heap) (env : Env), l.length ≤ n → A.length + n ≤ 1000000 → H[0]? = some (nE l) → Own I64 H u A → blkV u ≠ some 0 → env 4 = u → env 5 = .pointer (some ⟨0, 0, none⟩) →
    W T (.loop F_ref14_numbersl0) env H fun x e h => ∃ u', Own I64 h u' (A ++ (nums l.length l).1) ∧ ((x = .ret ∧ e 2 = u' ∧ e 3 = .bool false ∧ (nums l.length l).2 = false) ∨ (x = .exit 0 ∧ e 4 = u' ∧ (nums l.length l).2 = true)) := by
  intro n
  induction n with
  | zero =>
    intro l A u H env hl ho hH hu hb e4 e5
    have : l = [] := List.length_eq_zero_iff.1 (by omega)
    subst this
    rw [w_loop]
    simp only [fws, cond_true, cond_false, if_true, if_false, unV, isNil, optI, iV, stepI, evalR, reduceIte, reduceCtorEq, Nat.reduceEqDiff, Int.reduceLT, Int.reduceLE, Int.reduceToNat, Nat.reduceLT, Nat.reduceLeDiff, Int.reduceEq, Int.reduceNeg, IntKind.bits, Nat.reduceAdd, Nat.reduceMul, Nat.reducePow, Int.reducePow, ini, fwh, lk, cellsAt, tagOf, spotOf, rdN, spl, fillL, zr, fwi, F_ref14_numbersr0_W, F_ref14_numbersr1_W, F_ref14_numbersr2_W, F_ref14_numbersr3_W, F_ref14_numbersr4_W, F_ref14_numbersr5_W, F_ref14_numbersr6_W, F_ref14_numbersr7_W, F_ref14_numbersr8_W, F_ref14_numbersl0_W, F_ref14_numbersr9_W, F_ref14_numbersc_W, F_ref14_numbersr0_W, F_ref14_numbersr1_W, F_ref14_numbersr2_W, F_ref14_numbersr3_W, F_ref14_numbersr4_W, F_ref14_numbersr5_W, F_ref14_numbersr6_W, F_ref14_numbersr7_W, F_ref14_numbersr8_W, F_ref14_numbersl0_W, F_ref14_numbersr9_W, F_ref14_numbersc_W, e4, e5, hH]
    exact ⟨u, by rw [show (nums 0 []).1 = [] from rfl, List.append_nil]; exact hu, .inr ⟨trivial, rfl, rfl⟩⟩
  | succ n ih =>
    intro l A u H env hl ho hH hu hb e4 e5
    have hcl : cellsAt H ⟨0, 0, none⟩ = some [imm byteE l, .int .i64 0] := by simp only [fws, cond_true, cond_false, if_true, if_false, unV, isNil, optI, iV, stepI, evalR, reduceIte, reduceCtorEq, Nat.reduceEqDiff, Int.reduceLT, Int.reduceLE, Int.reduceToNat, Nat.reduceLT, Nat.reduceLeDiff, Int.reduceEq, Int.reduceNeg, IntKind.bits, Nat.reduceAdd, Nat.reduceMul, Nat.reducePow, Int.reducePow, ini, fwh, lk, cellsAt, tagOf, spotOf, rdN, spl, fillL, zr, hH]
    have hk : lk H ⟨0, 0, none⟩ = some (nE l) := by simp only [fws, cond_true, cond_false, if_true, if_false, unV, isNil, optI, iV, stepI, evalR, reduceIte, reduceCtorEq, Nat.reduceEqDiff, Int.reduceLT, Int.reduceLE, Int.reduceToNat, Nat.reduceLT, Nat.reduceLeDiff, Int.reduceEq, Int.reduceNeg, IntKind.bits, Nat.reduceAdd, Nat.reduceMul, Nat.reducePow, Int.reducePow, ini, fwh, lk, cellsAt, tagOf, spotOf, rdN, spl, fillL, zr, hH]
    by_cases hl0 : l = []
    · subst hl0
      rw [w_loop]
      simp only [fws, cond_true, cond_false, if_true, if_false, unV, isNil, optI, iV, stepI, evalR, reduceIte, reduceCtorEq, Nat.reduceEqDiff, Int.reduceLT, Int.reduceLE, Int.reduceToNat, Nat.reduceLT, Nat.reduceLeDiff, Int.reduceEq, Int.reduceNeg, IntKind.bits, Nat.reduceAdd, Nat.reduceMul, Nat.reducePow, Int.reducePow, ini, fwh, lk, cellsAt, tagOf, spotOf, rdN, spl, fillL, zr, fwi, F_ref14_numbersr0_W, F_ref14_numbersr1_W, F_ref14_numbersr2_W, F_ref14_numbersr3_W, F_ref14_numbersr4_W, F_ref14_numbersr5_W, F_ref14_numbersr6_W, F_ref14_numbersr7_W, F_ref14_numbersr8_W, F_ref14_numbersl0_W, F_ref14_numbersr9_W, F_ref14_numbersc_W, F_ref14_numbersr0_W, F_ref14_numbersr1_W, F_ref14_numbersr2_W, F_ref14_numbersr3_W, F_ref14_numbersr4_W, F_ref14_numbersr5_W, F_ref14_numbersr6_W, F_ref14_numbersr7_W, F_ref14_numbersr8_W, F_ref14_numbersl0_W, F_ref14_numbersr9_W, F_ref14_numbersc_W, e4, e5, hH]
      exact ⟨u, by rw [show (nums 0 []).1 = [] from rfl, List.append_nil]; exact hu, .inr ⟨trivial, rfl, rfl⟩⟩
    have hpos : 0 < l.length := by cases l with | nil => exact absurd rfl hl0 | cons => simp
    have q : ((0 : Int) < l.length) := by omega
    have c := f_ref03_S h1 h2 h3 h4 l 0
    rw [if_neg (fun h => h rfl)] at c
    obtain ⟨k, hk1⟩ : ∃ k, l.length = k + 1 := ⟨l.length - 1, by omega⟩
    have hlt := (List.getElem?_eq_some_iff.1 hH).1
    by_cases hf : (sR l).2.2 = 0
    · have hnum : nums l.length l = ((sR l).1 :: (nums (l.drop (sR l).2.1).length (l.drop (sR l).2.1)).1, (nums (l.drop (sR l).2.1).length (l.drop (sR l).2.1)).2) := by
        have hp := sR_pos hf
        rw [hk1, nums, if_neg hl0, if_neg (fun h => h hf), nums_fuel k (l.drop (sR l).2.1).length _ (by rw [List.length_drop]; omega) (Nat.le_refl _)]
      have hp := sR_pos hf
      rw [hf] at c
      have hu1 : Own I64 (H.set 0 (nE (l.drop (sR l).2.1))) u A := hu.keep fun b hb' => List.getElem?_set_ne (fun he => hb (by rw [hb', he]))
      obtain ⟨u', H', a1, a2, a3⟩ := hu1.app (m := [(sR l).1]) (n := 1) (eb := 8) (k := 1) rfl rfl (by simp; omega)
      have a1 : appV 1 8 (H.set 0 (nE (l.drop (sR l).2.1))) u [.int .i64 (sR l).1] 1 = some (u', H') := a1
      have hH' : H'[0]? = some (nE (l.drop (sR l).2.1)) := by rw [a3.same 0 (by rw [List.length_set]; exact hlt) hb]; exact List.getElem?_set_self hlt
      have hb' : blkV u' ≠ some 0 := by
        rcases a3.blk with h | ⟨_, b, h, hb2⟩
        · rw [h]; exact hb
        · rw [h]; intro he; have := Option.some.inj he; rw [List.length_set] at hb2; omega
      have hset := List.getElem?_set_self (a := nE (l.drop (sR l).2.1)) hlt
      rw [w_loop, hnum]
      simp only [fws, cond_true, cond_false, if_true, if_false, unV, isNil, optI, iV, stepI, evalR, reduceIte, reduceCtorEq, Nat.reduceEqDiff, Int.reduceLT, Int.reduceLE, Int.reduceToNat, Nat.reduceLT, Nat.reduceLeDiff, Int.reduceEq, Int.reduceNeg, IntKind.bits, Nat.reduceAdd, Nat.reduceMul, Nat.reducePow, Int.reducePow, ini, fwh, lk, cellsAt, tagOf, spotOf, rdN, spl, fillL, zr, fwi, F_ref14_numbersr0_W, F_ref14_numbersr1_W, F_ref14_numbersr2_W, F_ref14_numbersr3_W, F_ref14_numbersr4_W, F_ref14_numbersr5_W, F_ref14_numbersr6_W, F_ref14_numbersr7_W, F_ref14_numbersr8_W, F_ref14_numbersl0_W, F_ref14_numbersr9_W, F_ref14_numbersc_W, F_ref14_numbersr0_W, F_ref14_numbersr1_W, F_ref14_numbersr2_W, F_ref14_numbersr3_W, F_ref14_numbersr4_W, F_ref14_numbersr5_W, F_ref14_numbersr6_W, F_ref14_numbersr7_W, F_ref14_numbersr8_W, F_ref14_numbersl0_W, F_ref14_numbersr9_W, F_ref14_numbersc_W, e4, e5, hH, q, CC_of c, rdN, spl, lenI_imm, oneC_int, hset, srcOf_immV, a1, List.getElem?_toArray]
      refine W.mono (ih (l.drop (sR l).2.1) (A ++ [(sR l).1]) u' H' _ (by rw [List.length_drop]; omega) (by simp; omega) hH' a2 hb' ?_ ?_) fun x e h ⟨u2, g1, g2⟩ => ⟨u2, by rw [← List.append_cons] at g1; exact g1, g2⟩
      · (first | assumption | rfl)
      · (first | assumption | rfl)
    · have hnum : nums l.length l = ([], false) := by rw [hk1, nums, if_neg hl0, if_pos hf]
      have hset := List.getElem?_set_self (a := (⟨0, .cells false 2 [imm byteE (l.drop (sR l).2.1), .int .i64 (sR l).2.2]⟩ : Entry)) hlt
      rw [w_loop, hnum]
      simp only [fws, cond_true, cond_false, if_true, if_false, unV, isNil, optI, iV, stepI, evalR, reduceIte, reduceCtorEq, Nat.reduceEqDiff, Int.reduceLT, Int.reduceLE, Int.reduceToNat, Nat.reduceLT, Nat.reduceLeDiff, Int.reduceEq, Int.reduceNeg, IntKind.bits, Nat.reduceAdd, Nat.reduceMul, Nat.reducePow, Int.reducePow, ini, fwh, lk, cellsAt, tagOf, spotOf, rdN, spl, fillL, zr, fwi, F_ref14_numbersr0_W, F_ref14_numbersr1_W, F_ref14_numbersr2_W, F_ref14_numbersr3_W, F_ref14_numbersr4_W, F_ref14_numbersr5_W, F_ref14_numbersr6_W, F_ref14_numbersr7_W, F_ref14_numbersr8_W, F_ref14_numbersl0_W, F_ref14_numbersr9_W, F_ref14_numbersc_W, F_ref14_numbersr0_W, F_ref14_numbersr1_W, F_ref14_numbersr2_W, F_ref14_numbersr3_W, F_ref14_numbersr4_W, F_ref14_numbersr5_W, F_ref14_numbersr6_W, F_ref14_numbersr7_W, F_ref14_numbersr8_W, F_ref14_numbersl0_W, F_ref14_numbersr9_W, F_ref14_numbersc_W, e4, e5, hH, q, CC_of c, rdN, spl, lenI_imm, oneC_int, hset, hf, List.getElem?_toArray]
      exact ⟨u, hu.keep fun b hb' => List.getElem?_set_ne (fun he => hb (by rw [hb', he])), .inl ⟨trivial, rfl, trivial, trivial⟩⟩
theorem f_numbers {T : Tab} (h1 : T 36 = some F_ref03_groups) (h2 : T 38 = some F_ref03_bits) (h3 : T 37 = some F_ref03_number) (h4 : T 18 = some F_ref03_S) (h : T 41 = some F_ref14_numbers) (l : List UInt8) (hl : l.length ≤ 100000) :
    ∃ o, lst o = (nums l.length l).1 ∧ FnV T 41 [imm byteE l] (.tuple #[slV I64 o, .bool (nums l.length l).2]) := by
  refine FnV_ex (g := fun o => .tuple #[slV I64 o, .bool (nums l.length l).2]) (by simp [pure_agg, pure_tup, pure_int, pure_bool, pure_string, pure_slN, pure_ptrN, pure_mapN, pure_imm, pure_immN, bltN, byteE_d, intE_d, boolE_d, strE_d]) ?_
  rw [Ev_fn h rfl]
  simp only [F_ref14_numbers, fws, cond_true, cond_false, if_true, if_false, unV, isNil, optI, iV, stepI, evalR, reduceIte, reduceCtorEq, Nat.reduceEqDiff, Int.reduceLT, Int.reduceLE, Int.reduceToNat, Nat.reduceLT, Nat.reduceLeDiff, Int.reduceEq, Int.reduceNeg, IntKind.bits, Nat.reduceAdd, Nat.reduceMul, Nat.reducePow, Int.reducePow, ini, fwh, lk, cellsAt, tagOf, spotOf, rdN, spl, fillL, zr, fwi, F_ref14_numbersr0_W, F_ref14_numbersr1_W, F_ref14_numbersr2_W, F_ref14_numbersr3_W, F_ref14_numbersr4_W, F_ref14_numbersr5_W, F_ref14_numbersr6_W, F_ref14_numbersr7_W, F_ref14_numbersr8_W, F_ref14_numbersl0_W, F_ref14_numbersr9_W, F_ref14_numbersc_W, F_ref14_numbersr0_W, F_ref14_numbersr1_W, F_ref14_numbersr2_W, F_ref14_numbersr3_W, F_ref14_numbersr4_W, F_ref14_numbersr5_W, F_ref14_numbersr6_W, F_ref14_numbersr7_W, F_ref14_numbersr8_W, F_ref14_numbersl0_W, F_ref14_numbersr9_W, F_ref14_numbersc_W, spl, oneC_imm]
  refine W.mono (loop_numbers h1 h2 h3 h4 l.length l [] (.slice none 0 0) _ _ (Nat.le_refl _) (by simp; omega) rfl Own.nil (by rw [blkV_nil]; simp) ?_ ?_) fun x e h ⟨u, g1, g2⟩ => ?_
  · (first | assumption | rfl)
  · (first | assumption | rfl)
  rw [List.nil_append] at g1
  obtain ⟨o, p1, p2⟩ := Own.frzE g1 (k := 6) (by decide)
  rcases g2 with ⟨rfl, e2, e3, e4⟩ | ⟨rfl, e2, e4⟩
  · simp only [fws, cond_true, cond_false, if_true, if_false, unV, isNil, optI, iV, stepI, evalR, reduceIte, reduceCtorEq, Nat.reduceEqDiff, Int.reduceLT, Int.reduceLE, Int.reduceToNat, Nat.reduceLT, Nat.reduceLeDiff, Int.reduceEq, Int.reduceNeg, IntKind.bits, Nat.reduceAdd, Nat.reduceMul, Nat.reducePow, Int.reducePow, ini, F_ref14_numbersr0_W, F_ref14_numbersr1_W, F_ref14_numbersr2_W, F_ref14_numbersr3_W, F_ref14_numbersr4_W, F_ref14_numbersr5_W, F_ref14_numbersr6_W, F_ref14_numbersr7_W, F_ref14_numbersr8_W, F_ref14_numbersl0_W, F_ref14_numbersr9_W, F_ref14_numbersc_W, F_ref14_numbersr0_W, F_ref14_numbersr1_W, F_ref14_numbersr2_W, F_ref14_numbersr3_W, F_ref14_numbersr4_W, F_ref14_numbersr5_W, F_ref14_numbersr6_W, F_ref14_numbersr7_W, F_ref14_numbersr8_W, F_ref14_numbersl0_W, F_ref14_numbersr9_W, F_ref14_numbersc_W, e2, e3]
    exact ⟨o, p1, by rw [e4]; exact frz_t2 p2 (frz_pure rfl)⟩
  · simp only [fws, cond_true, cond_false, if_true, if_false, unV, isNil, optI, iV, stepI, evalR, reduceIte, reduceCtorEq, Nat.reduceEqDiff, Int.reduceLT, Int.reduceLE, Int.reduceToNat, Nat.reduceLT, Nat.reduceLeDiff, Int.reduceEq, Int.reduceNeg, IntKind.bits, Nat.reduceAdd, Nat.reduceMul, Nat.reducePow, Int.reducePow, ini, F_ref14_numbersr0_W, F_ref14_numbersr1_W, F_ref14_numbersr2_W, F_ref14_numbersr3_W, F_ref14_numbersr4_W, F_ref14_numbersr5_W, F_ref14_numbersr6_W, F_ref14_numbersr7_W, F_ref14_numbersr8_W, F_ref14_numbersl0_W, F_ref14_numbersr9_W, F_ref14_numbersc_W, F_ref14_numbersr0_W, F_ref14_numbersr1_W, F_ref14_numbersr2_W, F_ref14_numbersr3_W, F_ref14_numbersr4_W, F_ref14_numbersr5_W, F_ref14_numbersr6_W, F_ref14_numbersr7_W, F_ref14_numbersr8_W, F_ref14_numbersl0_W, F_ref14_numbersr9_W, F_ref14_numbersc_W, e2]
    exact ⟨o, p1, by rw [e4]; exact frz_t2 p2 (frz_pure rfl)⟩
/-- The document's state: the numbers that are left at block 0, the list somewhere. -/
abbrev lE (o : Option (List Int)) (bad : Bool) : Entry := ⟨0, .cells false 2 [slV I64 o, .bool bad]⟩
structure DSt (H : Heap) (g : GS) (u : Value) : Prop where
  st : ∃ o, lst o = g.s.N ∧ H[0]? = some (lE o g.s.bad)
  own : Own RelE H u g.out
  n0 : blkV u ≠ some 0
section
variable {H : Heap} {g : GS} {u : Value}
theorem DSt.take {T : Tab} (h : T 42 = some F_ref14_take) (t : DSt H g u) : ∃ o o', H[0]? = some (lE o g.s.bad) ∧ FnV T 42 [.agg #[slV I64 o, .bool g.s.bad]] (.tuple #[.agg #[slV I64 o', .bool (tk g.s).1.bad], .int .i64 (tk g.s).2]) ∧ DSt (H.set 0 (lE o' (tk g.s).1.bad)) ⟨(tk g.s).1, g.at_, g.add, g.out⟩ u := by
  obtain ⟨o, h1, h2⟩ := t.st
  obtain ⟨o', p1, p2⟩ := f_take h o g.s.bad
  rw [h1] at p1 p2
  exact ⟨o, o', h2, p2, ⟨o', p1, List.getElem?_set_self (List.getElem?_eq_some_iff.1 h2).1⟩, t.own.keep fun b hb => List.getElem?_set_ne (fun he => t.n0 (by rw [hb, he])), t.n0⟩
theorem DSt.to (t : DSt H g u) (a b : Int) : DSt H ⟨g.s, a, b, g.out⟩ u := ⟨t.st, t.own, t.n0⟩
theorem DSt.app (t : DSt H g u) (hout : g.out.length ≤ 100000) (r : S_api_Rel) : ∃ u' H', appV 5 32 (H ++ [⟨0, .cells false 5 (RelE.e r)⟩]) u (RelE.e r) 1 = some (u', H') ∧ DSt H' ⟨g.s, g.at_, g.add, g.out ++ [r]⟩ u' := by
  obtain ⟨o, h1, h2⟩ := t.st
  have hlt := (List.getElem?_eq_some_iff.1 h2).1
  obtain ⟨u', H', p1, p2, p3⟩ := (t.own.mono [⟨0, .cells false 5 (RelE.e r)⟩]).app (m := [r]) (n := 5) (eb := 32) (k := 1) rfl rfl (by simp; omega)
  refine ⟨u', H', p1, ⟨o, h1, ?_⟩, p2, ?_⟩
  · rw [p3.same 0 (by simp) t.n0, List.getElem?_append_left hlt]; exact h2
  · rcases p3.blk with h | ⟨_, b, h, hb2⟩
    · rw [h]; exact t.n0
    · rw [h]; intro he; have := Option.some.inj he; rw [List.length_append] at hb2; omega
end
end Go.Proofs.Ytdkdifjjpbfohaa
