/- SymsFirst: what is found may be had, and none ahead of it would do. -/
import Derived.Test.YtkhojkdcejmgpaaSymsB
namespace Go.Proofs.Ytkhojkdcejmgpaa
open Go Fw
set_option linter.unusedSimpArgs false
set_option linter.unusedVariables false

theorem sleI_sl1 {α : Type} {E : Enc α} {o : Option (List α)} {n : Nat} (hn : n = E.u) {i : Nat} (hi : i < (lst o).length) (k : IntKind) (H : Heap) :
    sleI H n (slV E o) (some (.int k i)) (some (.int k (i + 1 : Nat))) (some (.int k (i + 1 : Nat))) = some (imm E [(lst o)[i]], H) := by
  cases o with
  | none => simp [lst] at hi
  | some l =>
    simp only [lst_some] at hi ⊢
    rw [show slV E (some l) = imm E l from rfl, sleI_imm (i := i) (j := (i + 1 : Nat)) (k := (i + 1 : Nat)) hn rfl rfl rfl ⟨by omega, by omega, by omega, by omega⟩]
    have h1 : ((i : Int).toNat) = i := by omega
    have h2 : (((i + 1 : Nat) : Int).toNat) - i = 1 := by omega
    rw [h1, h2, List.drop_eq_getElem_cons hi]
    rfl
theorem findI_spec (p : S_api_Sym → Bool) : ∀ (l : List S_api_Sym) (k : Nat), (findI p l k = -1 ∧ ∀ (i : Nat) (h : i < l.length), p l[i] = false) ∨ ∃ (m : Nat) (h : m < l.length), findI p l k = ((k + m : Nat) : Int) ∧ p l[m] = true ∧ ∀ (j : Nat) (_ : j < m), p (l[j]'(by omega)) = false
  | [], k => .inl ⟨rfl, fun i h => by simp at h⟩
  | s :: l, k => by
    cases hs : p s with
    | true => exact .inr ⟨0, by simp, by rw [findI, if_pos hs]; rfl, hs, fun j hj => by omega⟩
    | false =>
      rw [findI, if_neg (by rw [hs]; decide)]
      rcases findI_spec p l (k + 1) with ⟨h1, h2⟩ | ⟨m, h0, h1, h2, h3⟩
      · refine .inl ⟨h1, fun i h => ?_⟩
        cases i with
        | zero => exact hs
        | succ i => exact h2 i (by simpa using h)
      · refine .inr ⟨m + 1, by simpa using h0, by rw [h1]; congr 1; omega, h2, fun j hj => ?_⟩
        cases j with
        | zero => exact hs
        | succ j => exact h3 j (by omega)
theorem findI_one (p : S_api_Sym → Bool) (s : S_api_Sym) : decide (findI p [s] 0 = 0) = p s := by
  cases h : p s <;> simp [findI, h]
abbrev askE (versions : Bool) (name ver : List UInt8) (at_ : Int) : Entry := ⟨0, .cells false 4 [.bool versions, strV name, strV ver, .int .u64 at_]⟩
theorem loop_SymsFirst (o : Option (List S_api_Sym)) (hl : (lst o).length ≤ 1000) (versions : Bool) (name ver : List UInt8) (at_ : Int) (n : Int) (hn : n = findI (okS versions name ver) (lst o) 0) :
    ∀ (m i : Nat) (env : Env), i + m = (lst o).length → env 0 = slV S_api_SymE o → env 3 = .pointer (some ⟨0, 0, none⟩) → env 5 = .int .i64 n → env 6 = .int .i64 i →
    W TSyms (.loop F_law10_SymsFirstl0) env [askE versions name ver at_] fun x e h => x = .exit 0 ∧ e 0 = slV S_api_SymE o ∧ e 3 = .pointer (some ⟨0, 0, none⟩) ∧ e 5 = .int .i64 n ∧ h = [askE versions name ver at_] := by
  intro m
  induction m with
  | zero =>
    intro i env hi v0 v3 v5 v6
    have h1 : ¬ ((i : Int) < (lst o).length) := by omega
    rw [w_loop]
    simp only [fws, cond_true, cond_false, if_true, if_false, unV, isNil, optI, iV, stepI, evalR, reduceIte, reduceCtorEq, Nat.reduceEqDiff, Int.reduceLT, Int.reduceLE, Int.reduceToNat, Nat.reduceLT, Nat.reduceLeDiff, Int.reduceEq, Int.reduceNeg, IntKind.bits, Nat.reduceAdd, Nat.reduceMul, Nat.reducePow, Int.reducePow, ini, F_law10_SymsFirstr0_W, F_law10_SymsFirstr1_W, F_law10_SymsFirstr2_W, F_law10_SymsFirstr3_W, F_law10_SymsFirstr4_W, F_law10_SymsFirstr4_g2, F_law10_SymsFirstr5_W, F_law10_SymsFirstr6_W, F_law10_SymsFirstr7_W, F_law10_SymsFirstr9_W, F_law10_SymsFirstr10_W, F_law10_SymsFirstr10_g1, F_law10_SymsFirstr10_g4, F_law10_SymsFirstr10_g10, F_law10_SymsFirstr10_g14, F_law10_SymsFirstr11_W, F_law10_SymsFirstr8_W, F_law10_SymsFirstl0_W, F_law10_SymsFirstr12_g2, F_law10_SymsFirstr12_g11, F_law10_SymsFirstr12_g18, F_law10_SymsFirstr12_g27, F_law10_SymsFirstr12_W, F_law10_SymsFirstc_W, v0, v3, v5, v6, lenI_sl, h1, and_self]
  | succ m ih =>
    intro i env hi v0 v3 v5 v6
    have h1 : ((i : Int) < (lst o).length) := by omega
    have hix : i < (lst o).length := by omega
    have w2 : IntKind.i64.wrap ((i : Int) + 1) = ((i + 1 : Nat) : Int) := by rw [wrapI64 (by omega) (by omega)]; rfl
    have hs := fun H => sleI_sl1 (E := S_api_SymE) (o := o) (n := 7) rfl hix .i64 H
    have c1 := f_syms_Find (T := TSyms) rfl rfl [(lst o)[i]] (by simp) (imm S_api_SymE [(lst o)[i]]) Src_imm (pure_imm rfl) versions name ver
    have d1 := findI_one (okS versions name ver) (lst o)[i]
    have next : ∀ (env' : Env), env' 0 = slV S_api_SymE o → env' 3 = .pointer (some ⟨0, 0, none⟩) → env' 5 = .int .i64 n → env' 6 = .int .i64 (i + 1 : Nat) →
        W TSyms (.loop F_law10_SymsFirstl0) env' [askE versions name ver at_] fun x e h => x = .exit 0 ∧ e 0 = slV S_api_SymE o ∧ e 3 = .pointer (some ⟨0, 0, none⟩) ∧ e 5 = .int .i64 n ∧ h = [askE versions name ver at_] := fun env' u0 u3 u5 u6 => ih (i + 1) env' (by omega) u0 u3 u5 u6
    have spec := findI_spec (okS versions name ver) (lst o) 0
    rw [← hn] at spec
    rw [w_loop]
    cases hp : okS versions name ver (lst o)[i] with
    | false =>
      have hne : decide ((i : Int) = n) = false := by
        rcases spec with ⟨h2, h3⟩ | ⟨m', h0, h2, h3, h4⟩
        · rw [h2]; simp
        · rw [h2, decide_eq_false_iff_not]
          intro h5
          have : i = m' := by omega
          subst this
          rw [hp] at h3
          cases h3
      rw [hp] at d1
      simp only [fws, cond_true, cond_false, if_true, if_false, unV, isNil, optI, iV, stepI, evalR, reduceIte, reduceCtorEq, Nat.reduceEqDiff, Int.reduceLT, Int.reduceLE, Int.reduceToNat, Nat.reduceLT, Nat.reduceLeDiff, Int.reduceEq, Int.reduceNeg, IntKind.bits, Nat.reduceAdd, Nat.reduceMul, Nat.reducePow, Int.reducePow, ini, fwh, lk, cellsAt, tagOf, spotOf, rdN, spl, fillL, zr, fwi, F_law10_SymsFirstr0_W, F_law10_SymsFirstr1_W, F_law10_SymsFirstr2_W, F_law10_SymsFirstr3_W, F_law10_SymsFirstr4_W, F_law10_SymsFirstr4_g2, F_law10_SymsFirstr5_W, F_law10_SymsFirstr6_W, F_law10_SymsFirstr7_W, F_law10_SymsFirstr9_W, F_law10_SymsFirstr10_W, F_law10_SymsFirstr10_g1, F_law10_SymsFirstr10_g4, F_law10_SymsFirstr10_g10, F_law10_SymsFirstr10_g14, F_law10_SymsFirstr11_W, F_law10_SymsFirstr8_W, F_law10_SymsFirstl0_W, F_law10_SymsFirstr12_g2, F_law10_SymsFirstr12_g11, F_law10_SymsFirstr12_g18, F_law10_SymsFirstr12_g27, F_law10_SymsFirstr12_W, F_law10_SymsFirstc_W, v0, v3, v5, v6, lenI_sl, h1, w2, hs, CC_of c1, d1, hne]
      refine next _ ?_ ?_ ?_ ?_
      all_goals (first | (simp only [fws, cond_true, cond_false, if_true, if_false, unV, isNil, optI, iV, stepI, evalR, reduceIte, reduceCtorEq, Nat.reduceEqDiff, Int.reduceLT, Int.reduceLE, Int.reduceToNat, Nat.reduceLT, Nat.reduceLeDiff, Int.reduceEq, Int.reduceNeg, IntKind.bits, Nat.reduceAdd, Nat.reduceMul, Nat.reducePow, Int.reducePow, ini, *]; done) | (simp only [fws, cond_true, cond_false, if_true, if_false, unV, isNil, optI, iV, stepI, evalR, reduceIte, reduceCtorEq, Nat.reduceEqDiff, Int.reduceLT, Int.reduceLE, Int.reduceToNat, Nat.reduceLT, Nat.reduceLeDiff, Int.reduceEq, Int.reduceNeg, IntKind.bits, Nat.reduceAdd, Nat.reduceMul, Nat.reducePow, Int.reducePow, ini]; rfl))
    | true =>
      rcases spec with ⟨h2, h3⟩ | ⟨m', h0, h2, h3, h4⟩
      · rw [h3 i hix] at hp; cases hp
      · have a1 : ¬ n < 0 := by omega
        have a2 : ¬ (i : Int) < n := by
          intro h5
          have := h4 i (by omega)
          rw [hp] at this
          cases this
        rw [hp] at d1
        by_cases a3 : (i : Int) = n
        · have a3' : decide ((i : Int) = n) = true := by simp [a3]
          simp only [fws, cond_true, cond_false, if_true, if_false, unV, isNil, optI, iV, stepI, evalR, reduceIte, reduceCtorEq, Nat.reduceEqDiff, Int.reduceLT, Int.reduceLE, Int.reduceToNat, Nat.reduceLT, Nat.reduceLeDiff, Int.reduceEq, Int.reduceNeg, IntKind.bits, Nat.reduceAdd, Nat.reduceMul, Nat.reducePow, Int.reducePow, ini, fwh, lk, cellsAt, tagOf, spotOf, rdN, spl, fillL, zr, fwi, F_law10_SymsFirstr0_W, F_law10_SymsFirstr1_W, F_law10_SymsFirstr2_W, F_law10_SymsFirstr3_W, F_law10_SymsFirstr4_W, F_law10_SymsFirstr4_g2, F_law10_SymsFirstr5_W, F_law10_SymsFirstr6_W, F_law10_SymsFirstr7_W, F_law10_SymsFirstr9_W, F_law10_SymsFirstr10_W, F_law10_SymsFirstr10_g1, F_law10_SymsFirstr10_g4, F_law10_SymsFirstr10_g10, F_law10_SymsFirstr10_g14, F_law10_SymsFirstr11_W, F_law10_SymsFirstr8_W, F_law10_SymsFirstl0_W, F_law10_SymsFirstr12_g2, F_law10_SymsFirstr12_g11, F_law10_SymsFirstr12_g18, F_law10_SymsFirstr12_g27, F_law10_SymsFirstr12_W, F_law10_SymsFirstc_W, v0, v3, v5, v6, lenI_sl, h1, w2, hs, CC_of c1, d1, a1, a2, a3']
          refine next _ ?_ ?_ ?_ ?_
          all_goals (first | (simp only [fws, cond_true, cond_false, if_true, if_false, unV, isNil, optI, iV, stepI, evalR, reduceIte, reduceCtorEq, Nat.reduceEqDiff, Int.reduceLT, Int.reduceLE, Int.reduceToNat, Nat.reduceLT, Nat.reduceLeDiff, Int.reduceEq, Int.reduceNeg, IntKind.bits, Nat.reduceAdd, Nat.reduceMul, Nat.reducePow, Int.reducePow, ini, *]; done) | (simp only [fws, cond_true, cond_false, if_true, if_false, unV, isNil, optI, iV, stepI, evalR, reduceIte, reduceCtorEq, Nat.reduceEqDiff, Int.reduceLT, Int.reduceLE, Int.reduceToNat, Nat.reduceLT, Nat.reduceLeDiff, Int.reduceEq, Int.reduceNeg, IntKind.bits, Nat.reduceAdd, Nat.reduceMul, Nat.reducePow, Int.reducePow, ini]; rfl))
        · have a3' : decide ((i : Int) = n) = false := by simp [a3]
          simp only [fws, cond_true, cond_false, if_true, if_false, unV, isNil, optI, iV, stepI, evalR, reduceIte, reduceCtorEq, Nat.reduceEqDiff, Int.reduceLT, Int.reduceLE, Int.reduceToNat, Nat.reduceLT, Nat.reduceLeDiff, Int.reduceEq, Int.reduceNeg, IntKind.bits, Nat.reduceAdd, Nat.reduceMul, Nat.reducePow, Int.reducePow, ini, fwh, lk, cellsAt, tagOf, spotOf, rdN, spl, fillL, zr, fwi, F_law10_SymsFirstr0_W, F_law10_SymsFirstr1_W, F_law10_SymsFirstr2_W, F_law10_SymsFirstr3_W, F_law10_SymsFirstr4_W, F_law10_SymsFirstr4_g2, F_law10_SymsFirstr5_W, F_law10_SymsFirstr6_W, F_law10_SymsFirstr7_W, F_law10_SymsFirstr9_W, F_law10_SymsFirstr10_W, F_law10_SymsFirstr10_g1, F_law10_SymsFirstr10_g4, F_law10_SymsFirstr10_g10, F_law10_SymsFirstr10_g14, F_law10_SymsFirstr11_W, F_law10_SymsFirstr8_W, F_law10_SymsFirstl0_W, F_law10_SymsFirstr12_g2, F_law10_SymsFirstr12_g11, F_law10_SymsFirstr12_g18, F_law10_SymsFirstr12_g27, F_law10_SymsFirstr12_W, F_law10_SymsFirstc_W, v0, v3, v5, v6, lenI_sl, h1, w2, hs, CC_of c1, d1, a1, a2, a3']
          refine next _ ?_ ?_ ?_ ?_
          all_goals (first | (simp only [fws, cond_true, cond_false, if_true, if_false, unV, isNil, optI, iV, stepI, evalR, reduceIte, reduceCtorEq, Nat.reduceEqDiff, Int.reduceLT, Int.reduceLE, Int.reduceToNat, Nat.reduceLT, Nat.reduceLeDiff, Int.reduceEq, Int.reduceNeg, IntKind.bits, Nat.reduceAdd, Nat.reduceMul, Nat.reducePow, Int.reducePow, ini, *]; done) | (simp only [fws, cond_true, cond_false, if_true, if_false, unV, isNil, optI, iV, stepI, evalR, reduceIte, reduceCtorEq, Nat.reduceEqDiff, Int.reduceLT, Int.reduceLE, Int.reduceToNat, Nat.reduceLT, Nat.reduceLeDiff, Int.reduceEq, Int.reduceNeg, IntKind.bits, Nat.reduceAdd, Nat.reduceMul, Nat.reducePow, Int.reducePow, ini]; rfl))
theorem law_SymsFirst (o : Option (List S_api_Sym)) (versions : Bool) (name ver : List UInt8) (at_ : Int) :
    Ev TSyms 5 [slV S_api_SymE o, .agg #[.bool versions, strV name, strV ver, .int .u64 at_]] [] fun v _ => v = .bool true := by
  rw [Ev_fn rfl rfl]
  by_cases hl : (lst o).length ≤ 1000
  · have q1 : ¬ ((1000 : Int) < (lst o).length) := by omega
    have c1 := f_syms_Find (T := TSyms) rfl rfl (lst o) hl (slV S_api_SymE o) Src_sl (pure_sl rfl) versions name ver
    have spec := findI_spec (okS versions name ver) (lst o) 0
    generalize hn : findI (okS versions name ver) (lst o) 0 = n at c1 spec
    have q2 : ¬ n < -1 := by rcases spec with ⟨h2, _⟩ | ⟨m, h0, h2, _⟩ <;> omega
    have q3 : ¬ ((lst o).length : Int) ≤ n := by rcases spec with ⟨h2, _⟩ | ⟨m, h0, h2, _⟩ <;> omega
    simp only [F_law10_SymsFirst, fws, cond_true, cond_false, if_true, if_false, unV, isNil, optI, iV, stepI, evalR, reduceIte, reduceCtorEq, Nat.reduceEqDiff, Int.reduceLT, Int.reduceLE, Int.reduceToNat, Nat.reduceLT, Nat.reduceLeDiff, Int.reduceEq, Int.reduceNeg, IntKind.bits, Nat.reduceAdd, Nat.reduceMul, Nat.reducePow, Int.reducePow, ini, fwh, lk, cellsAt, tagOf, spotOf, rdN, spl, fillL, zr, fwi, F_law10_SymsFirstr0_W, F_law10_SymsFirstr1_W, F_law10_SymsFirstr2_W, F_law10_SymsFirstr3_W, F_law10_SymsFirstr4_W, F_law10_SymsFirstr4_g2, F_law10_SymsFirstr5_W, F_law10_SymsFirstr6_W, F_law10_SymsFirstr7_W, F_law10_SymsFirstr9_W, F_law10_SymsFirstr10_W, F_law10_SymsFirstr10_g1, F_law10_SymsFirstr10_g4, F_law10_SymsFirstr10_g10, F_law10_SymsFirstr10_g14, F_law10_SymsFirstr11_W, F_law10_SymsFirstr8_W, F_law10_SymsFirstl0_W, F_law10_SymsFirstr12_g2, F_law10_SymsFirstr12_g11, F_law10_SymsFirstr12_g18, F_law10_SymsFirstr12_g27, F_law10_SymsFirstr12_W, F_law10_SymsFirstc_W, lenI_sl, q1, CC_of c1, q2, q3]
    refine W.mono (loop_SymsFirst o hl versions name ver at_ n hn.symm (lst o).length 0 _ (Nat.zero_add _) ?_ ?_ ?_ ?_) fun x e h ⟨g1, g2, g3, g4, g5⟩ => ?_
    · (first | (simp only [fws, cond_true, cond_false, if_true, if_false, unV, isNil, optI, iV, stepI, evalR, reduceIte, reduceCtorEq, Nat.reduceEqDiff, Int.reduceLT, Int.reduceLE, Int.reduceToNat, Nat.reduceLT, Nat.reduceLeDiff, Int.reduceEq, Int.reduceNeg, IntKind.bits, Nat.reduceAdd, Nat.reduceMul, Nat.reducePow, Int.reducePow, ini, *]; done) | (simp only [fws, cond_true, cond_false, if_true, if_false, unV, isNil, optI, iV, stepI, evalR, reduceIte, reduceCtorEq, Nat.reduceEqDiff, Int.reduceLT, Int.reduceLE, Int.reduceToNat, Nat.reduceLT, Nat.reduceLeDiff, Int.reduceEq, Int.reduceNeg, IntKind.bits, Nat.reduceAdd, Nat.reduceMul, Nat.reducePow, Int.reducePow, ini]; rfl))
    · (first | (simp only [fws, cond_true, cond_false, if_true, if_false, unV, isNil, optI, iV, stepI, evalR, reduceIte, reduceCtorEq, Nat.reduceEqDiff, Int.reduceLT, Int.reduceLE, Int.reduceToNat, Nat.reduceLT, Nat.reduceLeDiff, Int.reduceEq, Int.reduceNeg, IntKind.bits, Nat.reduceAdd, Nat.reduceMul, Nat.reducePow, Int.reducePow, ini, *]; done) | (simp only [fws, cond_true, cond_false, if_true, if_false, unV, isNil, optI, iV, stepI, evalR, reduceIte, reduceCtorEq, Nat.reduceEqDiff, Int.reduceLT, Int.reduceLE, Int.reduceToNat, Nat.reduceLT, Nat.reduceLeDiff, Int.reduceEq, Int.reduceNeg, IntKind.bits, Nat.reduceAdd, Nat.reduceMul, Nat.reducePow, Int.reducePow, ini]; rfl))
    · (first | (simp only [fws, cond_true, cond_false, if_true, if_false, unV, isNil, optI, iV, stepI, evalR, reduceIte, reduceCtorEq, Nat.reduceEqDiff, Int.reduceLT, Int.reduceLE, Int.reduceToNat, Nat.reduceLT, Nat.reduceLeDiff, Int.reduceEq, Int.reduceNeg, IntKind.bits, Nat.reduceAdd, Nat.reduceMul, Nat.reducePow, Int.reducePow, ini, *]; done) | (simp only [fws, cond_true, cond_false, if_true, if_false, unV, isNil, optI, iV, stepI, evalR, reduceIte, reduceCtorEq, Nat.reduceEqDiff, Int.reduceLT, Int.reduceLE, Int.reduceToNat, Nat.reduceLT, Nat.reduceLeDiff, Int.reduceEq, Int.reduceNeg, IntKind.bits, Nat.reduceAdd, Nat.reduceMul, Nat.reducePow, Int.reducePow, ini]; rfl))
    · (first | (simp only [fws, cond_true, cond_false, if_true, if_false, unV, isNil, optI, iV, stepI, evalR, reduceIte, reduceCtorEq, Nat.reduceEqDiff, Int.reduceLT, Int.reduceLE, Int.reduceToNat, Nat.reduceLT, Nat.reduceLeDiff, Int.reduceEq, Int.reduceNeg, IntKind.bits, Nat.reduceAdd, Nat.reduceMul, Nat.reducePow, Int.reducePow, ini, *]; done) | (simp only [fws, cond_true, cond_false, if_true, if_false, unV, isNil, optI, iV, stepI, evalR, reduceIte, reduceCtorEq, Nat.reduceEqDiff, Int.reduceLT, Int.reduceLE, Int.reduceToNat, Nat.reduceLT, Nat.reduceLeDiff, Int.reduceEq, Int.reduceNeg, IntKind.bits, Nat.reduceAdd, Nat.reduceMul, Nat.reducePow, Int.reducePow, ini]; rfl))
    subst g1; subst g5
    rcases spec with ⟨h2, _⟩ | ⟨m, h0, h2, h3, _⟩
    · subst h2
      simp only [fws, cond_true, cond_false, if_true, if_false, unV, isNil, optI, iV, stepI, evalR, reduceIte, reduceCtorEq, Nat.reduceEqDiff, Int.reduceLT, Int.reduceLE, Int.reduceToNat, Nat.reduceLT, Nat.reduceLeDiff, Int.reduceEq, Int.reduceNeg, IntKind.bits, Nat.reduceAdd, Nat.reduceMul, Nat.reducePow, Int.reducePow, ini, fwh, lk, cellsAt, tagOf, spotOf, rdN, spl, fillL, zr, fwi, F_law10_SymsFirstr0_W, F_law10_SymsFirstr1_W, F_law10_SymsFirstr2_W, F_law10_SymsFirstr3_W, F_law10_SymsFirstr4_W, F_law10_SymsFirstr4_g2, F_law10_SymsFirstr5_W, F_law10_SymsFirstr6_W, F_law10_SymsFirstr7_W, F_law10_SymsFirstr9_W, F_law10_SymsFirstr10_W, F_law10_SymsFirstr10_g1, F_law10_SymsFirstr10_g4, F_law10_SymsFirstr10_g10, F_law10_SymsFirstr10_g14, F_law10_SymsFirstr11_W, F_law10_SymsFirstr8_W, F_law10_SymsFirstl0_W, F_law10_SymsFirstr12_g2, F_law10_SymsFirstr12_g11, F_law10_SymsFirstr12_g18, F_law10_SymsFirstr12_g27, F_law10_SymsFirstr12_W, F_law10_SymsFirstc_W, g2, g3, g4, CC_of syms_alive]
    · rw [Nat.zero_add] at h2
      subst h2
      have a1 : ¬ ((m : Nat) : Int) < 0 := by omega
      have hx := fun H => ix_sl (E := S_api_SymE) (n := 7) rfl h0 .i64 H
      have hat := at_cons (E := S_api_SymE) h0
      rcases hs : (lst o)[m] with ⟨nm, vr, hid, bd, df, vl, sz⟩
      rw [hs] at h3 hat
      have h4 : strEq ⟨nm.toArray⟩ ⟨name.toArray⟩ = true := by rw [strEq_str]; simp [okS] at h3; simp [h3.2.1]
      simp [okS, had] at h3
      obtain ⟨⟨rfl, h5⟩, _⟩ := h3
      simp only [fws, cond_true, cond_false, if_true, if_false, unV, isNil, optI, iV, stepI, evalR, reduceIte, reduceCtorEq, Nat.reduceEqDiff, Int.reduceLT, Int.reduceLE, Int.reduceToNat, Nat.reduceLT, Nat.reduceLeDiff, Int.reduceEq, Int.reduceNeg, IntKind.bits, Nat.reduceAdd, Nat.reduceMul, Nat.reducePow, Int.reducePow, ini, fwh, lk, cellsAt, tagOf, spotOf, rdN, spl, fillL, zr, fwi, F_law10_SymsFirstr0_W, F_law10_SymsFirstr1_W, F_law10_SymsFirstr2_W, F_law10_SymsFirstr3_W, F_law10_SymsFirstr4_W, F_law10_SymsFirstr4_g2, F_law10_SymsFirstr5_W, F_law10_SymsFirstr6_W, F_law10_SymsFirstr7_W, F_law10_SymsFirstr9_W, F_law10_SymsFirstr10_W, F_law10_SymsFirstr10_g1, F_law10_SymsFirstr10_g4, F_law10_SymsFirstr10_g10, F_law10_SymsFirstr10_g14, F_law10_SymsFirstr11_W, F_law10_SymsFirstr8_W, F_law10_SymsFirstl0_W, F_law10_SymsFirstr12_g2, F_law10_SymsFirstr12_g11, F_law10_SymsFirstr12_g18, F_law10_SymsFirstr12_g27, F_law10_SymsFirstr12_W, F_law10_SymsFirstc_W, g2, g3, g4, a1, hx, hat, S_api_SymE_e, h4, h5, CC_of syms_alive]
  · have q1 : ((1000 : Int) < (lst o).length) := by omega
    simp only [F_law10_SymsFirst, fws, cond_true, cond_false, if_true, if_false, unV, isNil, optI, iV, stepI, evalR, reduceIte, reduceCtorEq, Nat.reduceEqDiff, Int.reduceLT, Int.reduceLE, Int.reduceToNat, Nat.reduceLT, Nat.reduceLeDiff, Int.reduceEq, Int.reduceNeg, IntKind.bits, Nat.reduceAdd, Nat.reduceMul, Nat.reducePow, Int.reducePow, ini, fwh, lk, cellsAt, tagOf, spotOf, rdN, spl, fillL, zr, fwi, F_law10_SymsFirstr0_W, F_law10_SymsFirstr1_W, F_law10_SymsFirstr2_W, F_law10_SymsFirstr3_W, F_law10_SymsFirstr4_W, F_law10_SymsFirstr4_g2, F_law10_SymsFirstr5_W, F_law10_SymsFirstr6_W, F_law10_SymsFirstr7_W, F_law10_SymsFirstr9_W, F_law10_SymsFirstr10_W, F_law10_SymsFirstr10_g1, F_law10_SymsFirstr10_g4, F_law10_SymsFirstr10_g10, F_law10_SymsFirstr10_g14, F_law10_SymsFirstr11_W, F_law10_SymsFirstr8_W, F_law10_SymsFirstl0_W, F_law10_SymsFirstr12_g2, F_law10_SymsFirstr12_g11, F_law10_SymsFirstr12_g18, F_law10_SymsFirstr12_g27, F_law10_SymsFirstr12_W, F_law10_SymsFirstc_W, lenI_sl, q1]
end Go.Proofs.Ytkhojkdcejmgpaa
