/- The document's relocations, read; which lists are the same. -/
import Derived.Test.YtleogcfmlpmbiaaRelsA
namespace Go.Proofs.Ytleogcfmlpmbiaa
open Go Fw
set_option linter.unusedSimpArgs false
set_option linter.unusedVariables false

theorem f_ref08_N {T : Tab} (h0 : T 37 = some F_ref02_Get) (h : T 56 = some F_ref08_N) (l : List UInt8) (v : Value) (hv : Src byteE v l) (hp : pureV 6 v = true) (hl : l.length ≤ 100000) (a k : Nat) (hk : 1 ≤ k ∧ k ≤ 8) (hak : a + k ≤ l.length) :
    FnV T 56 [v, .int .u64 a, .int .i64 k] (.int .u64 (leN ((l.drop a).take k))) := by
  refine FnV_of (by simp [pure_int, hp]) ?_
  rw [Ev_fn h rfl]
  have c1 := f_ref02_Get h0 l v hv hp hl a k (by omega) hk
  unfold getV at c1
  rw [if_pos hak] at c1
  simp only [F_ref08_N, fws, cond_true, cond_false, if_true, if_false, unV, isNil, optI, iV, stepI, evalR, reduceIte, reduceCtorEq, Nat.reduceEqDiff, Int.reduceLT, Int.reduceLE, Int.reduceToNat, Nat.reduceLT, Nat.reduceLeDiff, Int.reduceEq, Int.reduceNeg, IntKind.bits, Nat.reduceAdd, Nat.reduceMul, Nat.reducePow, Int.reducePow, ini, F_ref08_Nr0_W, F_ref08_Nr1_W, F_ref08_Nr2_W, F_ref08_Nc_W, CC_of c1, List.getElem?_cons_zero, List.getElem?_cons_succ, List.getElem?_toArray]
  rfl
section
variable {T : Tab} (h0 : T 37 = some F_ref02_Get) (h1 : T 56 = some F_ref08_N) (l : List UInt8) (v : Value) (hv : Src byteE v l) (hp : pureV 6 v = true) (hl : l.length ≤ 20000)
include h0 h1 hv hp hl
theorem loop_ref12_Decode (rela : Bool) (n : Nat) (hn : l.length = n * oneN rela) (h512 : n ≤ 512) : ∀ (m i : Nat) (u : Value) (H : Heap) (env : Env), i + m = n → Own RelE H u (decN rela l i) → env 0 = v → env 1 = .bool rela → env 6 = .int .u64 (oneN rela) → env 7 = .int .u64 n → env 8 = u → env 9 = .int .u64 i →
    W T (.loop F_ref12_Decodel0) env H fun x e h => x = .exit 0 ∧ Own RelE h (e 8) (decN rela l n) := by
  have h24 : oneN rela ≤ 24 ∧ 16 ≤ oneN rela := by unfold oneN; cases rela <;> decide
  intro m
  induction m with
  | zero =>
    intro i u H env hi ho e0 e1 e6 e7 e8 e9
    have : i = n := by omega
    subst this
    have q : ¬ ((i : Int) < i) := by omega
    rw [w_loop]
    simp only [fws, cond_true, cond_false, if_true, if_false, unV, isNil, optI, iV, stepI, evalR, reduceIte, reduceCtorEq, Nat.reduceEqDiff, Int.reduceLT, Int.reduceLE, Int.reduceToNat, Nat.reduceLT, Nat.reduceLeDiff, Int.reduceEq, Int.reduceNeg, IntKind.bits, Nat.reduceAdd, Nat.reduceMul, Nat.reducePow, Int.reducePow, ini, fwi, F_ref12_Decoder0_W, F_ref12_Decoder1_W, F_ref12_Decoder2_W, F_ref12_Decoder3_W, F_ref12_Decoder4_W, F_ref12_Decoder5_W, F_ref12_Decoder5_g7, F_ref12_Decoder6_W, F_ref12_Decoder7_W, F_ref12_Decoder8_W, F_ref12_Decoder9_W, F_ref12_Decoder11_W, F_ref12_Decoder12_W, F_ref12_Decoder13_W, F_ref12_Decoder14_W, F_ref12_Decoder10_W, F_ref12_Decodel0_W, F_ref12_Decoder15_W, F_ref12_Decodec_W, e0, e1, e6, e7, e8, e9, q]
    exact ⟨trivial, ho⟩
  | succ m ih =>
    intro i u H env hi ho e0 e1 e6 e7 e8 e9
    have q : ((i : Int) < n) := by omega
    have hmul : (i + 1) * oneN rela ≤ n * oneN rela := Nat.mul_le_mul_right _ (by omega)
    have hmul2 : (i + 1) * oneN rela = i * oneN rela + oneN rela := Nat.succ_mul ..
    have hdec : decN rela l (i + 1) = decN rela l i ++ [decR rela l (i * oneN rela)] := rfl
    have hlen := decN_len rela l i
    have wA : IntKind.u64.wrap ((i : Int) * (oneN rela : Nat)) = ((i * oneN rela : Nat) : Int) := by
      have : (i : Int) * (oneN rela : Nat) = ((i * oneN rela : Nat) : Int) := (Int.natCast_mul ..).symm
      rw [this]
      generalize i * oneN rela = A at *
      rw [wrap_u64]; omega
    generalize hA : i * oneN rela = A at *
    have w8 : IntKind.u64.wrap ((A : Int) + 8) = ((A + 8 : Nat) : Int) := by rw [wrap_u64]; omega
    have w12 : IntKind.u64.wrap ((A : Int) + 12) = ((A + 12 : Nat) : Int) := by rw [wrap_u64]; omega
    have w16 : IntKind.u64.wrap ((A : Int) + 16) = ((A + 16 : Nat) : Int) := by rw [wrap_u64]; omega
    have wn : IntKind.u64.wrap ((i : Int) + 1) = ((i + 1 : Nat) : Int) := by rw [wrap_u64]; omega
    have t4 : ∀ a, IntKind.u32.wrap (leN ((l.drop a).take 4) : Int) = (leN ((l.drop a).take 4) : Int) := fun a => by
      have := leN_take (l := l) (a := a) (k := 4) (by decide)
      rw [wrap_u32]; omega
    have c1 : FnV T 56 [v, .int .u64 A, .int .i64 8] _ := f_ref08_N h0 h1 l v hv hp (by omega) A 8 ⟨by decide, by decide⟩ (by omega)
    have c2 : FnV T 56 [v, .int .u64 (A + 8 : Nat), .int .i64 4] _ := f_ref08_N h0 h1 l v hv hp (by omega) (A + 8) 4 ⟨by decide, by decide⟩ (by omega)
    have c3 : FnV T 56 [v, .int .u64 (A + 12 : Nat), .int .i64 4] _ := f_ref08_N h0 h1 l v hv hp (by omega) (A + 12) 4 ⟨by decide, by decide⟩ (by omega)
    cases hr : rela with
    | false =>
      subst hr
      obtain ⟨v', H', a1, a2, a3⟩ := (ho.mono [⟨0, .cells false 5 (RelE.e (decR false l A))⟩]).app (m := [decR false l A]) (n := 5) (eb := 32) (k := 1) rfl rfl (by simp; omega)
      have a1 : appV 5 32 (H ++ [⟨0, .cells false 5 [.int .u64 (leN ((l.drop A).take 8)), .int .u32 (leN ((l.drop (A + 8)).take 4)), .int .u32 (leN ((l.drop (A + 12)).take 4)), .int .i64 0, .bool false]⟩]) u [.int .u64 (leN ((l.drop A).take 8)), .int .u32 (leN ((l.drop (A + 8)).take 4)), .int .u32 (leN ((l.drop (A + 12)).take 4)), .int .i64 0, .bool false] 1 = some (v', H') := a1
      rw [w_loop]
      simp only [fws, cond_true, cond_false, if_true, if_false, unV, isNil, optI, iV, stepI, evalR, reduceIte, reduceCtorEq, Nat.reduceEqDiff, Int.reduceLT, Int.reduceLE, Int.reduceToNat, Nat.reduceLT, Nat.reduceLeDiff, Int.reduceEq, Int.reduceNeg, IntKind.bits, Nat.reduceAdd, Nat.reduceMul, Nat.reducePow, Int.reducePow, ini, fwh, lk, cellsAt, tagOf, spotOf, rdN, spl, fillL, zr, fwi, F_ref12_Decoder0_W, F_ref12_Decoder1_W, F_ref12_Decoder2_W, F_ref12_Decoder3_W, F_ref12_Decoder4_W, F_ref12_Decoder5_W, F_ref12_Decoder5_g7, F_ref12_Decoder6_W, F_ref12_Decoder7_W, F_ref12_Decoder8_W, F_ref12_Decoder9_W, F_ref12_Decoder11_W, F_ref12_Decoder12_W, F_ref12_Decoder13_W, F_ref12_Decoder14_W, F_ref12_Decoder10_W, F_ref12_Decodel0_W, F_ref12_Decoder15_W, F_ref12_Decodec_W, e0, e1, e6, e7, e8, e9, q, wA, w8, w12, w16, wn, CC_of c1, CC_of c2, CC_of c3, t4, srcOf_immV, a1]
      refine ih (i + 1) v' H' _ (by omega) (by rw [hdec]; exact a2) ?_ ?_ ?_ ?_ ?_ ?_
      all_goals (first | (simp only [fws, cond_true, cond_false, if_true, if_false, unV, isNil, optI, iV, stepI, evalR, reduceIte, reduceCtorEq, Nat.reduceEqDiff, Int.reduceLT, Int.reduceLE, Int.reduceToNat, Nat.reduceLT, Nat.reduceLeDiff, Int.reduceEq, Int.reduceNeg, IntKind.bits, Nat.reduceAdd, Nat.reduceMul, Nat.reducePow, Int.reducePow, ini, *]; done) | (simp only [fws, cond_true, cond_false, if_true, if_false, unV, isNil, optI, iV, stepI, evalR, reduceIte, reduceCtorEq, Nat.reduceEqDiff, Int.reduceLT, Int.reduceLE, Int.reduceToNat, Nat.reduceLT, Nat.reduceLeDiff, Int.reduceEq, Int.reduceNeg, IntKind.bits, Nat.reduceAdd, Nat.reduceMul, Nat.reducePow, Int.reducePow, ini]; rfl))
    | true =>
      subst hr
      have h24 : oneN true = 24 := rfl
      have c4 : FnV T 56 [v, .int .u64 (A + 16 : Nat), .int .i64 8] _ := f_ref08_N h0 h1 l v hv hp (by omega) (A + 16) 8 ⟨by decide, by decide⟩ (by omega)
      obtain ⟨v', H', a1, a2, a3⟩ := (ho.mono [⟨0, .cells false 5 (RelE.e (decR true l A))⟩]).app (m := [decR true l A]) (n := 5) (eb := 32) (k := 1) rfl rfl (by simp; omega)
      have a1 : appV 5 32 (H ++ [⟨0, .cells false 5 [.int .u64 (leN ((l.drop A).take 8)), .int .u32 (leN ((l.drop (A + 8)).take 4)), .int .u32 (leN ((l.drop (A + 12)).take 4)), .int .i64 (IntKind.i64.wrap (leN ((l.drop (A + 16)).take 8))), .bool true]⟩]) u [.int .u64 (leN ((l.drop A).take 8)), .int .u32 (leN ((l.drop (A + 8)).take 4)), .int .u32 (leN ((l.drop (A + 12)).take 4)), .int .i64 (IntKind.i64.wrap (leN ((l.drop (A + 16)).take 8))), .bool true] 1 = some (v', H') := a1
      rw [w_loop]
      simp only [fws, cond_true, cond_false, if_true, if_false, unV, isNil, optI, iV, stepI, evalR, reduceIte, reduceCtorEq, Nat.reduceEqDiff, Int.reduceLT, Int.reduceLE, Int.reduceToNat, Nat.reduceLT, Nat.reduceLeDiff, Int.reduceEq, Int.reduceNeg, IntKind.bits, Nat.reduceAdd, Nat.reduceMul, Nat.reducePow, Int.reducePow, ini, fwh, lk, cellsAt, tagOf, spotOf, rdN, spl, fillL, zr, fwi, F_ref12_Decoder0_W, F_ref12_Decoder1_W, F_ref12_Decoder2_W, F_ref12_Decoder3_W, F_ref12_Decoder4_W, F_ref12_Decoder5_W, F_ref12_Decoder5_g7, F_ref12_Decoder6_W, F_ref12_Decoder7_W, F_ref12_Decoder8_W, F_ref12_Decoder9_W, F_ref12_Decoder11_W, F_ref12_Decoder12_W, F_ref12_Decoder13_W, F_ref12_Decoder14_W, F_ref12_Decoder10_W, F_ref12_Decodel0_W, F_ref12_Decoder15_W, F_ref12_Decodec_W, e0, e1, e6, e7, e8, e9, q, wA, w8, w12, w16, wn, CC_of c1, CC_of c2, CC_of c3, CC_of c4, t4, srcOf_immV, a1]
      refine ih (i + 1) v' H' _ (by omega) (by rw [hdec]; exact a2) ?_ ?_ ?_ ?_ ?_ ?_
      all_goals (first | (simp only [fws, cond_true, cond_false, if_true, if_false, unV, isNil, optI, iV, stepI, evalR, reduceIte, reduceCtorEq, Nat.reduceEqDiff, Int.reduceLT, Int.reduceLE, Int.reduceToNat, Nat.reduceLT, Nat.reduceLeDiff, Int.reduceEq, Int.reduceNeg, IntKind.bits, Nat.reduceAdd, Nat.reduceMul, Nat.reducePow, Int.reducePow, ini, *]; done) | (simp only [fws, cond_true, cond_false, if_true, if_false, unV, isNil, optI, iV, stepI, evalR, reduceIte, reduceCtorEq, Nat.reduceEqDiff, Int.reduceLT, Int.reduceLE, Int.reduceToNat, Nat.reduceLT, Nat.reduceLeDiff, Int.reduceEq, Int.reduceNeg, IntKind.bits, Nat.reduceAdd, Nat.reduceMul, Nat.reducePow, Int.reducePow, ini]; rfl))
theorem f_ref12_Decode (h : T 43 = some F_ref12_Decode) (rela : Bool) : ∃ o, lst o = decs rela l ∧ FnV T 43 [v, .bool rela] (.tuple #[slV RelE o, .int .i64 (decC rela l)]) := by
  refine FnV_ex (g := fun o => .tuple #[slV RelE o, .int .i64 (decC rela l)]) (by simp [pure_bool, hp]) ?_
  rw [Ev_fn h rfl]
  have h24 : oneN rela ≤ 24 ∧ 16 ≤ oneN rela := by unfold oneN; cases rela <;> decide
  have hmd := Nat.div_add_mod l.length (oneN rela)
  have hdl := Nat.le_trans (Nat.div_le_self l.length (oneN rela)) hl
  have hml := Nat.mod_lt l.length (show oneN rela > 0 by omega)
  have hne : ¬ ((oneN rela : Int) = 0) := by omega
  have wl : IntKind.u64.wrap (l.length : Int) = l.length := by rw [wrap_u64]; omega
  have t2 : (l.length : Int).tdiv (oneN rela) = ((l.length / oneN rela : Nat) : Int) := by rw [tdivN (by omega)]; rfl
  have t3 : IntKind.u64.wrap ((l.length / oneN rela : Nat) : Int) = ((l.length / oneN rela : Nat) : Int) := by
    generalize l.length / oneN rela = D at hdl ⊢
    rw [wrap_u64]; omega
  have hmul : oneN rela * (l.length / oneN rela) = l.length / oneN rela * oneN rela := Nat.mul_comm ..
  rw [hmul] at hmd
  have t4 : IntKind.u64.wrap (((l.length / oneN rela : Nat) : Int) * (oneN rela : Nat)) = ((l.length / oneN rela * oneN rela : Nat) : Int) := by
    have : ((l.length / oneN rela : Nat) : Int) * (oneN rela : Nat) = ((l.length / oneN rela * oneN rela : Nat) : Int) := (Int.natCast_mul ..).symm
    rw [this]
    generalize l.length / oneN rela * oneN rela = D at *
    rw [wrap_u64]; omega
  have main : ∀ (env : Env), env 0 = v → env 1 = .bool rela → env 6 = .int .u64 (oneN rela) →
      W T (.reg F_ref12_Decoder4) env [] (seqQ T (.seq (.seq (.reg F_ref12_Decoder5) (.cond (.t 27) (.seq (.reg F_ref12_Decoder6) .ret) .skip)) (.seq (.reg F_ref12_Decoder7) (.seq (.seq (.reg F_ref12_Decoder8) (.block 0 (.loop F_ref12_Decodel0))) (.seq (.reg F_ref12_Decoder15) .ret)))) (retQ [.tmp 4, .tmp 5] fun u h => ∃ o, lst o = decs rela l ∧ frz 8 h u = some (.tuple #[slV RelE o, .int .i64 (decC rela l)]))) := by
    intro env e0 e1 e6
    by_cases q1 : l.length % oneN rela = 0
    · have q1' : ((l.length / oneN rela * oneN rela : Nat) : Int) = l.length := by omega
      by_cases q2 : l.length / oneN rela ≤ 512
      · have ok : decOk rela l := ⟨q1, q2⟩
        have q2' : ¬ (512 < ((l.length / oneN rela : Nat) : Int)) := by omega
        simp only [fws, cond_true, cond_false, if_true, if_false, unV, isNil, optI, iV, stepI, evalR, reduceIte, reduceCtorEq, Nat.reduceEqDiff, Int.reduceLT, Int.reduceLE, Int.reduceToNat, Nat.reduceLT, Nat.reduceLeDiff, Int.reduceEq, Int.reduceNeg, IntKind.bits, Nat.reduceAdd, Nat.reduceMul, Nat.reducePow, Int.reducePow, ini, fwi, F_ref12_Decoder0_W, F_ref12_Decoder1_W, F_ref12_Decoder2_W, F_ref12_Decoder3_W, F_ref12_Decoder4_W, F_ref12_Decoder5_W, F_ref12_Decoder5_g7, F_ref12_Decoder6_W, F_ref12_Decoder7_W, F_ref12_Decoder8_W, F_ref12_Decoder9_W, F_ref12_Decoder11_W, F_ref12_Decoder12_W, F_ref12_Decoder13_W, F_ref12_Decoder14_W, F_ref12_Decoder10_W, F_ref12_Decodel0_W, F_ref12_Decoder15_W, F_ref12_Decodec_W, e0, e1, e6, hv.1, hne, wl, t2, t3, t4, q1', q2']
        refine W.mono (loop_ref12_Decode h0 h1 l v hv hp hl rela (l.length / oneN rela) (by omega) q2 (l.length / oneN rela) 0 (.slice none 0 0) _ _ (Nat.zero_add _) Own.nil ?_ ?_ ?_ ?_ ?_ ?_) fun x e h ⟨g1, g2⟩ => ?_
        · (first | (simp only [fws, cond_true, cond_false, if_true, if_false, unV, isNil, optI, iV, stepI, evalR, reduceIte, reduceCtorEq, Nat.reduceEqDiff, Int.reduceLT, Int.reduceLE, Int.reduceToNat, Nat.reduceLT, Nat.reduceLeDiff, Int.reduceEq, Int.reduceNeg, IntKind.bits, Nat.reduceAdd, Nat.reduceMul, Nat.reducePow, Int.reducePow, ini, *]; done) | (simp only [fws, cond_true, cond_false, if_true, if_false, unV, isNil, optI, iV, stepI, evalR, reduceIte, reduceCtorEq, Nat.reduceEqDiff, Int.reduceLT, Int.reduceLE, Int.reduceToNat, Nat.reduceLT, Nat.reduceLeDiff, Int.reduceEq, Int.reduceNeg, IntKind.bits, Nat.reduceAdd, Nat.reduceMul, Nat.reducePow, Int.reducePow, ini]; rfl))
        · (first | (simp only [fws, cond_true, cond_false, if_true, if_false, unV, isNil, optI, iV, stepI, evalR, reduceIte, reduceCtorEq, Nat.reduceEqDiff, Int.reduceLT, Int.reduceLE, Int.reduceToNat, Nat.reduceLT, Nat.reduceLeDiff, Int.reduceEq, Int.reduceNeg, IntKind.bits, Nat.reduceAdd, Nat.reduceMul, Nat.reducePow, Int.reducePow, ini, *]; done) | (simp only [fws, cond_true, cond_false, if_true, if_false, unV, isNil, optI, iV, stepI, evalR, reduceIte, reduceCtorEq, Nat.reduceEqDiff, Int.reduceLT, Int.reduceLE, Int.reduceToNat, Nat.reduceLT, Nat.reduceLeDiff, Int.reduceEq, Int.reduceNeg, IntKind.bits, Nat.reduceAdd, Nat.reduceMul, Nat.reducePow, Int.reducePow, ini]; rfl))
        · (first | (simp only [fws, cond_true, cond_false, if_true, if_false, unV, isNil, optI, iV, stepI, evalR, reduceIte, reduceCtorEq, Nat.reduceEqDiff, Int.reduceLT, Int.reduceLE, Int.reduceToNat, Nat.reduceLT, Nat.reduceLeDiff, Int.reduceEq, Int.reduceNeg, IntKind.bits, Nat.reduceAdd, Nat.reduceMul, Nat.reducePow, Int.reducePow, ini, *]; done) | (simp only [fws, cond_true, cond_false, if_true, if_false, unV, isNil, optI, iV, stepI, evalR, reduceIte, reduceCtorEq, Nat.reduceEqDiff, Int.reduceLT, Int.reduceLE, Int.reduceToNat, Nat.reduceLT, Nat.reduceLeDiff, Int.reduceEq, Int.reduceNeg, IntKind.bits, Nat.reduceAdd, Nat.reduceMul, Nat.reducePow, Int.reducePow, ini]; rfl))
        · (first | (simp only [fws, cond_true, cond_false, if_true, if_false, unV, isNil, optI, iV, stepI, evalR, reduceIte, reduceCtorEq, Nat.reduceEqDiff, Int.reduceLT, Int.reduceLE, Int.reduceToNat, Nat.reduceLT, Nat.reduceLeDiff, Int.reduceEq, Int.reduceNeg, IntKind.bits, Nat.reduceAdd, Nat.reduceMul, Nat.reducePow, Int.reducePow, ini, *]; done) | (simp only [fws, cond_true, cond_false, if_true, if_false, unV, isNil, optI, iV, stepI, evalR, reduceIte, reduceCtorEq, Nat.reduceEqDiff, Int.reduceLT, Int.reduceLE, Int.reduceToNat, Nat.reduceLT, Nat.reduceLeDiff, Int.reduceEq, Int.reduceNeg, IntKind.bits, Nat.reduceAdd, Nat.reduceMul, Nat.reducePow, Int.reducePow, ini]; rfl))
        · (first | (simp only [fws, cond_true, cond_false, if_true, if_false, unV, isNil, optI, iV, stepI, evalR, reduceIte, reduceCtorEq, Nat.reduceEqDiff, Int.reduceLT, Int.reduceLE, Int.reduceToNat, Nat.reduceLT, Nat.reduceLeDiff, Int.reduceEq, Int.reduceNeg, IntKind.bits, Nat.reduceAdd, Nat.reduceMul, Nat.reducePow, Int.reducePow, ini, *]; done) | (simp only [fws, cond_true, cond_false, if_true, if_false, unV, isNil, optI, iV, stepI, evalR, reduceIte, reduceCtorEq, Nat.reduceEqDiff, Int.reduceLT, Int.reduceLE, Int.reduceToNat, Nat.reduceLT, Nat.reduceLeDiff, Int.reduceEq, Int.reduceNeg, IntKind.bits, Nat.reduceAdd, Nat.reduceMul, Nat.reducePow, Int.reducePow, ini]; rfl))
        · (first | (simp only [fws, cond_true, cond_false, if_true, if_false, unV, isNil, optI, iV, stepI, evalR, reduceIte, reduceCtorEq, Nat.reduceEqDiff, Int.reduceLT, Int.reduceLE, Int.reduceToNat, Nat.reduceLT, Nat.reduceLeDiff, Int.reduceEq, Int.reduceNeg, IntKind.bits, Nat.reduceAdd, Nat.reduceMul, Nat.reducePow, Int.reducePow, ini, *]; done) | (simp only [fws, cond_true, cond_false, if_true, if_false, unV, isNil, optI, iV, stepI, evalR, reduceIte, reduceCtorEq, Nat.reduceEqDiff, Int.reduceLT, Int.reduceLE, Int.reduceToNat, Nat.reduceLT, Nat.reduceLeDiff, Int.reduceEq, Int.reduceNeg, IntKind.bits, Nat.reduceAdd, Nat.reduceMul, Nat.reducePow, Int.reducePow, ini]; rfl))
        subst g1
        simp only [fws, cond_true, cond_false, if_true, if_false, unV, isNil, optI, iV, stepI, evalR, reduceIte, reduceCtorEq, Nat.reduceEqDiff, Int.reduceLT, Int.reduceLE, Int.reduceToNat, Nat.reduceLT, Nat.reduceLeDiff, Int.reduceEq, Int.reduceNeg, IntKind.bits, Nat.reduceAdd, Nat.reduceMul, Nat.reducePow, Int.reducePow, ini, F_ref12_Decoder0_W, F_ref12_Decoder1_W, F_ref12_Decoder2_W, F_ref12_Decoder3_W, F_ref12_Decoder4_W, F_ref12_Decoder5_W, F_ref12_Decoder5_g7, F_ref12_Decoder6_W, F_ref12_Decoder7_W, F_ref12_Decoder8_W, F_ref12_Decoder9_W, F_ref12_Decoder11_W, F_ref12_Decoder12_W, F_ref12_Decoder13_W, F_ref12_Decoder14_W, F_ref12_Decoder10_W, F_ref12_Decodel0_W, F_ref12_Decoder15_W, F_ref12_Decodec_W]
        obtain ⟨o, p1, p2⟩ := Own.frzE g2 (k := 6) (by decide)
        refine ⟨o, by rw [p1]; unfold decs; rw [if_pos ok], ?_⟩
        unfold decC
        rw [if_pos ok]
        exact frz_t2 p2 (frz_pure rfl)
      · have ok : ¬ decOk rela l := fun h => q2 h.2
        have q2' : (512 < ((l.length / oneN rela : Nat) : Int)) := by omega
        simp only [fws, cond_true, cond_false, if_true, if_false, unV, isNil, optI, iV, stepI, evalR, reduceIte, reduceCtorEq, Nat.reduceEqDiff, Int.reduceLT, Int.reduceLE, Int.reduceToNat, Nat.reduceLT, Nat.reduceLeDiff, Int.reduceEq, Int.reduceNeg, IntKind.bits, Nat.reduceAdd, Nat.reduceMul, Nat.reducePow, Int.reducePow, ini, fwi, F_ref12_Decoder0_W, F_ref12_Decoder1_W, F_ref12_Decoder2_W, F_ref12_Decoder3_W, F_ref12_Decoder4_W, F_ref12_Decoder5_W, F_ref12_Decoder5_g7, F_ref12_Decoder6_W, F_ref12_Decoder7_W, F_ref12_Decoder8_W, F_ref12_Decoder9_W, F_ref12_Decoder11_W, F_ref12_Decoder12_W, F_ref12_Decoder13_W, F_ref12_Decoder14_W, F_ref12_Decoder10_W, F_ref12_Decodel0_W, F_ref12_Decoder15_W, F_ref12_Decodec_W, e0, e1, e6, hv.1, hne, wl, t2, t3, t4, q1', q2']
        exact ⟨none, by unfold decs; rw [if_neg ok]; rfl, by unfold decC; rw [if_neg ok]; rfl⟩
    · have ok : ¬ decOk rela l := fun h => q1 h.1
      have q1' : ¬ (((l.length / oneN rela * oneN rela : Nat) : Int) = l.length) := by omega
      simp only [fws, cond_true, cond_false, if_true, if_false, unV, isNil, optI, iV, stepI, evalR, reduceIte, reduceCtorEq, Nat.reduceEqDiff, Int.reduceLT, Int.reduceLE, Int.reduceToNat, Nat.reduceLT, Nat.reduceLeDiff, Int.reduceEq, Int.reduceNeg, IntKind.bits, Nat.reduceAdd, Nat.reduceMul, Nat.reducePow, Int.reducePow, ini, fwi, F_ref12_Decoder0_W, F_ref12_Decoder1_W, F_ref12_Decoder2_W, F_ref12_Decoder3_W, F_ref12_Decoder4_W, F_ref12_Decoder5_W, F_ref12_Decoder5_g7, F_ref12_Decoder6_W, F_ref12_Decoder7_W, F_ref12_Decoder8_W, F_ref12_Decoder9_W, F_ref12_Decoder11_W, F_ref12_Decoder12_W, F_ref12_Decoder13_W, F_ref12_Decoder14_W, F_ref12_Decoder10_W, F_ref12_Decodel0_W, F_ref12_Decoder15_W, F_ref12_Decodec_W, e0, e1, e6, hv.1, hne, wl, t2, t3, t4, q1']
      exact ⟨none, by unfold decs; rw [if_neg ok]; rfl, by unfold decC; rw [if_neg ok]; rfl⟩
  cases rela
  · simp only [F_ref12_Decode, fws, cond_true, cond_false, if_true, if_false, unV, isNil, optI, iV, stepI, evalR, reduceIte, reduceCtorEq, Nat.reduceEqDiff, Int.reduceLT, Int.reduceLE, Int.reduceToNat, Nat.reduceLT, Nat.reduceLeDiff, Int.reduceEq, Int.reduceNeg, IntKind.bits, Nat.reduceAdd, Nat.reduceMul, Nat.reducePow, Int.reducePow, ini, fwi, F_ref12_Decoder0_W, F_ref12_Decoder1_W, F_ref12_Decoder2_W, F_ref12_Decoder3_W, F_ref12_Decoder5_W, F_ref12_Decoder5_g7, F_ref12_Decoder6_W, F_ref12_Decoder7_W, F_ref12_Decoder8_W, F_ref12_Decoder9_W, F_ref12_Decoder11_W, F_ref12_Decoder12_W, F_ref12_Decoder13_W, F_ref12_Decoder14_W, F_ref12_Decoder10_W, F_ref12_Decodel0_W, F_ref12_Decoder15_W, F_ref12_Decodec_W]
    refine main _ ?_ ?_ ?_
    all_goals (first | (simp only [fws, cond_true, cond_false, if_true, if_false, unV, isNil, optI, iV, stepI, evalR, reduceIte, reduceCtorEq, Nat.reduceEqDiff, Int.reduceLT, Int.reduceLE, Int.reduceToNat, Nat.reduceLT, Nat.reduceLeDiff, Int.reduceEq, Int.reduceNeg, IntKind.bits, Nat.reduceAdd, Nat.reduceMul, Nat.reducePow, Int.reducePow, ini, *]; done) | (simp only [fws, cond_true, cond_false, if_true, if_false, unV, isNil, optI, iV, stepI, evalR, reduceIte, reduceCtorEq, Nat.reduceEqDiff, Int.reduceLT, Int.reduceLE, Int.reduceToNat, Nat.reduceLT, Nat.reduceLeDiff, Int.reduceEq, Int.reduceNeg, IntKind.bits, Nat.reduceAdd, Nat.reduceMul, Nat.reducePow, Int.reducePow, ini]; rfl))
  · simp only [F_ref12_Decode, fws, cond_true, cond_false, if_true, if_false, unV, isNil, optI, iV, stepI, evalR, reduceIte, reduceCtorEq, Nat.reduceEqDiff, Int.reduceLT, Int.reduceLE, Int.reduceToNat, Nat.reduceLT, Nat.reduceLeDiff, Int.reduceEq, Int.reduceNeg, IntKind.bits, Nat.reduceAdd, Nat.reduceMul, Nat.reducePow, Int.reducePow, ini, fwi, F_ref12_Decoder0_W, F_ref12_Decoder1_W, F_ref12_Decoder2_W, F_ref12_Decoder3_W, F_ref12_Decoder5_W, F_ref12_Decoder5_g7, F_ref12_Decoder6_W, F_ref12_Decoder7_W, F_ref12_Decoder8_W, F_ref12_Decoder9_W, F_ref12_Decoder11_W, F_ref12_Decoder12_W, F_ref12_Decoder13_W, F_ref12_Decoder14_W, F_ref12_Decoder10_W, F_ref12_Decodel0_W, F_ref12_Decoder15_W, F_ref12_Decodec_W]
    refine main _ ?_ ?_ ?_
    all_goals (first | (simp only [fws, cond_true, cond_false, if_true, if_false, unV, isNil, optI, iV, stepI, evalR, reduceIte, reduceCtorEq, Nat.reduceEqDiff, Int.reduceLT, Int.reduceLE, Int.reduceToNat, Nat.reduceLT, Nat.reduceLeDiff, Int.reduceEq, Int.reduceNeg, IntKind.bits, Nat.reduceAdd, Nat.reduceMul, Nat.reducePow, Int.reducePow, ini, *]; done) | (simp only [fws, cond_true, cond_false, if_true, if_false, unV, isNil, optI, iV, stepI, evalR, reduceIte, reduceCtorEq, Nat.reduceEqDiff, Int.reduceLT, Int.reduceLE, Int.reduceToNat, Nat.reduceLT, Nat.reduceLeDiff, Int.reduceEq, Int.reduceNeg, IntKind.bits, Nat.reduceAdd, Nat.reduceMul, Nat.reducePow, Int.reducePow, ini]; rfl))
end
abbrev relA (r : S_api_Rel) : Value := .agg #[.int .u64 r.At, .int .u32 r.Typ, .int .u32 r.Sym, .int .i64 r.Add, .bool r.Has]
theorem rel_eq {a b : S_api_Rel} : cellsEq [0, 0, 0, 0, 1] [.int .u64 a.At, .int .u32 a.Typ, .int .u32 a.Sym, .int .i64 a.Add, .bool a.Has] [.int .u64 b.At, .int .u32 b.Typ, .int .u32 b.Sym, .int .i64 b.Add, .bool b.Has] = some (decide (a = b)) := by
  rcases a with ⟨a1, a2, a3, a4, a5⟩
  rcases b with ⟨b1, b2, b3, b4, b5⟩
  show some _ = some _
  congr 1
  simp only [S_api_Rel.mk.injEq]
  by_cases h1 : a1 = b1 <;> by_cases h2 : a2 = b2 <;> by_cases h3 : a3 = b3 <;> by_cases h4 : a4 = b4 <;> by_cases h5 : a5 = b5 <;> simp [h1, h2, h3, h4, h5]
section
variable {T : Tab} (l m : List S_api_Rel) (v w : Value) (hv : Src RelE v l) (hw : Src RelE w m) (hpv : pureV 6 v = true) (hpw : pureV 6 w = true) (hl : l.length ≤ 10000)
include hv hw hl
theorem loop_rels_Same (hlm : l.length = m.length) : ∀ (k i : Nat) (H : Heap) (env : Env), i + k = l.length → l.take i = m.take i → env 1 = w → env 12 = v → env 13 = .int .i64 l.length → env 14 = .int .i64 i →
    W T (.loop F_rels_Samel0) env H fun x e _ => (x = .ret ∧ e 4 = .bool false ∧ l ≠ m) ∨ (x = .exit 0 ∧ l = m) := by
  intro k
  induction k with
  | zero =>
    intro i H env hi ht e1 e12 e13 e14
    have : i = l.length := by omega
    subst this
    have q : ¬ ((l.length : Int) < l.length) := by omega
    rw [w_loop]
    simp only [fws, cond_true, cond_false, if_true, if_false, unV, isNil, optI, iV, stepI, evalR, reduceIte, reduceCtorEq, Nat.reduceEqDiff, Int.reduceLT, Int.reduceLE, Int.reduceToNat, Nat.reduceLT, Nat.reduceLeDiff, Int.reduceEq, Int.reduceNeg, IntKind.bits, Nat.reduceAdd, Nat.reduceMul, Nat.reducePow, Int.reducePow, ini, fwi, F_rels_Samer0_W, F_rels_Samer1_W, F_rels_Samer2_W, F_rels_Samer3_W, F_rels_Samer4_W, F_rels_Samer5_W, F_rels_Samer6_W, F_rels_Samer7_W, F_rels_Samer8_W, F_rels_Samel0_W, F_rels_Samer9_W, F_rels_Samec_W, e1, e12, e13, e14, q]
    rw [List.take_length, hlm, List.take_length] at ht
    exact .inr ⟨trivial, ht⟩
  | succ k ih =>
    intro i H env hi ht e1 e12 e13 e14
    have q : ((i : Int) < l.length) := by omega
    have hix : i < l.length := by omega
    have him : i < m.length := by omega
    have hx1 : ∀ H, ixaI H 5 v (.int .i64 i) = some (atI RelE l i, H) := fun H => hv.2 i hix .i64 H
    have hx2 : ∀ H, ixaI H 5 w (.int .i64 i) = some (atI RelE m i, H) := fun H => hw.2 i him .i64 H
    have hld1 : ∀ H, loadNI H 5 (atI RelE l i) = some (relA l[i], H) := fun H => loadNI_at rfl hix
    have hld2 : ∀ H, loadNI H 5 (atI RelE m i) = some (relA m[i], H) := fun H => loadNI_at rfl him
    have w2 : IntKind.i64.wrap ((i : Int) + 1) = ((i + 1 : Nat) : Int) := by rw [wrapI64 (by omega) (by omega)]; rfl
    have heq := rel_eq (a := l[i]) (b := m[i])
    by_cases he : l[i] = m[i]
    · rw [decide_eq_true he] at heq
      rw [w_loop]
      simp only [fws, cond_true, cond_false, if_true, if_false, unV, isNil, optI, iV, stepI, evalR, reduceIte, reduceCtorEq, Nat.reduceEqDiff, Int.reduceLT, Int.reduceLE, Int.reduceToNat, Nat.reduceLT, Nat.reduceLeDiff, Int.reduceEq, Int.reduceNeg, IntKind.bits, Nat.reduceAdd, Nat.reduceMul, Nat.reducePow, Int.reducePow, ini, fwh, lk, cellsAt, tagOf, spotOf, rdN, spl, fillL, zr, fwi, F_rels_Samer0_W, F_rels_Samer1_W, F_rels_Samer2_W, F_rels_Samer3_W, F_rels_Samer4_W, F_rels_Samer5_W, F_rels_Samer6_W, F_rels_Samer7_W, F_rels_Samer8_W, F_rels_Samel0_W, F_rels_Samer9_W, F_rels_Samec_W, e1, e12, e13, e14, q, hx1, hx2, hld1, hld2, heq, w2]
      refine ih (i + 1) _ _ (by omega) ?_ ?_ ?_ ?_ ?_
      · rw [List.take_add_one, List.take_add_one, ht, List.getElem?_eq_getElem hix, List.getElem?_eq_getElem him, he]
      all_goals (first | (simp only [fws, cond_true, cond_false, if_true, if_false, unV, isNil, optI, iV, stepI, evalR, reduceIte, reduceCtorEq, Nat.reduceEqDiff, Int.reduceLT, Int.reduceLE, Int.reduceToNat, Nat.reduceLT, Nat.reduceLeDiff, Int.reduceEq, Int.reduceNeg, IntKind.bits, Nat.reduceAdd, Nat.reduceMul, Nat.reducePow, Int.reducePow, ini, *]; done) | (simp only [fws, cond_true, cond_false, if_true, if_false, unV, isNil, optI, iV, stepI, evalR, reduceIte, reduceCtorEq, Nat.reduceEqDiff, Int.reduceLT, Int.reduceLE, Int.reduceToNat, Nat.reduceLT, Nat.reduceLeDiff, Int.reduceEq, Int.reduceNeg, IntKind.bits, Nat.reduceAdd, Nat.reduceMul, Nat.reducePow, Int.reducePow, ini]; rfl))
    · rw [decide_eq_false he] at heq
      rw [w_loop]
      simp only [fws, cond_true, cond_false, if_true, if_false, unV, isNil, optI, iV, stepI, evalR, reduceIte, reduceCtorEq, Nat.reduceEqDiff, Int.reduceLT, Int.reduceLE, Int.reduceToNat, Nat.reduceLT, Nat.reduceLeDiff, Int.reduceEq, Int.reduceNeg, IntKind.bits, Nat.reduceAdd, Nat.reduceMul, Nat.reducePow, Int.reducePow, ini, fwh, lk, cellsAt, tagOf, spotOf, rdN, spl, fillL, zr, fwi, F_rels_Samer0_W, F_rels_Samer1_W, F_rels_Samer2_W, F_rels_Samer3_W, F_rels_Samer4_W, F_rels_Samer5_W, F_rels_Samer6_W, F_rels_Samer7_W, F_rels_Samer8_W, F_rels_Samel0_W, F_rels_Samer9_W, F_rels_Samec_W, e1, e12, e13, e14, q, hx1, hx2, hld1, hld2, heq, w2]
      refine .inl ⟨trivial, trivial, fun h => he ?_⟩
      subst h; rfl
theorem f_rels_Same (h : T 44 = some F_rels_Same) (hpv : pureV 6 v = true) (hpw : pureV 6 w = true) : FnV T 44 [v, w] (.bool (decide (l = m))) := by
  refine FnV_of (by simp [hpv, hpw]) ?_
  rw [Ev_fn h rfl]
  by_cases hlm : l.length = m.length
  · have q : ((l.length : Int) = m.length) := by omega
    simp only [F_rels_Same, fws, cond_true, cond_false, if_true, if_false, unV, isNil, optI, iV, stepI, evalR, reduceIte, reduceCtorEq, Nat.reduceEqDiff, Int.reduceLT, Int.reduceLE, Int.reduceToNat, Nat.reduceLT, Nat.reduceLeDiff, Int.reduceEq, Int.reduceNeg, IntKind.bits, Nat.reduceAdd, Nat.reduceMul, Nat.reducePow, Int.reducePow, ini, fwi, F_rels_Samer0_W, F_rels_Samer1_W, F_rels_Samer2_W, F_rels_Samer3_W, F_rels_Samer4_W, F_rels_Samer5_W, F_rels_Samer6_W, F_rels_Samer7_W, F_rels_Samer8_W, F_rels_Samel0_W, F_rels_Samer9_W, F_rels_Samec_W, hv.1, hw.1, q]
    refine W.mono (loop_rels_Same l m v w hv hw hl hlm l.length 0 [] _ (Nat.zero_add _) rfl ?_ ?_ ?_ ?_) fun x e h hq => ?_
    · (first | (simp only [fws, cond_true, cond_false, if_true, if_false, unV, isNil, optI, iV, stepI, evalR, reduceIte, reduceCtorEq, Nat.reduceEqDiff, Int.reduceLT, Int.reduceLE, Int.reduceToNat, Nat.reduceLT, Nat.reduceLeDiff, Int.reduceEq, Int.reduceNeg, IntKind.bits, Nat.reduceAdd, Nat.reduceMul, Nat.reducePow, Int.reducePow, ini, *]; done) | (simp only [fws, cond_true, cond_false, if_true, if_false, unV, isNil, optI, iV, stepI, evalR, reduceIte, reduceCtorEq, Nat.reduceEqDiff, Int.reduceLT, Int.reduceLE, Int.reduceToNat, Nat.reduceLT, Nat.reduceLeDiff, Int.reduceEq, Int.reduceNeg, IntKind.bits, Nat.reduceAdd, Nat.reduceMul, Nat.reducePow, Int.reducePow, ini]; rfl))
    · (first | (simp only [fws, cond_true, cond_false, if_true, if_false, unV, isNil, optI, iV, stepI, evalR, reduceIte, reduceCtorEq, Nat.reduceEqDiff, Int.reduceLT, Int.reduceLE, Int.reduceToNat, Nat.reduceLT, Nat.reduceLeDiff, Int.reduceEq, Int.reduceNeg, IntKind.bits, Nat.reduceAdd, Nat.reduceMul, Nat.reducePow, Int.reducePow, ini, *]; done) | (simp only [fws, cond_true, cond_false, if_true, if_false, unV, isNil, optI, iV, stepI, evalR, reduceIte, reduceCtorEq, Nat.reduceEqDiff, Int.reduceLT, Int.reduceLE, Int.reduceToNat, Nat.reduceLT, Nat.reduceLeDiff, Int.reduceEq, Int.reduceNeg, IntKind.bits, Nat.reduceAdd, Nat.reduceMul, Nat.reducePow, Int.reducePow, ini]; rfl))
    · simp only [fws, cond_true, cond_false, if_true, if_false, unV, isNil, optI, iV, stepI, evalR, reduceIte, reduceCtorEq, Nat.reduceEqDiff, Int.reduceLT, Int.reduceLE, Int.reduceToNat, Nat.reduceLT, Nat.reduceLeDiff, Int.reduceEq, Int.reduceNeg, IntKind.bits, Nat.reduceAdd, Nat.reduceMul, Nat.reducePow, Int.reducePow, ini, q]
    · (first | (simp only [fws, cond_true, cond_false, if_true, if_false, unV, isNil, optI, iV, stepI, evalR, reduceIte, reduceCtorEq, Nat.reduceEqDiff, Int.reduceLT, Int.reduceLE, Int.reduceToNat, Nat.reduceLT, Nat.reduceLeDiff, Int.reduceEq, Int.reduceNeg, IntKind.bits, Nat.reduceAdd, Nat.reduceMul, Nat.reducePow, Int.reducePow, ini, *]; done) | (simp only [fws, cond_true, cond_false, if_true, if_false, unV, isNil, optI, iV, stepI, evalR, reduceIte, reduceCtorEq, Nat.reduceEqDiff, Int.reduceLT, Int.reduceLE, Int.reduceToNat, Nat.reduceLT, Nat.reduceLeDiff, Int.reduceEq, Int.reduceNeg, IntKind.bits, Nat.reduceAdd, Nat.reduceMul, Nat.reducePow, Int.reducePow, ini]; rfl))
    rcases hq with ⟨rfl, g1, g2⟩ | ⟨rfl, g1⟩
    · simp only [fws, cond_true, cond_false, if_true, if_false, unV, isNil, optI, iV, stepI, evalR, reduceIte, reduceCtorEq, Nat.reduceEqDiff, Int.reduceLT, Int.reduceLE, Int.reduceToNat, Nat.reduceLT, Nat.reduceLeDiff, Int.reduceEq, Int.reduceNeg, IntKind.bits, Nat.reduceAdd, Nat.reduceMul, Nat.reducePow, Int.reducePow, ini, F_rels_Samer0_W, F_rels_Samer1_W, F_rels_Samer2_W, F_rels_Samer3_W, F_rels_Samer4_W, F_rels_Samer5_W, F_rels_Samer6_W, F_rels_Samer7_W, F_rels_Samer8_W, F_rels_Samel0_W, F_rels_Samer9_W, F_rels_Samec_W, g1, decide_eq_false g2]
      rfl
    · simp only [fws, cond_true, cond_false, if_true, if_false, unV, isNil, optI, iV, stepI, evalR, reduceIte, reduceCtorEq, Nat.reduceEqDiff, Int.reduceLT, Int.reduceLE, Int.reduceToNat, Nat.reduceLT, Nat.reduceLeDiff, Int.reduceEq, Int.reduceNeg, IntKind.bits, Nat.reduceAdd, Nat.reduceMul, Nat.reducePow, Int.reducePow, ini, F_rels_Samer0_W, F_rels_Samer1_W, F_rels_Samer2_W, F_rels_Samer3_W, F_rels_Samer4_W, F_rels_Samer5_W, F_rels_Samer6_W, F_rels_Samer7_W, F_rels_Samer8_W, F_rels_Samel0_W, F_rels_Samer9_W, F_rels_Samec_W, decide_eq_true g1]
      rfl
  · have q : ¬ ((l.length : Int) = m.length) := by omega
    have hne : ¬ l = m := fun h => hlm (by rw [h])
    simp only [F_rels_Same, fws, cond_true, cond_false, if_true, if_false, unV, isNil, optI, iV, stepI, evalR, reduceIte, reduceCtorEq, Nat.reduceEqDiff, Int.reduceLT, Int.reduceLE, Int.reduceToNat, Nat.reduceLT, Nat.reduceLeDiff, Int.reduceEq, Int.reduceNeg, IntKind.bits, Nat.reduceAdd, Nat.reduceMul, Nat.reducePow, Int.reducePow, ini, fwi, F_rels_Samer0_W, F_rels_Samer1_W, F_rels_Samer2_W, F_rels_Samer3_W, F_rels_Samer4_W, F_rels_Samer5_W, F_rels_Samer6_W, F_rels_Samer7_W, F_rels_Samer8_W, F_rels_Samel0_W, F_rels_Samer9_W, F_rels_Samec_W, hv.1, hw.1, q, decide_eq_false hne]
    rfl
theorem loop_ref12_Same (hlm : l.length = m.length) : ∀ (k i : Nat) (H : Heap) (env : Env), i + k = l.length → l.take i = m.take i → env 0 = v → env 1 = w → env 5 = .int .i64 i →
    W T (.loop F_ref12_Samel0) env H fun x e _ => (x = .ret ∧ e 4 = .bool false ∧ l ≠ m) ∨ (x = .exit 0 ∧ l = m) := by
  intro k
  induction k with
  | zero =>
    intro i H env hi ht e0 e1 e5
    have : i = l.length := by omega
    subst this
    have q : ¬ ((l.length : Int) < l.length) := by omega
    rw [w_loop]
    simp only [fws, cond_true, cond_false, if_true, if_false, unV, isNil, optI, iV, stepI, evalR, reduceIte, reduceCtorEq, Nat.reduceEqDiff, Int.reduceLT, Int.reduceLE, Int.reduceToNat, Nat.reduceLT, Nat.reduceLeDiff, Int.reduceEq, Int.reduceNeg, IntKind.bits, Nat.reduceAdd, Nat.reduceMul, Nat.reducePow, Int.reducePow, ini, fwi, F_ref12_Samer0_W, F_ref12_Samer1_W, F_ref12_Samer2_W, F_ref12_Samer3_W, F_ref12_Samer4_W, F_ref12_Samer6_W, F_ref12_Samer7_W, F_ref12_Samer5_W, F_ref12_Samel0_W, F_ref12_Samer8_W, F_ref12_Samec_W, e0, e1, e5, hv.1, q]
    rw [List.take_length, hlm, List.take_length] at ht
    exact .inr ⟨trivial, ht⟩
  | succ k ih =>
    intro i H env hi ht e0 e1 e5
    have q : ((i : Int) < l.length) := by omega
    have hix : i < l.length := by omega
    have him : i < m.length := by omega
    have hx1 : ∀ H, ixaI H 5 v (.int .i64 i) = some (atI RelE l i, H) := fun H => hv.2 i hix .i64 H
    have hx2 : ∀ H, ixaI H 5 w (.int .i64 i) = some (atI RelE m i, H) := fun H => hw.2 i him .i64 H
    have hld1 : ∀ H, loadNI H 5 (atI RelE l i) = some (relA l[i], H) := fun H => loadNI_at rfl hix
    have hld2 : ∀ H, loadNI H 5 (atI RelE m i) = some (relA m[i], H) := fun H => loadNI_at rfl him
    have w2 : IntKind.i64.wrap ((i : Int) + 1) = ((i + 1 : Nat) : Int) := by rw [wrapI64 (by omega) (by omega)]; rfl
    have heq := rel_eq (a := l[i]) (b := m[i])
    by_cases he : l[i] = m[i]
    · rw [decide_eq_true he] at heq
      rw [w_loop]
      simp only [fws, cond_true, cond_false, if_true, if_false, unV, isNil, optI, iV, stepI, evalR, reduceIte, reduceCtorEq, Nat.reduceEqDiff, Int.reduceLT, Int.reduceLE, Int.reduceToNat, Nat.reduceLT, Nat.reduceLeDiff, Int.reduceEq, Int.reduceNeg, IntKind.bits, Nat.reduceAdd, Nat.reduceMul, Nat.reducePow, Int.reducePow, ini, fwh, lk, cellsAt, tagOf, spotOf, rdN, spl, fillL, zr, fwi, F_ref12_Samer0_W, F_ref12_Samer1_W, F_ref12_Samer2_W, F_ref12_Samer3_W, F_ref12_Samer4_W, F_ref12_Samer6_W, F_ref12_Samer7_W, F_ref12_Samer5_W, F_ref12_Samel0_W, F_ref12_Samer8_W, F_ref12_Samec_W, e0, e1, e5, hv.1, q, hx1, hx2, hld1, hld2, heq, w2]
      refine ih (i + 1) _ _ (by omega) ?_ ?_ ?_ ?_
      · rw [List.take_add_one, List.take_add_one, ht, List.getElem?_eq_getElem hix, List.getElem?_eq_getElem him, he]
      all_goals (first | (simp only [fws, cond_true, cond_false, if_true, if_false, unV, isNil, optI, iV, stepI, evalR, reduceIte, reduceCtorEq, Nat.reduceEqDiff, Int.reduceLT, Int.reduceLE, Int.reduceToNat, Nat.reduceLT, Nat.reduceLeDiff, Int.reduceEq, Int.reduceNeg, IntKind.bits, Nat.reduceAdd, Nat.reduceMul, Nat.reducePow, Int.reducePow, ini, *]; done) | (simp only [fws, cond_true, cond_false, if_true, if_false, unV, isNil, optI, iV, stepI, evalR, reduceIte, reduceCtorEq, Nat.reduceEqDiff, Int.reduceLT, Int.reduceLE, Int.reduceToNat, Nat.reduceLT, Nat.reduceLeDiff, Int.reduceEq, Int.reduceNeg, IntKind.bits, Nat.reduceAdd, Nat.reduceMul, Nat.reducePow, Int.reducePow, ini]; rfl))
    · rw [decide_eq_false he] at heq
      rw [w_loop]
      simp only [fws, cond_true, cond_false, if_true, if_false, unV, isNil, optI, iV, stepI, evalR, reduceIte, reduceCtorEq, Nat.reduceEqDiff, Int.reduceLT, Int.reduceLE, Int.reduceToNat, Nat.reduceLT, Nat.reduceLeDiff, Int.reduceEq, Int.reduceNeg, IntKind.bits, Nat.reduceAdd, Nat.reduceMul, Nat.reducePow, Int.reducePow, ini, fwh, lk, cellsAt, tagOf, spotOf, rdN, spl, fillL, zr, fwi, F_ref12_Samer0_W, F_ref12_Samer1_W, F_ref12_Samer2_W, F_ref12_Samer3_W, F_ref12_Samer4_W, F_ref12_Samer6_W, F_ref12_Samer7_W, F_ref12_Samer5_W, F_ref12_Samel0_W, F_ref12_Samer8_W, F_ref12_Samec_W, e0, e1, e5, hv.1, q, hx1, hx2, hld1, hld2, heq, w2]
      refine .inl ⟨trivial, trivial, fun h => he ?_⟩
      subst h; rfl
theorem f_ref12_Same (h : T 31 = some F_ref12_Same) (hpv : pureV 6 v = true) (hpw : pureV 6 w = true) : FnV T 31 [v, w] (.bool (decide (l = m))) := by
  refine FnV_of (by simp [hpv, hpw]) ?_
  rw [Ev_fn h rfl]
  by_cases hlm : l.length = m.length
  · have q : ((l.length : Int) = m.length) := by omega
    simp only [F_ref12_Same, fws, cond_true, cond_false, if_true, if_false, unV, isNil, optI, iV, stepI, evalR, reduceIte, reduceCtorEq, Nat.reduceEqDiff, Int.reduceLT, Int.reduceLE, Int.reduceToNat, Nat.reduceLT, Nat.reduceLeDiff, Int.reduceEq, Int.reduceNeg, IntKind.bits, Nat.reduceAdd, Nat.reduceMul, Nat.reducePow, Int.reducePow, ini, fwi, F_ref12_Samer0_W, F_ref12_Samer1_W, F_ref12_Samer2_W, F_ref12_Samer3_W, F_ref12_Samer4_W, F_ref12_Samer6_W, F_ref12_Samer7_W, F_ref12_Samer5_W, F_ref12_Samel0_W, F_ref12_Samer8_W, F_ref12_Samec_W, hv.1, hw.1, q]
    refine W.mono (loop_ref12_Same l m v w hv hw hl hlm l.length 0 [] _ (Nat.zero_add _) rfl ?_ ?_ ?_) fun x e h hq => ?_
    · (first | (simp only [fws, cond_true, cond_false, if_true, if_false, unV, isNil, optI, iV, stepI, evalR, reduceIte, reduceCtorEq, Nat.reduceEqDiff, Int.reduceLT, Int.reduceLE, Int.reduceToNat, Nat.reduceLT, Nat.reduceLeDiff, Int.reduceEq, Int.reduceNeg, IntKind.bits, Nat.reduceAdd, Nat.reduceMul, Nat.reducePow, Int.reducePow, ini, *]; done) | (simp only [fws, cond_true, cond_false, if_true, if_false, unV, isNil, optI, iV, stepI, evalR, reduceIte, reduceCtorEq, Nat.reduceEqDiff, Int.reduceLT, Int.reduceLE, Int.reduceToNat, Nat.reduceLT, Nat.reduceLeDiff, Int.reduceEq, Int.reduceNeg, IntKind.bits, Nat.reduceAdd, Nat.reduceMul, Nat.reducePow, Int.reducePow, ini]; rfl))
    · (first | (simp only [fws, cond_true, cond_false, if_true, if_false, unV, isNil, optI, iV, stepI, evalR, reduceIte, reduceCtorEq, Nat.reduceEqDiff, Int.reduceLT, Int.reduceLE, Int.reduceToNat, Nat.reduceLT, Nat.reduceLeDiff, Int.reduceEq, Int.reduceNeg, IntKind.bits, Nat.reduceAdd, Nat.reduceMul, Nat.reducePow, Int.reducePow, ini, *]; done) | (simp only [fws, cond_true, cond_false, if_true, if_false, unV, isNil, optI, iV, stepI, evalR, reduceIte, reduceCtorEq, Nat.reduceEqDiff, Int.reduceLT, Int.reduceLE, Int.reduceToNat, Nat.reduceLT, Nat.reduceLeDiff, Int.reduceEq, Int.reduceNeg, IntKind.bits, Nat.reduceAdd, Nat.reduceMul, Nat.reducePow, Int.reducePow, ini]; rfl))
    · (first | (simp only [fws, cond_true, cond_false, if_true, if_false, unV, isNil, optI, iV, stepI, evalR, reduceIte, reduceCtorEq, Nat.reduceEqDiff, Int.reduceLT, Int.reduceLE, Int.reduceToNat, Nat.reduceLT, Nat.reduceLeDiff, Int.reduceEq, Int.reduceNeg, IntKind.bits, Nat.reduceAdd, Nat.reduceMul, Nat.reducePow, Int.reducePow, ini, *]; done) | (simp only [fws, cond_true, cond_false, if_true, if_false, unV, isNil, optI, iV, stepI, evalR, reduceIte, reduceCtorEq, Nat.reduceEqDiff, Int.reduceLT, Int.reduceLE, Int.reduceToNat, Nat.reduceLT, Nat.reduceLeDiff, Int.reduceEq, Int.reduceNeg, IntKind.bits, Nat.reduceAdd, Nat.reduceMul, Nat.reducePow, Int.reducePow, ini]; rfl))
    rcases hq with ⟨rfl, g1, g2⟩ | ⟨rfl, g1⟩
    · simp only [fws, cond_true, cond_false, if_true, if_false, unV, isNil, optI, iV, stepI, evalR, reduceIte, reduceCtorEq, Nat.reduceEqDiff, Int.reduceLT, Int.reduceLE, Int.reduceToNat, Nat.reduceLT, Nat.reduceLeDiff, Int.reduceEq, Int.reduceNeg, IntKind.bits, Nat.reduceAdd, Nat.reduceMul, Nat.reducePow, Int.reducePow, ini, F_ref12_Samer0_W, F_ref12_Samer1_W, F_ref12_Samer2_W, F_ref12_Samer3_W, F_ref12_Samer4_W, F_ref12_Samer6_W, F_ref12_Samer7_W, F_ref12_Samer5_W, F_ref12_Samel0_W, F_ref12_Samer8_W, F_ref12_Samec_W, g1, decide_eq_false g2]
      rfl
    · simp only [fws, cond_true, cond_false, if_true, if_false, unV, isNil, optI, iV, stepI, evalR, reduceIte, reduceCtorEq, Nat.reduceEqDiff, Int.reduceLT, Int.reduceLE, Int.reduceToNat, Nat.reduceLT, Nat.reduceLeDiff, Int.reduceEq, Int.reduceNeg, IntKind.bits, Nat.reduceAdd, Nat.reduceMul, Nat.reducePow, Int.reducePow, ini, F_ref12_Samer0_W, F_ref12_Samer1_W, F_ref12_Samer2_W, F_ref12_Samer3_W, F_ref12_Samer4_W, F_ref12_Samer6_W, F_ref12_Samer7_W, F_ref12_Samer5_W, F_ref12_Samel0_W, F_ref12_Samer8_W, F_ref12_Samec_W, decide_eq_true g1]
      rfl
  · have q : ¬ ((l.length : Int) = m.length) := by omega
    have hne : ¬ l = m := fun h => hlm (by rw [h])
    simp only [F_ref12_Same, fws, cond_true, cond_false, if_true, if_false, unV, isNil, optI, iV, stepI, evalR, reduceIte, reduceCtorEq, Nat.reduceEqDiff, Int.reduceLT, Int.reduceLE, Int.reduceToNat, Nat.reduceLT, Nat.reduceLeDiff, Int.reduceEq, Int.reduceNeg, IntKind.bits, Nat.reduceAdd, Nat.reduceMul, Nat.reducePow, Int.reducePow, ini, fwi, F_ref12_Samer0_W, F_ref12_Samer1_W, F_ref12_Samer2_W, F_ref12_Samer3_W, F_ref12_Samer4_W, F_ref12_Samer6_W, F_ref12_Samer7_W, F_ref12_Samer5_W, F_ref12_Samel0_W, F_ref12_Samer8_W, F_ref12_Samec_W, hv.1, hw.1, q, decide_eq_false hne]
    rfl
end
end Go.Proofs.Ytleogcfmlpmbiaa
