/- The document's bytes of relocations. -/
import Derived.Test.YtleogcfmlpmbiaaRelsC
namespace Go.Proofs.Ytleogcfmlpmbiaa
open Go Fw
set_option linter.unusedSimpArgs false
set_option linter.unusedVariables false

theorem Own.cell {α : Type} {E : Enc α} {H h : Heap} {v v' : Value} {l : List α} (t : Own E H v l) {e : Entry} (hf : Fw.Frame (H ++ [e]) h v v') : h[H.length]? = some e := by
  rw [hf.same H.length (by simp) (fun he => by have := t.lt he; omega)]
  simp
section
variable {T : Tab} (h0 : T 39 = some F_ref02_Put) (l : List S_api_Rel) (v : Value) (hv : Src RelE v l) (hl : l.length ≤ 512) (hw : ∀ r ∈ l, okRel r)
include h0 hv hl hw
set_option maxHeartbeats 1000000 in
theorem loop_ref12_Encode (rela : Bool) : ∀ (m i : Nat) (u : Value) (H : Heap) (env : Env), i + m = l.length → (l.take i).all (encOkR rela) = true → Own byteE H u ((l.take i).flatMap (encR rela)) → env 0 = v → env 1 = .bool rela → env 6 = u → env 7 = .int .i64 i →
    W T (.loop F_ref12_Encodel0) env H fun x e h => (x = .ret ∧ e 4 = .slice none 0 0 ∧ e 5 = .int .i64 120 ∧ l.all (encOkR rela) = false) ∨ (x = .exit 0 ∧ l.all (encOkR rela) = true ∧ Own byteE h (e 6) (l.flatMap (encR rela))) := by
  intro m
  induction m with
  | zero =>
    intro i u H env hi ht hb e0 e1 e6 e7
    have : i = l.length := by omega
    subst this
    have q : ¬ ((l.length : Int) < l.length) := by omega
    rw [List.take_length] at ht hb
    rw [w_loop]
    simp only [fws, cond_true, cond_false, if_true, if_false, unV, isNil, optI, iV, stepI, evalR, reduceIte, reduceCtorEq, Nat.reduceEqDiff, Int.reduceLT, Int.reduceLE, Int.reduceToNat, Nat.reduceLT, Nat.reduceLeDiff, Int.reduceEq, Int.reduceNeg, IntKind.bits, Nat.reduceAdd, Nat.reduceMul, Nat.reducePow, Int.reducePow, ini, fwi, F_ref12_Encoder0_W, F_ref12_Encoder1_W, F_ref12_Encoder2_W, F_ref12_Encoder3_W, F_ref12_Encoder4_W, F_ref12_Encoder5_W, F_ref12_Encoder7_W, F_ref12_Encoder8_W, F_ref12_Encoder8_g4, F_ref12_Encoder8_g8, F_ref12_Encoder9_W, F_ref12_Encoder10_W, F_ref12_Encoder11_W, F_ref12_Encoder12_W, F_ref12_Encoder13_W, F_ref12_Encoder14_W, F_ref12_Encoder6_W, F_ref12_Encodel0_W, F_ref12_Encoder15_W, F_ref12_Encodec_W, e0, e1, e6, e7, hv.1, q]
    exact .inr ⟨trivial, ht, hb⟩
  | succ m ih =>
    intro i u H env hi ht hb e0 e1 e6 e7
    have q : ((i : Int) < l.length) := by omega
    have hix : i < l.length := by omega
    have hx1 : ∀ H, ixaI H 5 v (.int .i64 i) = some (atI RelE l i, H) := fun H => hv.2 i hix .i64 H
    have hld1 : ∀ H, loadNI H 5 (atI RelE l i) = some (relA l[i], H) := fun H => loadNI_at rfl hix
    have w2 : IntKind.i64.wrap ((i : Int) + 1) = ((i + 1 : Nat) : Int) := by rw [wrapI64 (by omega) (by omega)]; rfl
    have htk : l.take (i + 1) = l.take i ++ [l[i]] := by rw [List.take_add_one, List.getElem?_eq_getElem hix]; rfl
    have hfl : (l.take (i + 1)).flatMap (encR rela) = (l.take i).flatMap (encR rela) ++ encR rela l[i] := by rw [htk, List.flatMap_append]; simp
    have hal : (l.take (i + 1)).all (encOkR rela) = ((l.take i).all (encOkR rela) && encOkR rela l[i]) := by rw [htk, List.all_append]; simp
    have hbad : encOkR rela l[i] = false → l.all (encOkR rela) = false := fun h => by
      rw [List.all_eq_false]
      exact ⟨l[i], List.getElem_mem hix, by simp [h]⟩
    have hwr := hw _ (List.getElem_mem hix)
    have hlen := flat_len rela (l.take i)
    have h24 : oneN rela ≤ 24 := by unfold oneN; cases rela <;> decide
    have hmul : (l.take i).length * oneN rela ≤ 512 * 24 := Nat.mul_le_mul (by rw [List.length_take]; omega) h24
    rcases hs : l[i] with ⟨a, b, c, d, e⟩
    rw [hs] at hld1 hwr hfl hal hbad
    obtain ⟨hwa, hwb, hwc, hwd⟩ := hwr
    simp only [isU64, isI64r] at hwa hwb hwc hwd
    obtain ⟨aN, rfl⟩ : ∃ n : Nat, a = n := ⟨a.toNat, by omega⟩
    obtain ⟨bN, rfl⟩ : ∃ n : Nat, b = n := ⟨b.toNat, by omega⟩
    obtain ⟨cN, rfl⟩ : ∃ n : Nat, c = n := ⟨c.toNat, by omega⟩
    have wb : IntKind.u64.wrap (bN : Int) = bN := by rw [wrap_u64]; omega
    have wc : IntKind.u64.wrap (cN : Int) = cN := by rw [wrap_u64]; omega
    obtain ⟨x0, x1, x2, x3, x4⟩ := rcell (h := H ++ [rE aN bN cN d e]) (p := H.length) (a := aN) (b := bN) (c := cN) (d := d) (e := e) (by simp)
    have hb1 := hb.mono [rE aN bN cN d e]
    generalize hL : (l.take i).flatMap (encR rela) = L at *
    have c1 : Ev T 39 [u, .int .u64 aN, .int .i64 8] _ _ := ev_ref02_Put (T := T) h0 hb1 (by omega) (n := aN) (c := 8) (by omega) (by decide)
    have next : encOkR rela ⟨aN, bN, cN, d, e⟩ = true → ∀ env : Env, env 0 = v → env 1 = .bool rela → env 6 = u → env 7 = .int .i64 i → env 8 = .pointer (some ⟨H.length, 0, none⟩) →
        W T (.reg F_ref12_Encoder10) env (H ++ [rE aN bN cN d e]) (seqQ T (.seq (.reg F_ref12_Encoder11) (.seq (.reg F_ref12_Encoder12) (.seq (.reg F_ref12_Encoder13) (.cond (.t 49) (.reg F_ref12_Encoder14) .skip)))) (blockQ 1 (seqQ T (.reg F_ref12_Encoder6) (seqQ T (.loop F_ref12_Encodel0) fun x e h => (x = .ret ∧ e 4 = .slice none 0 0 ∧ e 5 = .int .i64 120 ∧ l.all (encOkR rela) = false) ∨ (x = .exit 0 ∧ l.all (encOkR rela) = true ∧ Own byteE h (e 6) (l.flatMap (encR rela))))))) := by
      intro hok env e0 e1 e6 e7 e8
      have hal' : (l.take (i + 1)).all (encOkR rela) = true := by rw [hal, ht, hok]; rfl
      simp only [fws, cond_true, cond_false, if_true, if_false, unV, isNil, optI, iV, stepI, evalR, reduceIte, reduceCtorEq, Nat.reduceEqDiff, Int.reduceLT, Int.reduceLE, Int.reduceToNat, Nat.reduceLT, Nat.reduceLeDiff, Int.reduceEq, Int.reduceNeg, IntKind.bits, Nat.reduceAdd, Nat.reduceMul, Nat.reducePow, Int.reducePow, ini, fwi, F_ref12_Encoder0_W, F_ref12_Encoder1_W, F_ref12_Encoder2_W, F_ref12_Encoder3_W, F_ref12_Encoder4_W, F_ref12_Encoder5_W, F_ref12_Encoder7_W, F_ref12_Encoder8_W, F_ref12_Encoder8_g4, F_ref12_Encoder8_g8, F_ref12_Encoder9_W, F_ref12_Encoder10_W, F_ref12_Encoder11_W, F_ref12_Encoder12_W, F_ref12_Encoder13_W, F_ref12_Encoder14_W, F_ref12_Encoder6_W, F_ref12_Encodel0_W, F_ref12_Encoder15_W, F_ref12_Encodec_W, e0, e1, e6, e7, e8, x0]
      refine c1.mono fun u1 H1 ⟨b1, f1⟩ => ?_
      obtain ⟨_, y1, _, _, _⟩ := rcell (Own.cell hb f1)
      have c2 : Ev T 39 [u1, .int .u64 bN, .int .i64 4] _ _ := ev_ref02_Put (T := T) h0 b1 (by rw [List.length_append, leB_len]; omega) (n := bN) (c := 4) (by omega) (by decide)
      simp only [fws, cond_true, cond_false, if_true, if_false, unV, isNil, optI, iV, stepI, evalR, reduceIte, reduceCtorEq, Nat.reduceEqDiff, Int.reduceLT, Int.reduceLE, Int.reduceToNat, Nat.reduceLT, Nat.reduceLeDiff, Int.reduceEq, Int.reduceNeg, IntKind.bits, Nat.reduceAdd, Nat.reduceMul, Nat.reducePow, Int.reducePow, ini, fwi, F_ref12_Encoder0_W, F_ref12_Encoder1_W, F_ref12_Encoder2_W, F_ref12_Encoder3_W, F_ref12_Encoder4_W, F_ref12_Encoder5_W, F_ref12_Encoder7_W, F_ref12_Encoder8_W, F_ref12_Encoder8_g4, F_ref12_Encoder8_g8, F_ref12_Encoder9_W, F_ref12_Encoder10_W, F_ref12_Encoder11_W, F_ref12_Encoder12_W, F_ref12_Encoder13_W, F_ref12_Encoder14_W, F_ref12_Encoder6_W, F_ref12_Encodel0_W, F_ref12_Encoder15_W, F_ref12_Encodec_W, e0, e1, e6, e7, e8, y1, wb]
      refine c2.mono fun u2 H2 ⟨b2, f2⟩ => ?_
      have f12 := f1.trans f2
      obtain ⟨_, _, y2, _, _⟩ := rcell (Own.cell hb f12)
      have c3 : Ev T 39 [u2, .int .u64 cN, .int .i64 4] _ _ := ev_ref02_Put (T := T) h0 b2 (by simp only [List.length_append, leB_len]; omega) (n := cN) (c := 4) (by omega) (by decide)
      simp only [fws, cond_true, cond_false, if_true, if_false, unV, isNil, optI, iV, stepI, evalR, reduceIte, reduceCtorEq, Nat.reduceEqDiff, Int.reduceLT, Int.reduceLE, Int.reduceToNat, Nat.reduceLT, Nat.reduceLeDiff, Int.reduceEq, Int.reduceNeg, IntKind.bits, Nat.reduceAdd, Nat.reduceMul, Nat.reducePow, Int.reducePow, ini, fwi, F_ref12_Encoder0_W, F_ref12_Encoder1_W, F_ref12_Encoder2_W, F_ref12_Encoder3_W, F_ref12_Encoder4_W, F_ref12_Encoder5_W, F_ref12_Encoder7_W, F_ref12_Encoder8_W, F_ref12_Encoder8_g4, F_ref12_Encoder8_g8, F_ref12_Encoder9_W, F_ref12_Encoder10_W, F_ref12_Encoder11_W, F_ref12_Encoder12_W, F_ref12_Encoder13_W, F_ref12_Encoder14_W, F_ref12_Encoder6_W, F_ref12_Encodel0_W, F_ref12_Encoder15_W, F_ref12_Encodec_W, e0, e1, e6, e7, e8, y2, wc]
      refine c3.mono fun u3 H3 ⟨b3, f3⟩ => ?_
      have f13 := f12.trans f3
      obtain ⟨_, _, _, y3, _⟩ := rcell (Own.cell hb f13)
      cases hr : rela with
      | false =>
        subst hr
        simp only [fws, cond_true, cond_false, if_true, if_false, unV, isNil, optI, iV, stepI, evalR, reduceIte, reduceCtorEq, Nat.reduceEqDiff, Int.reduceLT, Int.reduceLE, Int.reduceToNat, Nat.reduceLT, Nat.reduceLeDiff, Int.reduceEq, Int.reduceNeg, IntKind.bits, Nat.reduceAdd, Nat.reduceMul, Nat.reducePow, Int.reducePow, ini, fwi, F_ref12_Encoder0_W, F_ref12_Encoder1_W, F_ref12_Encoder2_W, F_ref12_Encoder3_W, F_ref12_Encoder4_W, F_ref12_Encoder5_W, F_ref12_Encoder7_W, F_ref12_Encoder8_W, F_ref12_Encoder8_g4, F_ref12_Encoder8_g8, F_ref12_Encoder9_W, F_ref12_Encoder10_W, F_ref12_Encoder11_W, F_ref12_Encoder12_W, F_ref12_Encoder13_W, F_ref12_Encoder14_W, F_ref12_Encoder6_W, F_ref12_Encodel0_W, F_ref12_Encoder15_W, F_ref12_Encodec_W, e0, e1, e6, e7, e8, w2]
        refine ih (i + 1) u3 _ _ (by omega) hal' ?_ ?_ ?_ ?_ ?_
        · rw [hfl]
          unfold encR
          rw [if_neg (by decide), List.append_nil, ← List.append_assoc, ← List.append_assoc]
          exact b3
        all_goals (first | (simp only [fws, cond_true, cond_false, if_true, if_false, unV, isNil, optI, iV, stepI, evalR, reduceIte, reduceCtorEq, Nat.reduceEqDiff, Int.reduceLT, Int.reduceLE, Int.reduceToNat, Nat.reduceLT, Nat.reduceLeDiff, Int.reduceEq, Int.reduceNeg, IntKind.bits, Nat.reduceAdd, Nat.reduceMul, Nat.reducePow, Int.reducePow, ini, *]; done) | (simp only [fws, cond_true, cond_false, if_true, if_false, unV, isNil, optI, iV, stepI, evalR, reduceIte, reduceCtorEq, Nat.reduceEqDiff, Int.reduceLT, Int.reduceLE, Int.reduceToNat, Nat.reduceLT, Nat.reduceLeDiff, Int.reduceEq, Int.reduceNeg, IntKind.bits, Nat.reduceAdd, Nat.reduceMul, Nat.reducePow, Int.reducePow, ini]; rfl))
      | true =>
        subst hr
        obtain ⟨dN, hdN⟩ : ∃ n : Nat, IntKind.u64.wrap d = n := ⟨(IntKind.u64.wrap d).toNat, by rw [wrap_u64]; omega⟩
        have hdlt : dN < 18446744073709551616 := by rw [wrap_u64] at hdN; omega
        have c4 : Ev T 39 [u3, .int .u64 dN, .int .i64 8] _ _ := ev_ref02_Put (T := T) h0 b3 (by simp only [List.length_append, leB_len]; omega) (n := dN) (c := 8) hdlt (by decide)
        simp only [fws, cond_true, cond_false, if_true, if_false, unV, isNil, optI, iV, stepI, evalR, reduceIte, reduceCtorEq, Nat.reduceEqDiff, Int.reduceLT, Int.reduceLE, Int.reduceToNat, Nat.reduceLT, Nat.reduceLeDiff, Int.reduceEq, Int.reduceNeg, IntKind.bits, Nat.reduceAdd, Nat.reduceMul, Nat.reducePow, Int.reducePow, ini, fwi, F_ref12_Encoder0_W, F_ref12_Encoder1_W, F_ref12_Encoder2_W, F_ref12_Encoder3_W, F_ref12_Encoder4_W, F_ref12_Encoder5_W, F_ref12_Encoder7_W, F_ref12_Encoder8_W, F_ref12_Encoder8_g4, F_ref12_Encoder8_g8, F_ref12_Encoder9_W, F_ref12_Encoder10_W, F_ref12_Encoder11_W, F_ref12_Encoder12_W, F_ref12_Encoder13_W, F_ref12_Encoder14_W, F_ref12_Encoder6_W, F_ref12_Encodel0_W, F_ref12_Encoder15_W, F_ref12_Encodec_W, e0, e1, e6, e7, e8, y3, hdN]
        refine c4.mono fun u4 H4 ⟨b4, f4⟩ => ?_
        simp only [fws, cond_true, cond_false, if_true, if_false, unV, isNil, optI, iV, stepI, evalR, reduceIte, reduceCtorEq, Nat.reduceEqDiff, Int.reduceLT, Int.reduceLE, Int.reduceToNat, Nat.reduceLT, Nat.reduceLeDiff, Int.reduceEq, Int.reduceNeg, IntKind.bits, Nat.reduceAdd, Nat.reduceMul, Nat.reducePow, Int.reducePow, ini, fwi, F_ref12_Encoder0_W, F_ref12_Encoder1_W, F_ref12_Encoder2_W, F_ref12_Encoder3_W, F_ref12_Encoder4_W, F_ref12_Encoder5_W, F_ref12_Encoder7_W, F_ref12_Encoder8_W, F_ref12_Encoder8_g4, F_ref12_Encoder8_g8, F_ref12_Encoder9_W, F_ref12_Encoder10_W, F_ref12_Encoder11_W, F_ref12_Encoder12_W, F_ref12_Encoder13_W, F_ref12_Encoder14_W, F_ref12_Encoder6_W, F_ref12_Encodel0_W, F_ref12_Encoder15_W, F_ref12_Encodec_W, e0, e1, e6, e7, e8, w2]
        refine ih (i + 1) u4 _ _ (by omega) hal' ?_ ?_ ?_ ?_ ?_
        · rw [hfl]
          unfold encR
          rw [if_pos rfl, ← List.append_assoc, ← List.append_assoc, ← List.append_assoc, hdN]
          exact b4
        all_goals (first | (simp only [fws, cond_true, cond_false, if_true, if_false, unV, isNil, optI, iV, stepI, evalR, reduceIte, reduceCtorEq, Nat.reduceEqDiff, Int.reduceLT, Int.reduceLE, Int.reduceToNat, Nat.reduceLT, Nat.reduceLeDiff, Int.reduceEq, Int.reduceNeg, IntKind.bits, Nat.reduceAdd, Nat.reduceMul, Nat.reducePow, Int.reducePow, ini, *]; done) | (simp only [fws, cond_true, cond_false, if_true, if_false, unV, isNil, optI, iV, stepI, evalR, reduceIte, reduceCtorEq, Nat.reduceEqDiff, Int.reduceLT, Int.reduceLE, Int.reduceToNat, Nat.reduceLT, Nat.reduceLeDiff, Int.reduceEq, Int.reduceNeg, IntKind.bits, Nat.reduceAdd, Nat.reduceMul, Nat.reducePow, Int.reducePow, ini]; rfl))
    rw [w_loop]
    cases e <;> cases rela
    · by_cases hd : d = 0
      · subst hd
        simp only [fws, cond_true, cond_false, if_true, if_false, unV, isNil, optI, iV, stepI, evalR, reduceIte, reduceCtorEq, Nat.reduceEqDiff, Int.reduceLT, Int.reduceLE, Int.reduceToNat, Nat.reduceLT, Nat.reduceLeDiff, Int.reduceEq, Int.reduceNeg, IntKind.bits, Nat.reduceAdd, Nat.reduceMul, Nat.reducePow, Int.reducePow, ini, fwh, lk, cellsAt, tagOf, spotOf, rdN, spl, fillL, zr, fwi, F_ref12_Encoder0_W, F_ref12_Encoder1_W, F_ref12_Encoder2_W, F_ref12_Encoder3_W, F_ref12_Encoder4_W, F_ref12_Encoder5_W, F_ref12_Encoder7_W, F_ref12_Encoder8_W, F_ref12_Encoder8_g4, F_ref12_Encoder8_g8, F_ref12_Encoder9_W, F_ref12_Encoder11_W, F_ref12_Encoder12_W, F_ref12_Encoder13_W, F_ref12_Encoder14_W, F_ref12_Encoder6_W, F_ref12_Encodel0_W, F_ref12_Encoder15_W, F_ref12_Encodec_W, e0, e1, e6, e7, hv.1, q, hx1, hld1]
        refine next rfl _ ?_ ?_ ?_ ?_ ?_
        all_goals (first | (simp only [fws, cond_true, cond_false, if_true, if_false, unV, isNil, optI, iV, stepI, evalR, reduceIte, reduceCtorEq, Nat.reduceEqDiff, Int.reduceLT, Int.reduceLE, Int.reduceToNat, Nat.reduceLT, Nat.reduceLeDiff, Int.reduceEq, Int.reduceNeg, IntKind.bits, Nat.reduceAdd, Nat.reduceMul, Nat.reducePow, Int.reducePow, ini, *]; done) | (simp only [fws, cond_true, cond_false, if_true, if_false, unV, isNil, optI, iV, stepI, evalR, reduceIte, reduceCtorEq, Nat.reduceEqDiff, Int.reduceLT, Int.reduceLE, Int.reduceToNat, Nat.reduceLT, Nat.reduceLeDiff, Int.reduceEq, Int.reduceNeg, IntKind.bits, Nat.reduceAdd, Nat.reduceMul, Nat.reducePow, Int.reducePow, ini]; rfl))
      · simp only [fws, cond_true, cond_false, if_true, if_false, unV, isNil, optI, iV, stepI, evalR, reduceIte, reduceCtorEq, Nat.reduceEqDiff, Int.reduceLT, Int.reduceLE, Int.reduceToNat, Nat.reduceLT, Nat.reduceLeDiff, Int.reduceEq, Int.reduceNeg, IntKind.bits, Nat.reduceAdd, Nat.reduceMul, Nat.reducePow, Int.reducePow, ini, fwh, lk, cellsAt, tagOf, spotOf, rdN, spl, fillL, zr, fwi, F_ref12_Encoder0_W, F_ref12_Encoder1_W, F_ref12_Encoder2_W, F_ref12_Encoder3_W, F_ref12_Encoder4_W, F_ref12_Encoder5_W, F_ref12_Encoder7_W, F_ref12_Encoder8_W, F_ref12_Encoder8_g4, F_ref12_Encoder8_g8, F_ref12_Encoder9_W, F_ref12_Encoder11_W, F_ref12_Encoder12_W, F_ref12_Encoder13_W, F_ref12_Encoder14_W, F_ref12_Encoder6_W, F_ref12_Encodel0_W, F_ref12_Encoder15_W, F_ref12_Encodec_W, e0, e1, e6, e7, hv.1, q, hx1, hld1, hd]
        exact .inl ⟨trivial, trivial, trivial, hbad (by unfold encOkR; simp [hd])⟩
    · simp only [fws, cond_true, cond_false, if_true, if_false, unV, isNil, optI, iV, stepI, evalR, reduceIte, reduceCtorEq, Nat.reduceEqDiff, Int.reduceLT, Int.reduceLE, Int.reduceToNat, Nat.reduceLT, Nat.reduceLeDiff, Int.reduceEq, Int.reduceNeg, IntKind.bits, Nat.reduceAdd, Nat.reduceMul, Nat.reducePow, Int.reducePow, ini, fwh, lk, cellsAt, tagOf, spotOf, rdN, spl, fillL, zr, fwi, F_ref12_Encoder0_W, F_ref12_Encoder1_W, F_ref12_Encoder2_W, F_ref12_Encoder3_W, F_ref12_Encoder4_W, F_ref12_Encoder5_W, F_ref12_Encoder7_W, F_ref12_Encoder8_W, F_ref12_Encoder8_g4, F_ref12_Encoder8_g8, F_ref12_Encoder9_W, F_ref12_Encoder11_W, F_ref12_Encoder12_W, F_ref12_Encoder13_W, F_ref12_Encoder14_W, F_ref12_Encoder6_W, F_ref12_Encodel0_W, F_ref12_Encoder15_W, F_ref12_Encodec_W, e0, e1, e6, e7, hv.1, q, hx1, hld1, bne_ft, bne_tf]
      exact .inl ⟨trivial, trivial, trivial, hbad rfl⟩
    · simp only [fws, cond_true, cond_false, if_true, if_false, unV, isNil, optI, iV, stepI, evalR, reduceIte, reduceCtorEq, Nat.reduceEqDiff, Int.reduceLT, Int.reduceLE, Int.reduceToNat, Nat.reduceLT, Nat.reduceLeDiff, Int.reduceEq, Int.reduceNeg, IntKind.bits, Nat.reduceAdd, Nat.reduceMul, Nat.reducePow, Int.reducePow, ini, fwh, lk, cellsAt, tagOf, spotOf, rdN, spl, fillL, zr, fwi, F_ref12_Encoder0_W, F_ref12_Encoder1_W, F_ref12_Encoder2_W, F_ref12_Encoder3_W, F_ref12_Encoder4_W, F_ref12_Encoder5_W, F_ref12_Encoder7_W, F_ref12_Encoder8_W, F_ref12_Encoder8_g4, F_ref12_Encoder8_g8, F_ref12_Encoder9_W, F_ref12_Encoder11_W, F_ref12_Encoder12_W, F_ref12_Encoder13_W, F_ref12_Encoder14_W, F_ref12_Encoder6_W, F_ref12_Encodel0_W, F_ref12_Encoder15_W, F_ref12_Encodec_W, e0, e1, e6, e7, hv.1, q, hx1, hld1, bne_ft, bne_tf]
      exact .inl ⟨trivial, trivial, trivial, hbad rfl⟩
    · by_cases hd : d = 0
      · subst hd
        simp only [fws, cond_true, cond_false, if_true, if_false, unV, isNil, optI, iV, stepI, evalR, reduceIte, reduceCtorEq, Nat.reduceEqDiff, Int.reduceLT, Int.reduceLE, Int.reduceToNat, Nat.reduceLT, Nat.reduceLeDiff, Int.reduceEq, Int.reduceNeg, IntKind.bits, Nat.reduceAdd, Nat.reduceMul, Nat.reducePow, Int.reducePow, ini, fwh, lk, cellsAt, tagOf, spotOf, rdN, spl, fillL, zr, fwi, F_ref12_Encoder0_W, F_ref12_Encoder1_W, F_ref12_Encoder2_W, F_ref12_Encoder3_W, F_ref12_Encoder4_W, F_ref12_Encoder5_W, F_ref12_Encoder7_W, F_ref12_Encoder8_W, F_ref12_Encoder8_g4, F_ref12_Encoder8_g8, F_ref12_Encoder9_W, F_ref12_Encoder11_W, F_ref12_Encoder12_W, F_ref12_Encoder13_W, F_ref12_Encoder14_W, F_ref12_Encoder6_W, F_ref12_Encodel0_W, F_ref12_Encoder15_W, F_ref12_Encodec_W, e0, e1, e6, e7, hv.1, q, hx1, hld1]
        refine next rfl _ ?_ ?_ ?_ ?_ ?_
        all_goals (first | (simp only [fws, cond_true, cond_false, if_true, if_false, unV, isNil, optI, iV, stepI, evalR, reduceIte, reduceCtorEq, Nat.reduceEqDiff, Int.reduceLT, Int.reduceLE, Int.reduceToNat, Nat.reduceLT, Nat.reduceLeDiff, Int.reduceEq, Int.reduceNeg, IntKind.bits, Nat.reduceAdd, Nat.reduceMul, Nat.reducePow, Int.reducePow, ini, *]; done) | (simp only [fws, cond_true, cond_false, if_true, if_false, unV, isNil, optI, iV, stepI, evalR, reduceIte, reduceCtorEq, Nat.reduceEqDiff, Int.reduceLT, Int.reduceLE, Int.reduceToNat, Nat.reduceLT, Nat.reduceLeDiff, Int.reduceEq, Int.reduceNeg, IntKind.bits, Nat.reduceAdd, Nat.reduceMul, Nat.reducePow, Int.reducePow, ini]; rfl))
      · simp only [fws, cond_true, cond_false, if_true, if_false, unV, isNil, optI, iV, stepI, evalR, reduceIte, reduceCtorEq, Nat.reduceEqDiff, Int.reduceLT, Int.reduceLE, Int.reduceToNat, Nat.reduceLT, Nat.reduceLeDiff, Int.reduceEq, Int.reduceNeg, IntKind.bits, Nat.reduceAdd, Nat.reduceMul, Nat.reducePow, Int.reducePow, ini, fwh, lk, cellsAt, tagOf, spotOf, rdN, spl, fillL, zr, fwi, F_ref12_Encoder0_W, F_ref12_Encoder1_W, F_ref12_Encoder2_W, F_ref12_Encoder3_W, F_ref12_Encoder4_W, F_ref12_Encoder5_W, F_ref12_Encoder7_W, F_ref12_Encoder8_W, F_ref12_Encoder8_g4, F_ref12_Encoder8_g8, F_ref12_Encoder9_W, F_ref12_Encoder11_W, F_ref12_Encoder12_W, F_ref12_Encoder13_W, F_ref12_Encoder14_W, F_ref12_Encoder6_W, F_ref12_Encodel0_W, F_ref12_Encoder15_W, F_ref12_Encodec_W, e0, e1, e6, e7, hv.1, q, hx1, hld1, hd]
        refine next rfl _ ?_ ?_ ?_ ?_ ?_
        all_goals (first | (simp only [fws, cond_true, cond_false, if_true, if_false, unV, isNil, optI, iV, stepI, evalR, reduceIte, reduceCtorEq, Nat.reduceEqDiff, Int.reduceLT, Int.reduceLE, Int.reduceToNat, Nat.reduceLT, Nat.reduceLeDiff, Int.reduceEq, Int.reduceNeg, IntKind.bits, Nat.reduceAdd, Nat.reduceMul, Nat.reducePow, Int.reducePow, ini, *]; done) | (simp only [fws, cond_true, cond_false, if_true, if_false, unV, isNil, optI, iV, stepI, evalR, reduceIte, reduceCtorEq, Nat.reduceEqDiff, Int.reduceLT, Int.reduceLE, Int.reduceToNat, Nat.reduceLT, Nat.reduceLeDiff, Int.reduceEq, Int.reduceNeg, IntKind.bits, Nat.reduceAdd, Nat.reduceMul, Nat.reducePow, Int.reducePow, ini]; rfl))
theorem f_ref12_Encode (hp : pureV 6 v = true) (h : T 45 = some F_ref12_Encode) (rela : Bool) : ∃ o, lst o = encB rela l ∧ FnV T 45 [v, .bool rela] (.tuple #[slV byteE o, .int .i64 (encC rela l)]) := by
  refine FnV_ex (g := fun o => .tuple #[slV byteE o, .int .i64 (encC rela l)]) (by simp [pure_bool, hp]) ?_
  rw [Ev_fn h rfl]
  have q : ¬ ((512 : Int) < l.length) := by omega
  simp only [F_ref12_Encode, fws, cond_true, cond_false, if_true, if_false, unV, isNil, optI, iV, stepI, evalR, reduceIte, reduceCtorEq, Nat.reduceEqDiff, Int.reduceLT, Int.reduceLE, Int.reduceToNat, Nat.reduceLT, Nat.reduceLeDiff, Int.reduceEq, Int.reduceNeg, IntKind.bits, Nat.reduceAdd, Nat.reduceMul, Nat.reducePow, Int.reducePow, ini, fwi, F_ref12_Encoder0_W, F_ref12_Encoder1_W, F_ref12_Encoder2_W, F_ref12_Encoder3_W, F_ref12_Encoder4_W, F_ref12_Encoder5_W, F_ref12_Encoder7_W, F_ref12_Encoder8_W, F_ref12_Encoder8_g4, F_ref12_Encoder8_g8, F_ref12_Encoder9_W, F_ref12_Encoder10_W, F_ref12_Encoder11_W, F_ref12_Encoder12_W, F_ref12_Encoder13_W, F_ref12_Encoder14_W, F_ref12_Encoder6_W, F_ref12_Encodel0_W, F_ref12_Encoder15_W, F_ref12_Encodec_W, hv.1, q]
  refine W.mono (loop_ref12_Encode h0 l v hv hl hw rela l.length 0 _ _ _ (Nat.zero_add _) rfl Own.nil ?_ ?_ ?_ ?_) fun x e h hq => ?_
  · (first | (simp only [fws, cond_true, cond_false, if_true, if_false, unV, isNil, optI, iV, stepI, evalR, reduceIte, reduceCtorEq, Nat.reduceEqDiff, Int.reduceLT, Int.reduceLE, Int.reduceToNat, Nat.reduceLT, Nat.reduceLeDiff, Int.reduceEq, Int.reduceNeg, IntKind.bits, Nat.reduceAdd, Nat.reduceMul, Nat.reducePow, Int.reducePow, ini, *]; done) | (simp only [fws, cond_true, cond_false, if_true, if_false, unV, isNil, optI, iV, stepI, evalR, reduceIte, reduceCtorEq, Nat.reduceEqDiff, Int.reduceLT, Int.reduceLE, Int.reduceToNat, Nat.reduceLT, Nat.reduceLeDiff, Int.reduceEq, Int.reduceNeg, IntKind.bits, Nat.reduceAdd, Nat.reduceMul, Nat.reducePow, Int.reducePow, ini]; rfl))
  · (first | (simp only [fws, cond_true, cond_false, if_true, if_false, unV, isNil, optI, iV, stepI, evalR, reduceIte, reduceCtorEq, Nat.reduceEqDiff, Int.reduceLT, Int.reduceLE, Int.reduceToNat, Nat.reduceLT, Nat.reduceLeDiff, Int.reduceEq, Int.reduceNeg, IntKind.bits, Nat.reduceAdd, Nat.reduceMul, Nat.reducePow, Int.reducePow, ini, *]; done) | (simp only [fws, cond_true, cond_false, if_true, if_false, unV, isNil, optI, iV, stepI, evalR, reduceIte, reduceCtorEq, Nat.reduceEqDiff, Int.reduceLT, Int.reduceLE, Int.reduceToNat, Nat.reduceLT, Nat.reduceLeDiff, Int.reduceEq, Int.reduceNeg, IntKind.bits, Nat.reduceAdd, Nat.reduceMul, Nat.reducePow, Int.reducePow, ini]; rfl))
  · (first | (simp only [fws, cond_true, cond_false, if_true, if_false, unV, isNil, optI, iV, stepI, evalR, reduceIte, reduceCtorEq, Nat.reduceEqDiff, Int.reduceLT, Int.reduceLE, Int.reduceToNat, Nat.reduceLT, Nat.reduceLeDiff, Int.reduceEq, Int.reduceNeg, IntKind.bits, Nat.reduceAdd, Nat.reduceMul, Nat.reducePow, Int.reducePow, ini, *]; done) | (simp only [fws, cond_true, cond_false, if_true, if_false, unV, isNil, optI, iV, stepI, evalR, reduceIte, reduceCtorEq, Nat.reduceEqDiff, Int.reduceLT, Int.reduceLE, Int.reduceToNat, Nat.reduceLT, Nat.reduceLeDiff, Int.reduceEq, Int.reduceNeg, IntKind.bits, Nat.reduceAdd, Nat.reduceMul, Nat.reducePow, Int.reducePow, ini]; rfl))
  · (first | (simp only [fws, cond_true, cond_false, if_true, if_false, unV, isNil, optI, iV, stepI, evalR, reduceIte, reduceCtorEq, Nat.reduceEqDiff, Int.reduceLT, Int.reduceLE, Int.reduceToNat, Nat.reduceLT, Nat.reduceLeDiff, Int.reduceEq, Int.reduceNeg, IntKind.bits, Nat.reduceAdd, Nat.reduceMul, Nat.reducePow, Int.reducePow, ini, *]; done) | (simp only [fws, cond_true, cond_false, if_true, if_false, unV, isNil, optI, iV, stepI, evalR, reduceIte, reduceCtorEq, Nat.reduceEqDiff, Int.reduceLT, Int.reduceLE, Int.reduceToNat, Nat.reduceLT, Nat.reduceLeDiff, Int.reduceEq, Int.reduceNeg, IntKind.bits, Nat.reduceAdd, Nat.reduceMul, Nat.reducePow, Int.reducePow, ini]; rfl))
  rcases hq with ⟨rfl, g1, g2, g3⟩ | ⟨rfl, g1, g3⟩
  · have ok : encOk rela l = false := by unfold encOk; rw [g3, Bool.and_false]
    simp only [fws, cond_true, cond_false, if_true, if_false, unV, isNil, optI, iV, stepI, evalR, reduceIte, reduceCtorEq, Nat.reduceEqDiff, Int.reduceLT, Int.reduceLE, Int.reduceToNat, Nat.reduceLT, Nat.reduceLeDiff, Int.reduceEq, Int.reduceNeg, IntKind.bits, Nat.reduceAdd, Nat.reduceMul, Nat.reducePow, Int.reducePow, ini, F_ref12_Encoder0_W, F_ref12_Encoder1_W, F_ref12_Encoder2_W, F_ref12_Encoder3_W, F_ref12_Encoder4_W, F_ref12_Encoder5_W, F_ref12_Encoder7_W, F_ref12_Encoder8_W, F_ref12_Encoder8_g4, F_ref12_Encoder8_g8, F_ref12_Encoder9_W, F_ref12_Encoder10_W, F_ref12_Encoder11_W, F_ref12_Encoder12_W, F_ref12_Encoder13_W, F_ref12_Encoder14_W, F_ref12_Encoder6_W, F_ref12_Encodel0_W, F_ref12_Encoder15_W, F_ref12_Encodec_W, g1, g2]
    exact ⟨none, by unfold encB; rw [ok]; rfl, by unfold encC; rw [ok]; rfl⟩
  · have ok : encOk rela l = true := by unfold encOk; rw [g1, Bool.and_true]; exact decide_eq_true hl
    simp only [fws, cond_true, cond_false, if_true, if_false, unV, isNil, optI, iV, stepI, evalR, reduceIte, reduceCtorEq, Nat.reduceEqDiff, Int.reduceLT, Int.reduceLE, Int.reduceToNat, Nat.reduceLT, Nat.reduceLeDiff, Int.reduceEq, Int.reduceNeg, IntKind.bits, Nat.reduceAdd, Nat.reduceMul, Nat.reducePow, Int.reducePow, ini, fwi, F_ref12_Encoder0_W, F_ref12_Encoder1_W, F_ref12_Encoder2_W, F_ref12_Encoder3_W, F_ref12_Encoder4_W, F_ref12_Encoder5_W, F_ref12_Encoder7_W, F_ref12_Encoder8_W, F_ref12_Encoder8_g4, F_ref12_Encoder8_g8, F_ref12_Encoder9_W, F_ref12_Encoder10_W, F_ref12_Encoder11_W, F_ref12_Encoder12_W, F_ref12_Encoder13_W, F_ref12_Encoder14_W, F_ref12_Encoder6_W, F_ref12_Encodel0_W, F_ref12_Encoder15_W, F_ref12_Encodec_W]
    obtain ⟨o, p1, p2⟩ := Own.frzE g3 (k := 6) (by decide)
    refine ⟨o, by rw [p1]; unfold encB; rw [ok]; rfl, ?_⟩
    unfold encC
    rw [ok]
    exact frz_t2 p2 (frz_pure rfl)
end
theorem f_ref12_Encode_gt {T : Tab} (l : List S_api_Rel) (v : Value) (hv : Src RelE v l) (hp : pureV 6 v = true) (hl : ¬ l.length ≤ 512) (h : T 45 = some F_ref12_Encode) (rela : Bool) : ∃ o, lst o = encB rela l ∧ FnV T 45 [v, .bool rela] (.tuple #[slV byteE o, .int .i64 (encC rela l)]) := by
  refine FnV_ex (g := fun o => .tuple #[slV byteE o, .int .i64 (encC rela l)]) (by simp [pure_bool, hp]) ?_
  rw [Ev_fn h rfl]
  have q : ((512 : Int) < l.length) := by omega
  have ok : encOk rela l = false := by unfold encOk; rw [decide_eq_false hl, Bool.false_and]
  simp only [F_ref12_Encode, fws, cond_true, cond_false, if_true, if_false, unV, isNil, optI, iV, stepI, evalR, reduceIte, reduceCtorEq, Nat.reduceEqDiff, Int.reduceLT, Int.reduceLE, Int.reduceToNat, Nat.reduceLT, Nat.reduceLeDiff, Int.reduceEq, Int.reduceNeg, IntKind.bits, Nat.reduceAdd, Nat.reduceMul, Nat.reducePow, Int.reducePow, ini, fwi, F_ref12_Encoder0_W, F_ref12_Encoder1_W, F_ref12_Encoder2_W, F_ref12_Encoder3_W, F_ref12_Encoder4_W, F_ref12_Encoder5_W, F_ref12_Encoder7_W, F_ref12_Encoder8_W, F_ref12_Encoder8_g4, F_ref12_Encoder8_g8, F_ref12_Encoder9_W, F_ref12_Encoder10_W, F_ref12_Encoder11_W, F_ref12_Encoder12_W, F_ref12_Encoder13_W, F_ref12_Encoder14_W, F_ref12_Encoder6_W, F_ref12_Encodel0_W, F_ref12_Encoder15_W, F_ref12_Encodec_W, hv.1, q]
  exact ⟨none, by unfold encB; rw [ok]; rfl, by unfold encC; rw [ok]; rfl⟩
end Go.Proofs.Ytleogcfmlpmbiaa
