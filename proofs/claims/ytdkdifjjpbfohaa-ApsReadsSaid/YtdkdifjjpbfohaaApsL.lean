/- Groups of relocations: the document's reading. -/
import Derived.Test.YtdkdifjjpbfohaaApsK
namespace Go.Proofs.Ytdkdifjjpbfohaa
open Go Fw
set_option linter.unusedSimpArgs false
set_option linter.unusedVariables false
set_option linter.unusedSectionVars false

section
variable {T : Tab} (hT : T 42 = some F_ref14_take) (hH : T 43 = some F_ref14_has) {rela fl : Bool}
include hT hH
set_option maxHeartbeats 1000000 in
theorem loop_ref14_Decode {many : Nat} (hm : many ≤ 512) : ∀ (n : Nat) (H : Heap) (g : GS) (u : Value) (env : Env), many < g.out.length + n → g.out.length ≤ many → g.s.bad = false → DSt H g u → KG env rela fl many g u →
    W T (.loop F_ref14_Decodel0) env H fun x e h => match allS rela many n g with
      | none => x = .ret ∧ e 4 = .slice none 0 0 ∧ e 5 = .int .i64 140
      | some g' => x = .exit 0 ∧ ∃ u', KG e rela fl many g' u' ∧ DSt h g' u' := by
  intro n
  induction n with
  | zero => intro H g u env hn ho hb t K; omega
  | succ n ih =>
    intro H g u env hn ho hb t K
    have K0 := K
    obtain ⟨k1, k7, k8, k9, d10, d11, d12⟩ := K0
    have hlen := t.own.len
    obtain ⟨o, o', x0, c, t1⟩ := t.take hT
    obtain ⟨o2, o2', x2, c2, t2⟩ := t1.take hT
    rw [w_loop, allS]
    by_cases q : g.out.length < many
    · have q' : ((g.out.length : Int) < many) := by omega
      rw [if_pos q]
      have hset : (H.set 0 (lE o' (tk g.s).1.bad))[0]? = some (lE o2 (tk g.s).1.bad) := x2
      simp only [fws, cond_true, cond_false, if_true, if_false, unV, isNil, optI, iV, stepI, evalR, reduceIte, reduceCtorEq, Nat.reduceEqDiff, Int.reduceLT, Int.reduceLE, Int.reduceToNat, Nat.reduceLT, Nat.reduceLeDiff, Int.reduceEq, Int.reduceNeg, IntKind.bits, Nat.reduceAdd, Nat.reduceMul, Nat.reducePow, Int.reducePow, ini, fwh, lk, cellsAt, tagOf, spotOf, rdN, spl, fillL, zr, fwi, F_ref14_Decoder0_W, F_ref14_Decoder1_W, F_ref14_Decoder1_g3, F_ref14_Decoder1_g9, F_ref14_Decoder1_g15, F_ref14_Decoder1_g21, F_ref14_Decoder2_W, F_ref14_Decoder3_W, F_ref14_Decoder4_W, F_ref14_Decoder5_W, F_ref14_Decoder6_W, F_ref14_Decoder7_W, F_ref14_Decoder7_g2, F_ref14_Decoder7_g6, F_ref14_Decoder8_W, F_ref14_Decoder9_W, F_ref14_Decoder10_W, F_ref14_Decoder11_W, F_ref14_Decoder12_W, F_ref14_Decoder13_W, F_ref14_Decoder14_W, F_ref14_Decoder16_W, F_ref14_Decoder17_W, F_ref14_Decoder18_W, F_ref14_Decoder19_W, F_ref14_Decoder20_W, F_ref14_Decoder21_W, F_ref14_Decoder22_W, F_ref14_Decoder22_g2, F_ref14_Decoder23_W, F_ref14_Decoder24_W, F_ref14_Decoder25_W, F_ref14_Decoder26_W, F_ref14_Decoder27_W, F_ref14_Decoder28_W, F_ref14_Decoder30_W, F_ref14_Decoder31_W, F_ref14_Decoder32_W, F_ref14_Decoder33_W, F_ref14_Decoder34_W, F_ref14_Decoder34_g2, F_ref14_Decoder35_W, F_ref14_Decoder36_W, F_ref14_Decoder37_W, F_ref14_Decoder38_W, F_ref14_Decoder39_W, F_ref14_Decoder40_W, F_ref14_Decoder41_W, F_ref14_Decoder29_W, F_ref14_Decodel1_W, F_ref14_Decoder42_W, F_ref14_Decoder43_W, F_ref14_Decodel0_W, F_ref14_Decoder44_W, F_ref14_Decoder44_g4, F_ref14_Decoder45_W, F_ref14_Decoder46_W, F_ref14_Decodec_W, F_ref14_Decoder0_W, F_ref14_Decoder1_W, F_ref14_Decoder1_g3, F_ref14_Decoder1_g9, F_ref14_Decoder1_g15, F_ref14_Decoder1_g21, F_ref14_Decoder2_W, F_ref14_Decoder3_W, F_ref14_Decoder4_W, F_ref14_Decoder5_W, F_ref14_Decoder6_W, F_ref14_Decoder7_W, F_ref14_Decoder7_g2, F_ref14_Decoder7_g6, F_ref14_Decoder8_W, F_ref14_Decoder9_W, F_ref14_Decoder10_W, F_ref14_Decoder11_W, F_ref14_Decoder12_W, F_ref14_Decoder13_W, F_ref14_Decoder14_W, F_ref14_Decoder16_W, F_ref14_Decoder17_W, F_ref14_Decoder18_W, F_ref14_Decoder19_W, F_ref14_Decoder20_W, F_ref14_Decoder21_W, F_ref14_Decoder22_W, F_ref14_Decoder22_g2, F_ref14_Decoder23_W, F_ref14_Decoder24_W, F_ref14_Decoder25_W, F_ref14_Decoder26_W, F_ref14_Decoder27_W, F_ref14_Decoder28_W, F_ref14_Decoder30_W, F_ref14_Decoder31_W, F_ref14_Decoder32_W, F_ref14_Decoder33_W, F_ref14_Decoder34_W, F_ref14_Decoder34_g2, F_ref14_Decoder35_W, F_ref14_Decoder36_W, F_ref14_Decoder37_W, F_ref14_Decoder38_W, F_ref14_Decoder39_W, F_ref14_Decoder40_W, F_ref14_Decoder41_W, F_ref14_Decoder29_W, F_ref14_Decodel1_W, F_ref14_Decoder42_W, F_ref14_Decoder43_W, F_ref14_Decodel0_W, F_ref14_Decoder44_W, F_ref14_Decoder44_g4, F_ref14_Decoder45_W, F_ref14_Decoder46_W, F_ref14_Decodec_W, k9, k8, d11, hlen, q', x0, hset, rdN, CC_of c, CC_of c2, cells_agg, oneAll_agg, cells_sl, oneC_sl, oneAll_sl, spl, List.getElem?_toArray, List.set_set]
      rw [List.set_set] at t2
      have hG : grpS rela ((many : Int) - g.out.length) g = if badG (tk (tk g.s).1).1 (tk g.s).2 ((many : Int) - g.out.length) (tk (tk g.s).1).2 rela then none else
          (let b := tk (tk g.s).1
           let f := b.2.toNat
           let p := if b2 f then tk b.1 else (b.1, 0)
           let q := if b1 f then tk p.1 else (p.1, 0)
           let r := if b8 f && b4 f then tk q.1 else (q.1, 0)
           let add := if b8 f then (if b4 f then IntKind.i64.wrap (g.add + r.2) else g.add) else 0
           let g' := rowsS rela f p.2 q.2 (tk g.s).2.toNat ⟨r.1, g.at_, add, g.out⟩
           if g'.s.bad then none else some g') := rfl
      rw [← w_seq]
      refine W.mono (dg_st2 hT hH (rela := rela) (fl := fl) (many := many) t2 ⟨by (first | assumption | rfl), by (first | assumption | rfl), by (first | assumption | rfl), by (first | assumption | rfl), by (first | assumption | rfl), by (first | assumption | rfl), by (first | assumption | rfl)⟩ (by omega) (by omega) (by show g.out.length ≤ _; omega) (size := (tk g.s).2) (flags := (tk (tk g.s).1).2) ?_ ?_) fun x e h2 hq => ?_
      · (first | assumption | rfl)
      · (first | assumption | rfl)
      rcases hq with ⟨hx, hbad, e4, e5⟩ | ⟨hx, hbad, K, e13, e14, hh⟩
      · subst hx
        rw [hG, if_pos hbad]
        simp only [fws, cond_true, cond_false, if_true, if_false, unV, isNil, optI, iV, stepI, evalR, reduceIte, reduceCtorEq, Nat.reduceEqDiff, Int.reduceLT, Int.reduceLE, Int.reduceToNat, Nat.reduceLT, Nat.reduceLeDiff, Int.reduceEq, Int.reduceNeg, IntKind.bits, Nat.reduceAdd, Nat.reduceMul, Nat.reducePow, Int.reducePow, ini, Option.bind_none]
        exact ⟨trivial, e4, e5⟩
      subst hx
      rw [hG, if_neg hbad]
      have hb2 := hbad
      unfold badG at hb2
      obtain ⟨f, hf⟩ : ∃ f : Nat, (tk (tk g.s).1).2 = f := ⟨(tk (tk g.s).1).2.toNat, by omega⟩
      obtain ⟨z, hz⟩ : ∃ z : Nat, (tk g.s).2 = z := ⟨(tk g.s).2.toNat, by omega⟩
      have hf16 : f < 16 := by omega
      have hleft : (many : Int) - (⟨(tk (tk g.s).1).1, g.at_, g.add, g.out⟩ : GS).out.length = many - g.out.length := rfl
      have hz6 : z ≤ 600 := by rw [hleft] at hb2; omega
      rw [hf] at e14
      rw [hz] at e13
      have hft : (tk (tk g.s).1).2.toNat = f := by omega
      have hzt : (tk g.s).2.toNat = z := by omega
      simp only [hft, hzt]
      have t2 : DSt h2 ⟨(tk (tk g.s).1).1, g.at_, g.add, g.out⟩ u := by rw [hh]; exact t2
      clear hh
      obtain ⟨k1, k7, k8, k9, d10, d11, d12⟩ := K
      rw [seqQ_normal, w_seq]
      simp only [fws, cond_true, cond_false, if_true, if_false, unV, isNil, optI, iV, stepI, evalR, reduceIte, reduceCtorEq, Nat.reduceEqDiff, Int.reduceLT, Int.reduceLE, Int.reduceToNat, Nat.reduceLT, Nat.reduceLeDiff, Int.reduceEq, Int.reduceNeg, IntKind.bits, Nat.reduceAdd, Nat.reduceMul, Nat.reducePow, Int.reducePow, ini, F_ref14_Decoder0_W, F_ref14_Decoder1_W, F_ref14_Decoder1_g3, F_ref14_Decoder1_g9, F_ref14_Decoder1_g15, F_ref14_Decoder1_g21, F_ref14_Decoder2_W, F_ref14_Decoder3_W, F_ref14_Decoder4_W, F_ref14_Decoder5_W, F_ref14_Decoder6_W, F_ref14_Decoder7_W, F_ref14_Decoder7_g2, F_ref14_Decoder7_g6, F_ref14_Decoder8_W, F_ref14_Decoder9_W, F_ref14_Decoder10_W, F_ref14_Decoder11_W, F_ref14_Decoder12_W, F_ref14_Decoder13_W, F_ref14_Decoder14_W, F_ref14_Decoder15_W, F_ref14_Decoder15_g2, F_ref14_Decoder15_g6, F_ref14_Decoder15_g14, F_ref14_Decoder15_g18, F_ref14_Decoder15_g22, F_ref14_Decoder15_g25, F_ref14_Decoder16_W, F_ref14_Decoder17_W, F_ref14_Decoder19_W, F_ref14_Decoder20_W, F_ref14_Decoder21_W, F_ref14_Decoder22_W, F_ref14_Decoder22_g2, F_ref14_Decoder23_W, F_ref14_Decoder24_W, F_ref14_Decoder25_W, F_ref14_Decoder26_W, F_ref14_Decoder27_W, F_ref14_Decoder28_W, F_ref14_Decoder30_W, F_ref14_Decoder31_W, F_ref14_Decoder32_W, F_ref14_Decoder33_W, F_ref14_Decoder34_W, F_ref14_Decoder34_g2, F_ref14_Decoder35_W, F_ref14_Decoder36_W, F_ref14_Decoder37_W, F_ref14_Decoder38_W, F_ref14_Decoder39_W, F_ref14_Decoder40_W, F_ref14_Decoder41_W, F_ref14_Decoder29_W, F_ref14_Decodel1_W, F_ref14_Decoder42_W, F_ref14_Decoder43_W, F_ref14_Decodel0_W, F_ref14_Decoder44_W, F_ref14_Decoder44_g4, F_ref14_Decoder45_W, F_ref14_Decoder46_W, F_ref14_Decodec_W, F_ref14_Decoder0_W, F_ref14_Decoder1_W, F_ref14_Decoder1_g3, F_ref14_Decoder1_g9, F_ref14_Decoder1_g15, F_ref14_Decoder1_g21, F_ref14_Decoder2_W, F_ref14_Decoder3_W, F_ref14_Decoder4_W, F_ref14_Decoder5_W, F_ref14_Decoder6_W, F_ref14_Decoder7_W, F_ref14_Decoder7_g2, F_ref14_Decoder7_g6, F_ref14_Decoder8_W, F_ref14_Decoder9_W, F_ref14_Decoder10_W, F_ref14_Decoder11_W, F_ref14_Decoder12_W, F_ref14_Decoder13_W, F_ref14_Decoder14_W, F_ref14_Decoder15_W, F_ref14_Decoder15_g2, F_ref14_Decoder15_g6, F_ref14_Decoder15_g14, F_ref14_Decoder15_g18, F_ref14_Decoder15_g22, F_ref14_Decoder15_g25, F_ref14_Decoder16_W, F_ref14_Decoder17_W, F_ref14_Decoder19_W, F_ref14_Decoder20_W, F_ref14_Decoder21_W, F_ref14_Decoder22_W, F_ref14_Decoder22_g2, F_ref14_Decoder23_W, F_ref14_Decoder24_W, F_ref14_Decoder25_W, F_ref14_Decoder26_W, F_ref14_Decoder27_W, F_ref14_Decoder28_W, F_ref14_Decoder30_W, F_ref14_Decoder31_W, F_ref14_Decoder32_W, F_ref14_Decoder33_W, F_ref14_Decoder34_W, F_ref14_Decoder34_g2, F_ref14_Decoder35_W, F_ref14_Decoder36_W, F_ref14_Decoder37_W, F_ref14_Decoder38_W, F_ref14_Decoder39_W, F_ref14_Decoder40_W, F_ref14_Decoder41_W, F_ref14_Decoder29_W, F_ref14_Decodel1_W, F_ref14_Decoder42_W, F_ref14_Decoder43_W, F_ref14_Decodel0_W, F_ref14_Decoder44_W, F_ref14_Decoder44_g4, F_ref14_Decoder45_W, F_ref14_Decoder46_W, F_ref14_Decodec_W]
      rw [← w_seq]
      refine W.mono (dg_st3 hT hH (rela := rela) (fl := fl) (many := many) t2 ⟨by (first | assumption | rfl), by (first | assumption | rfl), by (first | assumption | rfl), by (first | assumption | rfl), by (first | assumption | rfl), by (first | assumption | rfl), by (first | assumption | rfl)⟩ hf16 (size := z) ?_ ?_ ?_ ?_) fun x e h3 ⟨hx, K, e13, e14, e15, e16, t3⟩ => ?_
      · (first | assumption | rfl)
      · (first | assumption | rfl)
      · (first | assumption | rfl)
      · (first | assumption | rfl)
      subst hx
      rw [seqQ_normal, w_seq]
      refine W.mono (dg_st4 hT hH t3 K hf16 e13 e14 e15 e16) fun x e h4 ⟨hx, K, e13, e14, e15, e16, t4⟩ => ?_
      subst hx
      rw [seqQ_normal, w_seq]
      refine W.mono (dg_st5 hT hH t4 K hf16 e13 e14 e15 e16) fun x e h5 ⟨hx, K, e13, e14, e15, e16, t5⟩ => ?_
      subst hx
      rw [seqQ_normal, w_seq]
      refine W.mono (dg_st6 hT hH t5 K hf16 e13 e14 e15 e16) fun x e h6 ⟨hx, K, e13, e14, e15, e16, t6⟩ => ?_
      subst hx
      rw [seqQ_normal]
      refine W.mono (dg_st7 hT hH t6 K hf16 hz6 (by show g.out.length ≤ _; omega) e13 e14 e15 e16) fun x e h7 hq => ?_
      have fin : ∀ G : GS, g.out.length < G.out.length → (G.out.length : Int) ≤ many →
          (if G.s.bad then x = .ret ∧ e 4 = .slice none 0 0 ∧ e 5 = .int .i64 140 else x = .normal ∧ ∃ u', KG e rela fl many G u' ∧ DSt h7 G u') →
          blockQ 1 (seqQ T (.loop F_ref14_Decodel0) fun x e h => match (if G.s.bad then none else some G).bind (allS rela many n) with
            | none => x = .ret ∧ e 4 = .slice none 0 0 ∧ e 5 = .int .i64 140
            | some g' => x = .exit 0 ∧ ∃ u', KG e rela fl many g' u' ∧ DSt h g' u') x e h7 := fun G hg1 hg2 hq => by
        cases hb : G.s.bad
        · rw [hb] at hq
          obtain ⟨hx, u', K, t⟩ := hq
          subst hx
          simp only [fws, cond_true, cond_false, if_true, if_false, unV, isNil, optI, iV, stepI, evalR, reduceIte, reduceCtorEq, Nat.reduceEqDiff, Int.reduceLT, Int.reduceLE, Int.reduceToNat, Nat.reduceLT, Nat.reduceLeDiff, Int.reduceEq, Int.reduceNeg, IntKind.bits, Nat.reduceAdd, Nat.reduceMul, Nat.reducePow, Int.reducePow, ini, Option.bind_some]
          exact ih h7 G u' e (by omega) (by omega) hb t K
        · rw [hb] at hq
          obtain ⟨hx, e4, e5⟩ := hq
          subst hx
          simp only [fws, cond_true, cond_false, if_true, if_false, unV, isNil, optI, iV, stepI, evalR, reduceIte, reduceCtorEq, Nat.reduceEqDiff, Int.reduceLT, Int.reduceLE, Int.reduceToNat, Nat.reduceLT, Nat.reduceLeDiff, Int.reduceEq, Int.reduceNeg, IntKind.bits, Nat.reduceAdd, Nat.reduceMul, Nat.reducePow, Int.reducePow, ini, Option.bind_none]
          exact ⟨trivial, e4, e5⟩
      have hadd : ∀ (Q : LS) (a : Int), (if b8 f then (if b8 f && b4 f then IntKind.i64.wrap (a + (tk Q).2) else a) else 0) = (if b8 f then (if b4 f then IntKind.i64.wrap (a + (if b8 f && b4 f then tk Q else (Q, 0)).2) else a) else 0) := fun Q a => by
        cases b8 f <;> cases b4 f <;> rfl
      rw [hadd] at hq
      refine fin _ ?_ ?_ hq
      · rw [rowsS_len]; show g.out.length < g.out.length + z; omega
      · rw [rowsS_len]; show ((g.out.length + z : Nat) : Int) ≤ _; rw [hleft] at hb2; omega
    · have q' : ¬ ((g.out.length : Int) < many) := by omega
      rw [if_neg q]
      simp only [fws, cond_true, cond_false, if_true, if_false, unV, isNil, optI, iV, stepI, evalR, reduceIte, reduceCtorEq, Nat.reduceEqDiff, Int.reduceLT, Int.reduceLE, Int.reduceToNat, Nat.reduceLT, Nat.reduceLeDiff, Int.reduceEq, Int.reduceNeg, IntKind.bits, Nat.reduceAdd, Nat.reduceMul, Nat.reducePow, Int.reducePow, ini, fwi, F_ref14_Decoder0_W, F_ref14_Decoder1_W, F_ref14_Decoder1_g3, F_ref14_Decoder1_g9, F_ref14_Decoder1_g15, F_ref14_Decoder1_g21, F_ref14_Decoder2_W, F_ref14_Decoder3_W, F_ref14_Decoder4_W, F_ref14_Decoder5_W, F_ref14_Decoder6_W, F_ref14_Decoder7_W, F_ref14_Decoder7_g2, F_ref14_Decoder7_g6, F_ref14_Decoder8_W, F_ref14_Decoder9_W, F_ref14_Decoder10_W, F_ref14_Decoder11_W, F_ref14_Decoder12_W, F_ref14_Decoder13_W, F_ref14_Decoder14_W, F_ref14_Decoder15_W, F_ref14_Decoder15_g2, F_ref14_Decoder15_g6, F_ref14_Decoder15_g14, F_ref14_Decoder15_g18, F_ref14_Decoder15_g22, F_ref14_Decoder15_g25, F_ref14_Decoder16_W, F_ref14_Decoder17_W, F_ref14_Decoder18_W, F_ref14_Decoder19_W, F_ref14_Decoder20_W, F_ref14_Decoder21_W, F_ref14_Decoder22_W, F_ref14_Decoder22_g2, F_ref14_Decoder23_W, F_ref14_Decoder24_W, F_ref14_Decoder25_W, F_ref14_Decoder26_W, F_ref14_Decoder27_W, F_ref14_Decoder28_W, F_ref14_Decoder30_W, F_ref14_Decoder31_W, F_ref14_Decoder32_W, F_ref14_Decoder33_W, F_ref14_Decoder34_W, F_ref14_Decoder34_g2, F_ref14_Decoder35_W, F_ref14_Decoder36_W, F_ref14_Decoder37_W, F_ref14_Decoder38_W, F_ref14_Decoder39_W, F_ref14_Decoder40_W, F_ref14_Decoder41_W, F_ref14_Decoder29_W, F_ref14_Decodel1_W, F_ref14_Decoder42_W, F_ref14_Decoder43_W, F_ref14_Decodel0_W, F_ref14_Decoder44_W, F_ref14_Decoder44_g4, F_ref14_Decoder45_W, F_ref14_Decoder46_W, F_ref14_Decodec_W, F_ref14_Decoder0_W, F_ref14_Decoder1_W, F_ref14_Decoder1_g3, F_ref14_Decoder1_g9, F_ref14_Decoder1_g15, F_ref14_Decoder1_g21, F_ref14_Decoder2_W, F_ref14_Decoder3_W, F_ref14_Decoder4_W, F_ref14_Decoder5_W, F_ref14_Decoder6_W, F_ref14_Decoder7_W, F_ref14_Decoder7_g2, F_ref14_Decoder7_g6, F_ref14_Decoder8_W, F_ref14_Decoder9_W, F_ref14_Decoder10_W, F_ref14_Decoder11_W, F_ref14_Decoder12_W, F_ref14_Decoder13_W, F_ref14_Decoder14_W, F_ref14_Decoder15_W, F_ref14_Decoder15_g2, F_ref14_Decoder15_g6, F_ref14_Decoder15_g14, F_ref14_Decoder15_g18, F_ref14_Decoder15_g22, F_ref14_Decoder15_g25, F_ref14_Decoder16_W, F_ref14_Decoder17_W, F_ref14_Decoder18_W, F_ref14_Decoder19_W, F_ref14_Decoder20_W, F_ref14_Decoder21_W, F_ref14_Decoder22_W, F_ref14_Decoder22_g2, F_ref14_Decoder23_W, F_ref14_Decoder24_W, F_ref14_Decoder25_W, F_ref14_Decoder26_W, F_ref14_Decoder27_W, F_ref14_Decoder28_W, F_ref14_Decoder30_W, F_ref14_Decoder31_W, F_ref14_Decoder32_W, F_ref14_Decoder33_W, F_ref14_Decoder34_W, F_ref14_Decoder34_g2, F_ref14_Decoder35_W, F_ref14_Decoder36_W, F_ref14_Decoder37_W, F_ref14_Decoder38_W, F_ref14_Decoder39_W, F_ref14_Decoder40_W, F_ref14_Decoder41_W, F_ref14_Decoder29_W, F_ref14_Decodel1_W, F_ref14_Decoder42_W, F_ref14_Decoder43_W, F_ref14_Decodel0_W, F_ref14_Decoder44_W, F_ref14_Decoder44_g4, F_ref14_Decoder45_W, F_ref14_Decoder46_W, F_ref14_Decodec_W, k9, d11, hlen, q']
      exact ⟨trivial, u, ⟨by (first | assumption | rfl), by (first | assumption | rfl), by (first | assumption | rfl), by (first | assumption | rfl), by (first | assumption | rfl), by (first | assumption | rfl), by (first | assumption | rfl)⟩, t⟩
end
end Go.Proofs.Ytdkdifjjpbfohaa
