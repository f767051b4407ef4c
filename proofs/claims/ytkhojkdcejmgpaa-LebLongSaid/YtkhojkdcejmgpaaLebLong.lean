/- LebLong: a number in more groups than it wants. -/
import Derived.Test.YtkhojkdcejmgpaaLebBack
namespace Go.Proofs.Ytkhojkdcejmgpaa
open Go Fw
set_option linter.unusedSimpArgs false
set_option linter.unusedVariables false

theorem says_split {n : Int} {g : List UInt8} (h : says n g) : ∃ g0 c, g = g0 ++ [c] ∧ c.toNat < 128 := by
  refine ⟨g.dropLast, g.getLast h.1, (List.dropLast_concat_getLast h.1).symm, ?_⟩
  have h0 : 0 < g.length := List.length_pos_iff.2 h.1
  have := (h.2.1 (g.length - 1) (by omega)).2 (by omega)
  rwa [List.getLast_eq_getElem]
theorem loop_LebLong (n : Int) (more : Int) : ∀ (m i : Nat) (g : List UInt8) (H : Heap) (env : Env), g.length + m = 10 → i ≤ g.length → says n g → env 0 = .int .i64 n → env 1 = .int .i64 more → env 6 = .int .i64 i → Acc byteE [] (env 5) H g →
    W TLeb (.loop F_law03_LebLongl0) env H fun x e h => x = .exit 0 ∧ e 0 = .int .i64 n ∧ ∃ g', Acc byteE [] (e 5) h g' ∧ says n g' ∧ g'.length ≤ 10 := by
  intro m
  induction m with
  | zero =>
    intro i g H env hm hi hs v0 v1 v6 ha
    have q2 : ¬ ((g.length : Int) < 10) := by omega
    rw [w_loop]
    by_cases h1 : (i : Int) < more
    · simp only [fws, cond_true, cond_false, if_true, if_false, unV, isNil, optI, iV, stepI, evalR, reduceIte, reduceCtorEq, Nat.reduceEqDiff, Int.reduceLT, Int.reduceLE, Int.reduceToNat, Nat.reduceLT, Nat.reduceLeDiff, Int.reduceEq, Int.reduceNeg, IntKind.bits, Nat.reduceAdd, Nat.reduceMul, Nat.reducePow, Int.reducePow, ini, F_law03_LebLongr0_W, F_law03_LebLongr1_W, F_law03_LebLongr2_W, F_law03_LebLongr3_W, F_law03_LebLongr4_W, F_law03_LebLongr5_W, F_law03_LebLongr6_W, F_law03_LebLongr6_g3, F_law03_LebLongr8_W, F_law03_LebLongr9_W, F_law03_LebLongr10_W, F_law03_LebLongr11_W, F_law03_LebLongr12_W, F_law03_LebLongr7_W, F_law03_LebLongl0_W, F_law03_LebLongr13_W, F_law03_LebLongr14_W, F_law03_LebLongr14_g2, F_law03_LebLongr14_g8, F_law03_LebLongr14_g13, F_law03_LebLongr14_g18, F_law03_LebLongc_W, v0, v1, v6, h1, ha.len, q2]
      exact ⟨trivial, trivial, g, ha, hs, by omega⟩
    · simp only [fws, cond_true, cond_false, if_true, if_false, unV, isNil, optI, iV, stepI, evalR, reduceIte, reduceCtorEq, Nat.reduceEqDiff, Int.reduceLT, Int.reduceLE, Int.reduceToNat, Nat.reduceLT, Nat.reduceLeDiff, Int.reduceEq, Int.reduceNeg, IntKind.bits, Nat.reduceAdd, Nat.reduceMul, Nat.reducePow, Int.reducePow, ini, F_law03_LebLongr0_W, F_law03_LebLongr1_W, F_law03_LebLongr2_W, F_law03_LebLongr3_W, F_law03_LebLongr4_W, F_law03_LebLongr5_W, F_law03_LebLongr6_W, F_law03_LebLongr6_g3, F_law03_LebLongr8_W, F_law03_LebLongr9_W, F_law03_LebLongr10_W, F_law03_LebLongr11_W, F_law03_LebLongr12_W, F_law03_LebLongr7_W, F_law03_LebLongl0_W, F_law03_LebLongr13_W, F_law03_LebLongr14_W, F_law03_LebLongr14_g2, F_law03_LebLongr14_g8, F_law03_LebLongr14_g13, F_law03_LebLongr14_g18, F_law03_LebLongc_W, v0, v1, v6, h1]
      exact ⟨trivial, trivial, g, ha, hs, by omega⟩
  | succ m ih =>
    intro i g H env hm hi hs v0 v1 v6 ha
    have q2 : ((g.length : Int) < 10) := by omega
    rw [w_loop]
    by_cases h1 : (i : Int) < more
    · obtain ⟨g0, c, rfl, hc⟩ := says_split hs
      have hlen : (g0 ++ [c]).length = g0.length + 1 := by simp
      rw [hlen] at q2 hm
      have w1 : IntKind.i64.wrap (((g0.length + 1 : Nat) : Int) - 1) = (g0.length : Int) := by rw [wrapI64 (by omega) (by omega)]; omega
      have w2 : IntKind.i64.wrap ((i : Int) + 1) = ((i + 1 : Nat) : Int) := by rw [wrapI64 (by omega) (by omega)]; rfl
      obtain ⟨a, tag, cs, a1, a2, a3, a4, a5⟩ := ha.ix1 (f := fun c => .int .u8 c.toNat) rfl (i := g0.length) (by omega) .i64 (fun _ => rfl)
      have e1 : (g0 ++ [c])[g0.length]'(by omega) = c := by simp
      rw [e1] at a2
      have o1 : Go.bits .or .u8 (c.toNat : Int) 128 = ((UInt8.ofNat (c.toNat + 128)).toNat : Int) := by
        rw [or128 (by omega) (by omega), UInt8.toNat_ofNat']; omega
      have a4' : a.off + 1 ≤ cs.length := a4
      have a6 := a5 (UInt8.ofNat (c.toNat + 128))
      have e2 : (g0 ++ [c]).set g0.length (UInt8.ofNat (c.toNat + 128)) = g0 ++ [UInt8.ofNat (c.toNat + 128)] := by
        rw [List.set_append_right _ _ (Nat.le_refl _), Nat.sub_self, List.set_cons_zero]
      rw [e2] at a6
      have a7 := a6.len
      have hlen2 : (g0 ++ [UInt8.ofNat (c.toNat + 128)]).length = g0.length + 1 := by simp
      have hlen3 : ∀ d, (g0 ++ [UInt8.ofNat (c.toNat + 128)] ++ [d]).length = g0.length + 2 := by simp
      have n1 := and64' c.toNat hc
      by_cases h64 : 64 ≤ c.toNat
      · rw [if_pos h64] at n1
        obtain ⟨v', H', b1, b2⟩ := a6.app1 (n := 1) (eb := 1) rfl (127 : UInt8) (cs := [.int .u8 127]) rfl (by omega)
        simp only [fws, cond_true, cond_false, if_true, if_false, unV, isNil, optI, iV, stepI, evalR, reduceIte, reduceCtorEq, Nat.reduceEqDiff, Int.reduceLT, Int.reduceLE, Int.reduceToNat, Nat.reduceLT, Nat.reduceLeDiff, Int.reduceEq, Int.reduceNeg, IntKind.bits, Nat.reduceAdd, Nat.reduceMul, Nat.reducePow, Int.reducePow, ini, fwi, F_law03_LebLongr0_W, F_law03_LebLongr1_W, F_law03_LebLongr2_W, F_law03_LebLongr3_W, F_law03_LebLongr4_W, F_law03_LebLongr5_W, F_law03_LebLongr6_W, F_law03_LebLongr6_g3, F_law03_LebLongr8_W, F_law03_LebLongr9_W, F_law03_LebLongr10_W, F_law03_LebLongr11_W, F_law03_LebLongr12_W, F_law03_LebLongr7_W, F_law03_LebLongl0_W, F_law03_LebLongr13_W, F_law03_LebLongr14_W, F_law03_LebLongr14_g2, F_law03_LebLongr14_g8, F_law03_LebLongr14_g13, F_law03_LebLongr14_g18, F_law03_LebLongc_W, v0, v1, v6, h1, ha.len, hlen, q2, w1, a1, a2, o1, a3, a4', cells_int, oneAll_int, n1, List.set_cons_zero, fillL, zr, spl, List.length_cons, List.length_nil, List.replicate, List.flatten_cons, List.flatten_nil, List.append_nil, List.size_toArray, srcOf_immV, rdN, List.all_cons, List.all_nil, oneC, b1, w2]
        refine W.mono (ih (i + 1) _ H' _ (by rw [hlen3]; omega) (by rw [hlen3]; omega) (says_more hs (d := 127) (c' := UInt8.ofNat (c.toNat + 128)) (by rw [if_pos h64]; rfl) (by rw [UInt8.toNat_ofNat']; omega)) ?_ ?_ ?_ ?_) fun _ _ _ h => h
        · (first | (simp only [fws, cond_true, cond_false, if_true, if_false, unV, isNil, optI, iV, stepI, evalR, reduceIte, reduceCtorEq, Nat.reduceEqDiff, Int.reduceLT, Int.reduceLE, Int.reduceToNat, Nat.reduceLT, Nat.reduceLeDiff, Int.reduceEq, Int.reduceNeg, IntKind.bits, Nat.reduceAdd, Nat.reduceMul, Nat.reducePow, Int.reducePow, ini, *]; done) | (simp only [fws, cond_true, cond_false, if_true, if_false, unV, isNil, optI, iV, stepI, evalR, reduceIte, reduceCtorEq, Nat.reduceEqDiff, Int.reduceLT, Int.reduceLE, Int.reduceToNat, Nat.reduceLT, Nat.reduceLeDiff, Int.reduceEq, Int.reduceNeg, IntKind.bits, Nat.reduceAdd, Nat.reduceMul, Nat.reducePow, Int.reducePow, ini]; rfl))
        · (first | (simp only [fws, cond_true, cond_false, if_true, if_false, unV, isNil, optI, iV, stepI, evalR, reduceIte, reduceCtorEq, Nat.reduceEqDiff, Int.reduceLT, Int.reduceLE, Int.reduceToNat, Nat.reduceLT, Nat.reduceLeDiff, Int.reduceEq, Int.reduceNeg, IntKind.bits, Nat.reduceAdd, Nat.reduceMul, Nat.reducePow, Int.reducePow, ini, *]; done) | (simp only [fws, cond_true, cond_false, if_true, if_false, unV, isNil, optI, iV, stepI, evalR, reduceIte, reduceCtorEq, Nat.reduceEqDiff, Int.reduceLT, Int.reduceLE, Int.reduceToNat, Nat.reduceLT, Nat.reduceLeDiff, Int.reduceEq, Int.reduceNeg, IntKind.bits, Nat.reduceAdd, Nat.reduceMul, Nat.reducePow, Int.reducePow, ini]; rfl))
        · (first | (simp only [fws, cond_true, cond_false, if_true, if_false, unV, isNil, optI, iV, stepI, evalR, reduceIte, reduceCtorEq, Nat.reduceEqDiff, Int.reduceLT, Int.reduceLE, Int.reduceToNat, Nat.reduceLT, Nat.reduceLeDiff, Int.reduceEq, Int.reduceNeg, IntKind.bits, Nat.reduceAdd, Nat.reduceMul, Nat.reducePow, Int.reducePow, ini, *]; done) | (simp only [fws, cond_true, cond_false, if_true, if_false, unV, isNil, optI, iV, stepI, evalR, reduceIte, reduceCtorEq, Nat.reduceEqDiff, Int.reduceLT, Int.reduceLE, Int.reduceToNat, Nat.reduceLT, Nat.reduceLeDiff, Int.reduceEq, Int.reduceNeg, IntKind.bits, Nat.reduceAdd, Nat.reduceMul, Nat.reducePow, Int.reducePow, ini]; rfl))
        · simp only [fws, cond_true, cond_false, if_true, if_false, unV, isNil, optI, iV, stepI, evalR, reduceIte, reduceCtorEq, Nat.reduceEqDiff, Int.reduceLT, Int.reduceLE, Int.reduceToNat, Nat.reduceLT, Nat.reduceLeDiff, Int.reduceEq, Int.reduceNeg, IntKind.bits, Nat.reduceAdd, Nat.reduceMul, Nat.reducePow, Int.reducePow, ini]; exact b2
      · rw [if_neg h64] at n1
        obtain ⟨v', H', b1, b2⟩ := a6.app1 (n := 1) (eb := 1) rfl (0 : UInt8) (cs := [.int .u8 0]) rfl (by omega)
        simp only [fws, cond_true, cond_false, if_true, if_false, unV, isNil, optI, iV, stepI, evalR, reduceIte, reduceCtorEq, Nat.reduceEqDiff, Int.reduceLT, Int.reduceLE, Int.reduceToNat, Nat.reduceLT, Nat.reduceLeDiff, Int.reduceEq, Int.reduceNeg, IntKind.bits, Nat.reduceAdd, Nat.reduceMul, Nat.reducePow, Int.reducePow, ini, fwi, F_law03_LebLongr0_W, F_law03_LebLongr1_W, F_law03_LebLongr2_W, F_law03_LebLongr3_W, F_law03_LebLongr4_W, F_law03_LebLongr5_W, F_law03_LebLongr6_W, F_law03_LebLongr6_g3, F_law03_LebLongr8_W, F_law03_LebLongr9_W, F_law03_LebLongr10_W, F_law03_LebLongr11_W, F_law03_LebLongr12_W, F_law03_LebLongr7_W, F_law03_LebLongl0_W, F_law03_LebLongr13_W, F_law03_LebLongr14_W, F_law03_LebLongr14_g2, F_law03_LebLongr14_g8, F_law03_LebLongr14_g13, F_law03_LebLongr14_g18, F_law03_LebLongc_W, v0, v1, v6, h1, ha.len, hlen, q2, w1, a1, a2, o1, a3, a4', cells_int, oneAll_int, n1, List.set_cons_zero, fillL, zr, spl, List.length_cons, List.length_nil, List.replicate, List.flatten_cons, List.flatten_nil, List.append_nil, List.size_toArray, srcOf_immV, rdN, List.all_cons, List.all_nil, oneC, b1, w2]
        refine W.mono (ih (i + 1) _ H' _ (by rw [hlen3]; omega) (by rw [hlen3]; omega) (says_more hs (d := 0) (c' := UInt8.ofNat (c.toNat + 128)) (by rw [if_neg h64]; rfl) (by rw [UInt8.toNat_ofNat']; omega)) ?_ ?_ ?_ ?_) fun _ _ _ h => h
        · (first | (simp only [fws, cond_true, cond_false, if_true, if_false, unV, isNil, optI, iV, stepI, evalR, reduceIte, reduceCtorEq, Nat.reduceEqDiff, Int.reduceLT, Int.reduceLE, Int.reduceToNat, Nat.reduceLT, Nat.reduceLeDiff, Int.reduceEq, Int.reduceNeg, IntKind.bits, Nat.reduceAdd, Nat.reduceMul, Nat.reducePow, Int.reducePow, ini, *]; done) | (simp only [fws, cond_true, cond_false, if_true, if_false, unV, isNil, optI, iV, stepI, evalR, reduceIte, reduceCtorEq, Nat.reduceEqDiff, Int.reduceLT, Int.reduceLE, Int.reduceToNat, Nat.reduceLT, Nat.reduceLeDiff, Int.reduceEq, Int.reduceNeg, IntKind.bits, Nat.reduceAdd, Nat.reduceMul, Nat.reducePow, Int.reducePow, ini]; rfl))
        · (first | (simp only [fws, cond_true, cond_false, if_true, if_false, unV, isNil, optI, iV, stepI, evalR, reduceIte, reduceCtorEq, Nat.reduceEqDiff, Int.reduceLT, Int.reduceLE, Int.reduceToNat, Nat.reduceLT, Nat.reduceLeDiff, Int.reduceEq, Int.reduceNeg, IntKind.bits, Nat.reduceAdd, Nat.reduceMul, Nat.reducePow, Int.reducePow, ini, *]; done) | (simp only [fws, cond_true, cond_false, if_true, if_false, unV, isNil, optI, iV, stepI, evalR, reduceIte, reduceCtorEq, Nat.reduceEqDiff, Int.reduceLT, Int.reduceLE, Int.reduceToNat, Nat.reduceLT, Nat.reduceLeDiff, Int.reduceEq, Int.reduceNeg, IntKind.bits, Nat.reduceAdd, Nat.reduceMul, Nat.reducePow, Int.reducePow, ini]; rfl))
        · (first | (simp only [fws, cond_true, cond_false, if_true, if_false, unV, isNil, optI, iV, stepI, evalR, reduceIte, reduceCtorEq, Nat.reduceEqDiff, Int.reduceLT, Int.reduceLE, Int.reduceToNat, Nat.reduceLT, Nat.reduceLeDiff, Int.reduceEq, Int.reduceNeg, IntKind.bits, Nat.reduceAdd, Nat.reduceMul, Nat.reducePow, Int.reducePow, ini, *]; done) | (simp only [fws, cond_true, cond_false, if_true, if_false, unV, isNil, optI, iV, stepI, evalR, reduceIte, reduceCtorEq, Nat.reduceEqDiff, Int.reduceLT, Int.reduceLE, Int.reduceToNat, Nat.reduceLT, Nat.reduceLeDiff, Int.reduceEq, Int.reduceNeg, IntKind.bits, Nat.reduceAdd, Nat.reduceMul, Nat.reducePow, Int.reducePow, ini]; rfl))
        · simp only [fws, cond_true, cond_false, if_true, if_false, unV, isNil, optI, iV, stepI, evalR, reduceIte, reduceCtorEq, Nat.reduceEqDiff, Int.reduceLT, Int.reduceLE, Int.reduceToNat, Nat.reduceLT, Nat.reduceLeDiff, Int.reduceEq, Int.reduceNeg, IntKind.bits, Nat.reduceAdd, Nat.reduceMul, Nat.reducePow, Int.reducePow, ini]; exact b2
    · simp only [fws, cond_true, cond_false, if_true, if_false, unV, isNil, optI, iV, stepI, evalR, reduceIte, reduceCtorEq, Nat.reduceEqDiff, Int.reduceLT, Int.reduceLE, Int.reduceToNat, Nat.reduceLT, Nat.reduceLeDiff, Int.reduceEq, Int.reduceNeg, IntKind.bits, Nat.reduceAdd, Nat.reduceMul, Nat.reducePow, Int.reducePow, ini, F_law03_LebLongr0_W, F_law03_LebLongr1_W, F_law03_LebLongr2_W, F_law03_LebLongr3_W, F_law03_LebLongr4_W, F_law03_LebLongr5_W, F_law03_LebLongr6_W, F_law03_LebLongr6_g3, F_law03_LebLongr8_W, F_law03_LebLongr9_W, F_law03_LebLongr10_W, F_law03_LebLongr11_W, F_law03_LebLongr12_W, F_law03_LebLongr7_W, F_law03_LebLongl0_W, F_law03_LebLongr13_W, F_law03_LebLongr14_W, F_law03_LebLongr14_g2, F_law03_LebLongr14_g8, F_law03_LebLongr14_g13, F_law03_LebLongr14_g18, F_law03_LebLongc_W, v0, v1, v6, h1]
      exact ⟨trivial, trivial, g, ha, hs, by omega⟩

theorem law_LebLong {n : Int} (hn : isI64 n) (more : Int) : Ev TLeb 12 [.int .i64 n, .int .i64 more] [] fun v _ => v = .bool true := by
  rw [Ev_fn rfl rfl]
  have c0 := ev_leb_PutS (T := TLeb) rfl hn.1 hn.2 []
  have h1 := hn.1
  have h2 := hn.2
  have hs : says n (putS 10 n) := ⟨putS_ne, putS_low 9 n (by omega) (by omega), sval_putS 9 n (by omega) (by omega)⟩
  have h0 : 0 < (putS 10 n).length := List.length_pos_iff.2 putS_ne
  have h10 := putS_len 10 n
  have q0 : ¬ (((putS 10 n).length : Int) = 0) := by omega
  simp only [F_law03_LebLong, fws, cond_true, cond_false, if_true, if_false, unV, isNil, optI, iV, stepI, evalR, reduceIte, reduceCtorEq, Nat.reduceEqDiff, Int.reduceLT, Int.reduceLE, Int.reduceToNat, Nat.reduceLT, Nat.reduceLeDiff, Int.reduceEq, Int.reduceNeg, IntKind.bits, Nat.reduceAdd, Nat.reduceMul, Nat.reducePow, Int.reducePow, ini, fwi, F_law03_LebLongr0_W, F_law03_LebLongr1_W, F_law03_LebLongr2_W, F_law03_LebLongr3_W, F_law03_LebLongr4_W, F_law03_LebLongr5_W, F_law03_LebLongr6_W, F_law03_LebLongr6_g3, F_law03_LebLongr8_W, F_law03_LebLongr9_W, F_law03_LebLongr10_W, F_law03_LebLongr11_W, F_law03_LebLongr12_W, F_law03_LebLongr7_W, F_law03_LebLongl0_W, F_law03_LebLongr13_W, F_law03_LebLongr14_W, F_law03_LebLongr14_g2, F_law03_LebLongr14_g8, F_law03_LebLongr14_g13, F_law03_LebLongr14_g18, F_law03_LebLongc_W]
  refine c0.mono fun v H ha => ?_
  simp only [fws, cond_true, cond_false, if_true, if_false, unV, isNil, optI, iV, stepI, evalR, reduceIte, reduceCtorEq, Nat.reduceEqDiff, Int.reduceLT, Int.reduceLE, Int.reduceToNat, Nat.reduceLT, Nat.reduceLeDiff, Int.reduceEq, Int.reduceNeg, IntKind.bits, Nat.reduceAdd, Nat.reduceMul, Nat.reducePow, Int.reducePow, ini, fwi, F_law03_LebLongr0_W, F_law03_LebLongr1_W, F_law03_LebLongr2_W, F_law03_LebLongr3_W, F_law03_LebLongr4_W, F_law03_LebLongr5_W, F_law03_LebLongr6_W, F_law03_LebLongr6_g3, F_law03_LebLongr8_W, F_law03_LebLongr9_W, F_law03_LebLongr10_W, F_law03_LebLongr11_W, F_law03_LebLongr12_W, F_law03_LebLongr7_W, F_law03_LebLongl0_W, F_law03_LebLongr13_W, F_law03_LebLongr14_W, F_law03_LebLongr14_g2, F_law03_LebLongr14_g8, F_law03_LebLongr14_g13, F_law03_LebLongr14_g18, F_law03_LebLongc_W, ha.len, q0]
  refine W.mono (loop_LebLong n ((IntKind.i64.wrap (more.tmod 10 + 10)).tmod 10) (10 - (putS 10 n).length) 0 (putS 10 n) H _ (by omega) (Nat.zero_le _) hs ?_ ?_ ?_ ?_) fun x e h ⟨g1, g2, g, g3, g4, g5⟩ => ?_
  · (first | (simp only [fws, cond_true, cond_false, if_true, if_false, unV, isNil, optI, iV, stepI, evalR, reduceIte, reduceCtorEq, Nat.reduceEqDiff, Int.reduceLT, Int.reduceLE, Int.reduceToNat, Nat.reduceLT, Nat.reduceLeDiff, Int.reduceEq, Int.reduceNeg, IntKind.bits, Nat.reduceAdd, Nat.reduceMul, Nat.reducePow, Int.reducePow, ini, *]; done) | (simp only [fws, cond_true, cond_false, if_true, if_false, unV, isNil, optI, iV, stepI, evalR, reduceIte, reduceCtorEq, Nat.reduceEqDiff, Int.reduceLT, Int.reduceLE, Int.reduceToNat, Nat.reduceLT, Nat.reduceLeDiff, Int.reduceEq, Int.reduceNeg, IntKind.bits, Nat.reduceAdd, Nat.reduceMul, Nat.reducePow, Int.reducePow, ini]; rfl))
  · (first | (simp only [fws, cond_true, cond_false, if_true, if_false, unV, isNil, optI, iV, stepI, evalR, reduceIte, reduceCtorEq, Nat.reduceEqDiff, Int.reduceLT, Int.reduceLE, Int.reduceToNat, Nat.reduceLT, Nat.reduceLeDiff, Int.reduceEq, Int.reduceNeg, IntKind.bits, Nat.reduceAdd, Nat.reduceMul, Nat.reducePow, Int.reducePow, ini, *]; done) | (simp only [fws, cond_true, cond_false, if_true, if_false, unV, isNil, optI, iV, stepI, evalR, reduceIte, reduceCtorEq, Nat.reduceEqDiff, Int.reduceLT, Int.reduceLE, Int.reduceToNat, Nat.reduceLT, Nat.reduceLeDiff, Int.reduceEq, Int.reduceNeg, IntKind.bits, Nat.reduceAdd, Nat.reduceMul, Nat.reducePow, Int.reducePow, ini]; rfl))
  · (first | (simp only [fws, cond_true, cond_false, if_true, if_false, unV, isNil, optI, iV, stepI, evalR, reduceIte, reduceCtorEq, Nat.reduceEqDiff, Int.reduceLT, Int.reduceLE, Int.reduceToNat, Nat.reduceLT, Nat.reduceLeDiff, Int.reduceEq, Int.reduceNeg, IntKind.bits, Nat.reduceAdd, Nat.reduceMul, Nat.reducePow, Int.reducePow, ini, *]; done) | (simp only [fws, cond_true, cond_false, if_true, if_false, unV, isNil, optI, iV, stepI, evalR, reduceIte, reduceCtorEq, Nat.reduceEqDiff, Int.reduceLT, Int.reduceLE, Int.reduceToNat, Nat.reduceLT, Nat.reduceLeDiff, Int.reduceEq, Int.reduceNeg, IntKind.bits, Nat.reduceAdd, Nat.reduceMul, Nat.reducePow, Int.reducePow, ini]; rfl))
  · simp only [fws, cond_true, cond_false, if_true, if_false, unV, isNil, optI, iV, stepI, evalR, reduceIte, reduceCtorEq, Nat.reduceEqDiff, Int.reduceLT, Int.reduceLE, Int.reduceToNat, Nat.reduceLT, Nat.reduceLeDiff, Int.reduceEq, Int.reduceNeg, IntKind.bits, Nat.reduceAdd, Nat.reduceMul, Nat.reducePow, Int.reducePow, ini]; exact ha
  subst g1
  have c1 := ev_leb_Read (T := TLeb) rfl h g (by omega) (e 5) (g3.src rfl)
  have c2 := ev_S_end h g (by omega) (at_ := 0) (by omega) (n := n) (m := g.length) (by
    rw [List.drop_zero]
    have := sR_of (r := []) g4.1 g4.2.1 g5 g4.2.2 hn
    rwa [List.append_nil] at this)
  rw [Nat.zero_add] at c2
  have c3 := ev_Fail_end h g g.length
  have c4 := ev_Left_end h g (by omega)
  simp only [fws, cond_true, cond_false, if_true, if_false, unV, isNil, optI, iV, stepI, evalR, reduceIte, reduceCtorEq, Nat.reduceEqDiff, Int.reduceLT, Int.reduceLE, Int.reduceToNat, Nat.reduceLT, Nat.reduceLeDiff, Int.reduceEq, Int.reduceNeg, IntKind.bits, Nat.reduceAdd, Nat.reduceMul, Nat.reducePow, Int.reducePow, ini, fwh, lk, cellsAt, tagOf, spotOf, rdN, spl, fillL, zr, fwi, F_law03_LebLongr0_W, F_law03_LebLongr1_W, F_law03_LebLongr2_W, F_law03_LebLongr3_W, F_law03_LebLongr4_W, F_law03_LebLongr5_W, F_law03_LebLongr6_W, F_law03_LebLongr6_g3, F_law03_LebLongr8_W, F_law03_LebLongr9_W, F_law03_LebLongr10_W, F_law03_LebLongr11_W, F_law03_LebLongr12_W, F_law03_LebLongr7_W, F_law03_LebLongl0_W, F_law03_LebLongr13_W, F_law03_LebLongr14_W, F_law03_LebLongr14_g2, F_law03_LebLongr14_g8, F_law03_LebLongr14_g13, F_law03_LebLongr14_g18, F_law03_LebLongc_W, g2, Ev_det c1, Ev_det c2, Ev_det c3, Ev_det c4, CC_of leb_alive]
end Go.Proofs.Ytkhojkdcejmgpaa
