/- The document's multiple. -/
import Derived.Test.YtleogcfmlpmbiaaLeJ
import Derived.Test.YtleogcfmlpmbiaaLeK
namespace Go.Proofs.Ytleogcfmlpmbiaa
open Go Fw
set_option linter.unusedSimpArgs false
set_option linter.unusedVariables false

theorem powB_pow (k : Nat) : powB (2 ^ k) = true := by
  have h := (Nat.ne_zero_and_sub_one_eq_zero_iff_isPowerOfTwo (n := 2 ^ k)).2 ⟨k, rfl⟩
  unfold powB
  simp [h.1, h.2]
theorem powB_ex {n : Nat} (h : powB n = true) : ∃ k, n = 2 ^ k := by
  unfold powB at h
  simp at h
  exact (Nat.ne_zero_and_sub_one_eq_zero_iff_isPowerOfTwo (n := n)).1 h
theorem loop_To0 {T : Tab} (u : Int) (v : Value) : ∀ (m j : Nat) (H : Heap) (env : Env), j + m = 18 → (∀ i, i < j → ((2 ^ i : Nat) : Int) < u) → env 0 = v → env 1 = .int .i64 u → env 5 = .int .i64 (2 ^ j : Nat) →
    W T (.loop F_ref02_Tol0) env H fun x e h => x = .exit 0 ∧ h = H ∧ e 0 = v ∧ e 1 = .int .i64 u ∧ ∃ j : Nat, j ≤ 18 ∧ e 5 = .int .i64 (2 ^ j : Nat) ∧ (∀ i, i < j → ((2 ^ i : Nat) : Int) < u) ∧ (u ≤ (2 ^ j : Nat) ∨ j = 18) := by
  intro m
  induction m with
  | zero =>
    intro j H env hj hu e0 e1 e5
    have : j = 18 := by omega
    subst this
    rw [w_loop]
    have e5 : env 5 = .int .i64 262144 := e5
    by_cases q : (262144 : Int) < u
    · simp only [fws, cond_true, cond_false, if_true, if_false, unV, isNil, optI, iV, stepI, evalR, reduceIte, reduceCtorEq, Nat.reduceEqDiff, Int.reduceLT, Int.reduceLE, Int.reduceToNat, Nat.reduceLT, Nat.reduceLeDiff, Int.reduceEq, Int.reduceNeg, IntKind.bits, Nat.reduceAdd, Nat.reduceMul, Nat.reducePow, Int.reducePow, ini, F_ref02_Tor0_W, F_ref02_Tor1_W, F_ref02_Tor2_W, F_ref02_Tor2_g3, F_ref02_Tor3_W, F_ref02_Tol0_W, F_ref02_Tor4_W, F_ref02_Tor5_W, F_ref02_Tor6_W, F_ref02_Tor7_W, F_ref02_Tol1_W, F_ref02_Tor8_W, F_ref02_Toc_W, e0, e1, e5, q]
      exact ⟨trivial, trivial, trivial, trivial, 18, Nat.le_refl _, rfl, hu, .inr rfl⟩
    · simp only [fws, cond_true, cond_false, if_true, if_false, unV, isNil, optI, iV, stepI, evalR, reduceIte, reduceCtorEq, Nat.reduceEqDiff, Int.reduceLT, Int.reduceLE, Int.reduceToNat, Nat.reduceLT, Nat.reduceLeDiff, Int.reduceEq, Int.reduceNeg, IntKind.bits, Nat.reduceAdd, Nat.reduceMul, Nat.reducePow, Int.reducePow, ini, F_ref02_Tor0_W, F_ref02_Tor1_W, F_ref02_Tor2_W, F_ref02_Tor2_g3, F_ref02_Tor3_W, F_ref02_Tol0_W, F_ref02_Tor4_W, F_ref02_Tor5_W, F_ref02_Tor6_W, F_ref02_Tor7_W, F_ref02_Tol1_W, F_ref02_Tor8_W, F_ref02_Toc_W, e0, e1, e5, q]
      exact ⟨trivial, trivial, trivial, trivial, 18, Nat.le_refl _, rfl, hu, .inr rfl⟩
  | succ m ih =>
    intro j H env hj hu e0 e1 e5
    have hp : (2 ^ j : Nat) ≤ 2 ^ 17 := Nat.pow_le_pow_right (by decide) (by omega)
    have hp1 : (2 : Nat) ^ (j + 1) = 2 ^ j * 2 := Nat.pow_succ ..
    rw [w_loop]
    by_cases q : ((2 ^ j : Nat) : Int) < u
    · have q2 : ((2 ^ j : Nat) : Int) < 262144 := by omega
      have w : IntKind.i64.wrap (((2 ^ j : Nat) : Int) * 2) = ((2 ^ (j + 1) : Nat) : Int) := by rw [wrapI64 (by omega) (by omega)]; omega
      simp only [fws, cond_true, cond_false, if_true, if_false, unV, isNil, optI, iV, stepI, evalR, reduceIte, reduceCtorEq, Nat.reduceEqDiff, Int.reduceLT, Int.reduceLE, Int.reduceToNat, Nat.reduceLT, Nat.reduceLeDiff, Int.reduceEq, Int.reduceNeg, IntKind.bits, Nat.reduceAdd, Nat.reduceMul, Nat.reducePow, Int.reducePow, ini, F_ref02_Tor0_W, F_ref02_Tor1_W, F_ref02_Tor2_W, F_ref02_Tor2_g3, F_ref02_Tor3_W, F_ref02_Tol0_W, F_ref02_Tor4_W, F_ref02_Tor5_W, F_ref02_Tor6_W, F_ref02_Tor7_W, F_ref02_Tol1_W, F_ref02_Tor8_W, F_ref02_Toc_W, e0, e1, e5, q, q2, w]
      refine ih (j + 1) H _ (by omega) (fun i hi => ?_) ?_ ?_ ?_
      · rcases Nat.lt_or_ge i j with h | h
        · exact hu i h
        · have : i = j := by omega
          subst this
          exact q
      · (first | (simp only [fws, cond_true, cond_false, if_true, if_false, unV, isNil, optI, iV, stepI, evalR, reduceIte, reduceCtorEq, Nat.reduceEqDiff, Int.reduceLT, Int.reduceLE, Int.reduceToNat, Nat.reduceLT, Nat.reduceLeDiff, Int.reduceEq, Int.reduceNeg, IntKind.bits, Nat.reduceAdd, Nat.reduceMul, Nat.reducePow, Int.reducePow, ini, *]; done) | (simp only [fws, cond_true, cond_false, if_true, if_false, unV, isNil, optI, iV, stepI, evalR, reduceIte, reduceCtorEq, Nat.reduceEqDiff, Int.reduceLT, Int.reduceLE, Int.reduceToNat, Nat.reduceLT, Nat.reduceLeDiff, Int.reduceEq, Int.reduceNeg, IntKind.bits, Nat.reduceAdd, Nat.reduceMul, Nat.reducePow, Int.reducePow, ini]; rfl))
      · (first | (simp only [fws, cond_true, cond_false, if_true, if_false, unV, isNil, optI, iV, stepI, evalR, reduceIte, reduceCtorEq, Nat.reduceEqDiff, Int.reduceLT, Int.reduceLE, Int.reduceToNat, Nat.reduceLT, Nat.reduceLeDiff, Int.reduceEq, Int.reduceNeg, IntKind.bits, Nat.reduceAdd, Nat.reduceMul, Nat.reducePow, Int.reducePow, ini, *]; done) | (simp only [fws, cond_true, cond_false, if_true, if_false, unV, isNil, optI, iV, stepI, evalR, reduceIte, reduceCtorEq, Nat.reduceEqDiff, Int.reduceLT, Int.reduceLE, Int.reduceToNat, Nat.reduceLT, Nat.reduceLeDiff, Int.reduceEq, Int.reduceNeg, IntKind.bits, Nat.reduceAdd, Nat.reduceMul, Nat.reducePow, Int.reducePow, ini]; rfl))
      · (first | (simp only [fws, cond_true, cond_false, if_true, if_false, unV, isNil, optI, iV, stepI, evalR, reduceIte, reduceCtorEq, Nat.reduceEqDiff, Int.reduceLT, Int.reduceLE, Int.reduceToNat, Nat.reduceLT, Nat.reduceLeDiff, Int.reduceEq, Int.reduceNeg, IntKind.bits, Nat.reduceAdd, Nat.reduceMul, Nat.reducePow, Int.reducePow, ini, *]; done) | (simp only [fws, cond_true, cond_false, if_true, if_false, unV, isNil, optI, iV, stepI, evalR, reduceIte, reduceCtorEq, Nat.reduceEqDiff, Int.reduceLT, Int.reduceLE, Int.reduceToNat, Nat.reduceLT, Nat.reduceLeDiff, Int.reduceEq, Int.reduceNeg, IntKind.bits, Nat.reduceAdd, Nat.reduceMul, Nat.reducePow, Int.reducePow, ini]; rfl))
    · simp only [fws, cond_true, cond_false, if_true, if_false, unV, isNil, optI, iV, stepI, evalR, reduceIte, reduceCtorEq, Nat.reduceEqDiff, Int.reduceLT, Int.reduceLE, Int.reduceToNat, Nat.reduceLT, Nat.reduceLeDiff, Int.reduceEq, Int.reduceNeg, IntKind.bits, Nat.reduceAdd, Nat.reduceMul, Nat.reducePow, Int.reducePow, ini, F_ref02_Tor0_W, F_ref02_Tor1_W, F_ref02_Tor2_W, F_ref02_Tor2_g3, F_ref02_Tor3_W, F_ref02_Tol0_W, F_ref02_Tor4_W, F_ref02_Tor5_W, F_ref02_Tor6_W, F_ref02_Tor7_W, F_ref02_Tol1_W, F_ref02_Tor8_W, F_ref02_Toc_W, e0, e1, e5, q]
      exact ⟨trivial, trivial, trivial, trivial, j, by omega, rfl, hu, .inl (by omega)⟩
theorem loop_To1 {T : Tab} (n : Nat) (hn : 0 < n) (hn2 : n ≤ 262144) (G : Heap) (v0 : Value) : ∀ (m : Nat) (v : Value) (l : List UInt8) (H : Heap) (env : Env), (n - l.length % n) % n = m → l.length + m ≤ 1000000000 → Own byteE H v l → Fw.Frame G H v0 v → env 0 = v → env 1 = .int .i64 n →
    W T (.loop F_ref02_Tol1) env H fun x e h => x = .exit 2 ∧ Own byteE h (e 0) (l ++ List.replicate m 0) ∧ Fw.Frame G h v0 (e 0) := by
  intro m
  have hne : ¬ ((n : Int) = 0) := by omega
  induction m with
  | zero =>
    intro v l H env hm hl ho hf e0 e1
    have hmod := Nat.mod_lt l.length hn
    have h0 : l.length % n = 0 := by
      rcases Nat.eq_zero_or_pos (l.length % n) with h | h
      · exact h
      · rw [Nat.mod_eq_of_lt (by omega)] at hm; omega
    have w2 : (l.length : Int).tmod n = ((l.length % n : Nat) : Int) := by rw [tmodN (by omega)]; rfl
    rw [w_loop]
    simp only [fws, cond_true, cond_false, if_true, if_false, unV, isNil, optI, iV, stepI, evalR, reduceIte, reduceCtorEq, Nat.reduceEqDiff, Int.reduceLT, Int.reduceLE, Int.reduceToNat, Nat.reduceLT, Nat.reduceLeDiff, Int.reduceEq, Int.reduceNeg, IntKind.bits, Nat.reduceAdd, Nat.reduceMul, Nat.reducePow, Int.reducePow, ini, fwi, F_ref02_Tor0_W, F_ref02_Tor1_W, F_ref02_Tor2_W, F_ref02_Tor2_g3, F_ref02_Tor3_W, F_ref02_Tol0_W, F_ref02_Tor4_W, F_ref02_Tor5_W, F_ref02_Tor6_W, F_ref02_Tor7_W, F_ref02_Tol1_W, F_ref02_Tor8_W, F_ref02_Toc_W, e0, e1, ho.len, hne, w2, h0]
    exact ⟨trivial, by rw [List.replicate_zero, List.append_nil]; exact ho, hf⟩
  | succ m ih =>
    intro v l H env hm hl ho hf e0 e1
    have hmod := Nat.mod_lt l.length hn
    have h0 : l.length % n ≠ 0 := fun h => by rw [h, Nat.sub_zero, Nat.mod_self] at hm; omega
    have h1 : ¬ (((l.length % n : Nat) : Int) = 0) := by omega
    have w2 : (l.length : Int).tmod n = ((l.length % n : Nat) : Int) := by rw [tmodN (by omega)]; rfl
    obtain ⟨v', H', a1, a2, a3⟩ := ho.app (m := [(0 : UInt8)]) (n := 1) (eb := 1) (k := 1) rfl rfl (by simp; omega)
    have a1 : appV 1 1 H v [.int .u8 0] 1 = some (v', H') := a1
    have hmm : (n - (l ++ [(0 : UInt8)]).length % n) % n = m := by
      rw [List.length_append, List.length_singleton]
      rw [Nat.mod_eq_of_lt (by omega)] at hm
      rcases Nat.lt_or_ge (l.length % n + 1) n with h | h
      · rw [Nat.add_mod, Nat.mod_eq_of_lt (a := 1) (by omega), Nat.mod_eq_of_lt h, Nat.mod_eq_of_lt (by omega)]; omega
      · have hq : l.length % n + 1 = n := by omega
        have : (l.length + 1) % n = 0 := by
          rw [← Nat.mod_add_mod, hq, Nat.mod_self]
        rw [this, Nat.sub_zero, Nat.mod_self]; omega
    rw [w_loop]
    simp only [fws, cond_true, cond_false, if_true, if_false, unV, isNil, optI, iV, stepI, evalR, reduceIte, reduceCtorEq, Nat.reduceEqDiff, Int.reduceLT, Int.reduceLE, Int.reduceToNat, Nat.reduceLT, Nat.reduceLeDiff, Int.reduceEq, Int.reduceNeg, IntKind.bits, Nat.reduceAdd, Nat.reduceMul, Nat.reducePow, Int.reducePow, ini, fwh, lk, cellsAt, tagOf, spotOf, rdN, spl, fillL, zr, fwi, F_ref02_Tor0_W, F_ref02_Tor1_W, F_ref02_Tor2_W, F_ref02_Tor2_g3, F_ref02_Tor3_W, F_ref02_Tol0_W, F_ref02_Tor4_W, F_ref02_Tor5_W, F_ref02_Tor6_W, F_ref02_Tor7_W, F_ref02_Tol1_W, F_ref02_Tor8_W, F_ref02_Toc_W, e0, e1, ho.len, hne, w2, h1, srcOf_immV, a1]
    refine W.mono (ih v' _ _ _ hmm (by simp; omega) a2 (hf.trans a3) ?_ ?_) fun x e h ⟨g1, g2, g3⟩ => ⟨g1, ?_, g3⟩
    · (first | (simp only [fws, cond_true, cond_false, if_true, if_false, unV, isNil, optI, iV, stepI, evalR, reduceIte, reduceCtorEq, Nat.reduceEqDiff, Int.reduceLT, Int.reduceLE, Int.reduceToNat, Nat.reduceLT, Nat.reduceLeDiff, Int.reduceEq, Int.reduceNeg, IntKind.bits, Nat.reduceAdd, Nat.reduceMul, Nat.reducePow, Int.reducePow, ini, *]; done) | (simp only [fws, cond_true, cond_false, if_true, if_false, unV, isNil, optI, iV, stepI, evalR, reduceIte, reduceCtorEq, Nat.reduceEqDiff, Int.reduceLT, Int.reduceLE, Int.reduceToNat, Nat.reduceLT, Nat.reduceLeDiff, Int.reduceEq, Int.reduceNeg, IntKind.bits, Nat.reduceAdd, Nat.reduceMul, Nat.reducePow, Int.reducePow, ini]; rfl))
    · (first | (simp only [fws, cond_true, cond_false, if_true, if_false, unV, isNil, optI, iV, stepI, evalR, reduceIte, reduceCtorEq, Nat.reduceEqDiff, Int.reduceLT, Int.reduceLE, Int.reduceToNat, Nat.reduceLT, Nat.reduceLeDiff, Int.reduceEq, Int.reduceNeg, IntKind.bits, Nat.reduceAdd, Nat.reduceMul, Nat.reducePow, Int.reducePow, ini, *]; done) | (simp only [fws, cond_true, cond_false, if_true, if_false, unV, isNil, optI, iV, stepI, evalR, reduceIte, reduceCtorEq, Nat.reduceEqDiff, Int.reduceLT, Int.reduceLE, Int.reduceToNat, Nat.reduceLT, Nat.reduceLeDiff, Int.reduceEq, Int.reduceNeg, IntKind.bits, Nat.reduceAdd, Nat.reduceMul, Nat.reducePow, Int.reducePow, ini]; rfl))
    · rw [List.append_cons]; exact g2
theorem ev_ref02_To {T : Tab} (h : T 41 = some F_ref02_To) {H : Heap} {v : Value} {l : List UInt8} (ho : Own byteE H v l) (hl : l.length ≤ 100000000) (u : Int) :
    Ev T 41 [v, .int .i64 u] H fun y h => Own byteE h y (l ++ List.replicate (toN l.length u) 0) ∧ Fw.Frame H h v y := by
  rw [Ev_fn h rfl]
  simp only [F_ref02_To, fws, cond_true, cond_false, if_true, if_false, unV, isNil, optI, iV, stepI, evalR, reduceIte, reduceCtorEq, Nat.reduceEqDiff, Int.reduceLT, Int.reduceLE, Int.reduceToNat, Nat.reduceLT, Nat.reduceLeDiff, Int.reduceEq, Int.reduceNeg, IntKind.bits, Nat.reduceAdd, Nat.reduceMul, Nat.reducePow, Int.reducePow, ini, F_ref02_Tor0_W, F_ref02_Tor1_W, F_ref02_Tor2_W, F_ref02_Tor2_g3, F_ref02_Tor3_W, F_ref02_Tol0_W, F_ref02_Tor4_W, F_ref02_Tor5_W, F_ref02_Tor6_W, F_ref02_Tor7_W, F_ref02_Tol1_W, F_ref02_Tor8_W, F_ref02_Toc_W]
  refine W.mono (loop_To0 u v 18 0 H _ rfl (fun i hi => by omega) ?_ ?_ ?_) fun x e h ⟨g1, g2, g3, g4, j, g5, g6, g7, g8⟩ => ?_
  · (first | (simp only [fws, cond_true, cond_false, if_true, if_false, unV, isNil, optI, iV, stepI, evalR, reduceIte, reduceCtorEq, Nat.reduceEqDiff, Int.reduceLT, Int.reduceLE, Int.reduceToNat, Nat.reduceLT, Nat.reduceLeDiff, Int.reduceEq, Int.reduceNeg, IntKind.bits, Nat.reduceAdd, Nat.reduceMul, Nat.reducePow, Int.reducePow, ini, *]; done) | (simp only [fws, cond_true, cond_false, if_true, if_false, unV, isNil, optI, iV, stepI, evalR, reduceIte, reduceCtorEq, Nat.reduceEqDiff, Int.reduceLT, Int.reduceLE, Int.reduceToNat, Nat.reduceLT, Nat.reduceLeDiff, Int.reduceEq, Int.reduceNeg, IntKind.bits, Nat.reduceAdd, Nat.reduceMul, Nat.reducePow, Int.reducePow, ini]; rfl))
  · (first | (simp only [fws, cond_true, cond_false, if_true, if_false, unV, isNil, optI, iV, stepI, evalR, reduceIte, reduceCtorEq, Nat.reduceEqDiff, Int.reduceLT, Int.reduceLE, Int.reduceToNat, Nat.reduceLT, Nat.reduceLeDiff, Int.reduceEq, Int.reduceNeg, IntKind.bits, Nat.reduceAdd, Nat.reduceMul, Nat.reducePow, Int.reducePow, ini, *]; done) | (simp only [fws, cond_true, cond_false, if_true, if_false, unV, isNil, optI, iV, stepI, evalR, reduceIte, reduceCtorEq, Nat.reduceEqDiff, Int.reduceLT, Int.reduceLE, Int.reduceToNat, Nat.reduceLT, Nat.reduceLeDiff, Int.reduceEq, Int.reduceNeg, IntKind.bits, Nat.reduceAdd, Nat.reduceMul, Nat.reducePow, Int.reducePow, ini]; rfl))
  · (first | (simp only [fws, cond_true, cond_false, if_true, if_false, unV, isNil, optI, iV, stepI, evalR, reduceIte, reduceCtorEq, Nat.reduceEqDiff, Int.reduceLT, Int.reduceLE, Int.reduceToNat, Nat.reduceLT, Nat.reduceLeDiff, Int.reduceEq, Int.reduceNeg, IntKind.bits, Nat.reduceAdd, Nat.reduceMul, Nat.reducePow, Int.reducePow, ini, *]; done) | (simp only [fws, cond_true, cond_false, if_true, if_false, unV, isNil, optI, iV, stepI, evalR, reduceIte, reduceCtorEq, Nat.reduceEqDiff, Int.reduceLT, Int.reduceLE, Int.reduceToNat, Nat.reduceLT, Nat.reduceLeDiff, Int.reduceEq, Int.reduceNeg, IntKind.bits, Nat.reduceAdd, Nat.reduceMul, Nat.reducePow, Int.reducePow, ini]; rfl))
  subst g1 g2
  have hp18 : (2 : Nat) ^ j ≤ 2 ^ 18 := Nat.pow_le_pow_right (by decide) g5
  have hp0 : 0 < (2 : Nat) ^ j := Nat.pow_pos (by decide)
  by_cases q : u = ((2 ^ j : Nat) : Int)
  · subst q
    simp only [fws, cond_true, cond_false, if_true, if_false, unV, isNil, optI, iV, stepI, evalR, reduceIte, reduceCtorEq, Nat.reduceEqDiff, Int.reduceLT, Int.reduceLE, Int.reduceToNat, Nat.reduceLT, Nat.reduceLeDiff, Int.reduceEq, Int.reduceNeg, IntKind.bits, Nat.reduceAdd, Nat.reduceMul, Nat.reducePow, Int.reducePow, ini, F_ref02_Tor0_W, F_ref02_Tor1_W, F_ref02_Tor2_W, F_ref02_Tor2_g3, F_ref02_Tor3_W, F_ref02_Tol0_W, F_ref02_Tor4_W, F_ref02_Tor5_W, F_ref02_Tor6_W, F_ref02_Tor7_W, F_ref02_Tol1_W, F_ref02_Tor8_W, F_ref02_Toc_W, g3, g4, g6]
    have hz : toN l.length ((2 ^ j : Nat) : Int) = (2 ^ j - l.length % 2 ^ j) % 2 ^ j := by
      unfold toN; rw [if_pos ⟨by omega, by omega, by rw [Int.toNat_natCast]; exact powB_pow j⟩]; rfl
    rw [hz]
    have hmod := Nat.mod_lt (2 ^ j - l.length % 2 ^ j) hp0
    refine W.mono (loop_To1 (2 ^ j) hp0 (by omega) h v _ v l h _ rfl (by omega) ho (Fw.Frame.refl _ _) ?_ ?_) fun x e h ⟨r1, r2, r3⟩ => ?_
    · (first | (simp only [fws, cond_true, cond_false, if_true, if_false, unV, isNil, optI, iV, stepI, evalR, reduceIte, reduceCtorEq, Nat.reduceEqDiff, Int.reduceLT, Int.reduceLE, Int.reduceToNat, Nat.reduceLT, Nat.reduceLeDiff, Int.reduceEq, Int.reduceNeg, IntKind.bits, Nat.reduceAdd, Nat.reduceMul, Nat.reducePow, Int.reducePow, ini, *]; done) | (simp only [fws, cond_true, cond_false, if_true, if_false, unV, isNil, optI, iV, stepI, evalR, reduceIte, reduceCtorEq, Nat.reduceEqDiff, Int.reduceLT, Int.reduceLE, Int.reduceToNat, Nat.reduceLT, Nat.reduceLeDiff, Int.reduceEq, Int.reduceNeg, IntKind.bits, Nat.reduceAdd, Nat.reduceMul, Nat.reducePow, Int.reducePow, ini]; rfl))
    · (first | (simp only [fws, cond_true, cond_false, if_true, if_false, unV, isNil, optI, iV, stepI, evalR, reduceIte, reduceCtorEq, Nat.reduceEqDiff, Int.reduceLT, Int.reduceLE, Int.reduceToNat, Nat.reduceLT, Nat.reduceLeDiff, Int.reduceEq, Int.reduceNeg, IntKind.bits, Nat.reduceAdd, Nat.reduceMul, Nat.reducePow, Int.reducePow, ini, *]; done) | (simp only [fws, cond_true, cond_false, if_true, if_false, unV, isNil, optI, iV, stepI, evalR, reduceIte, reduceCtorEq, Nat.reduceEqDiff, Int.reduceLT, Int.reduceLE, Int.reduceToNat, Nat.reduceLT, Nat.reduceLeDiff, Int.reduceEq, Int.reduceNeg, IntKind.bits, Nat.reduceAdd, Nat.reduceMul, Nat.reducePow, Int.reducePow, ini]; rfl))
    subst r1
    simp only [fws, cond_true, cond_false, if_true, if_false, unV, isNil, optI, iV, stepI, evalR, reduceIte, reduceCtorEq, Nat.reduceEqDiff, Int.reduceLT, Int.reduceLE, Int.reduceToNat, Nat.reduceLT, Nat.reduceLeDiff, Int.reduceEq, Int.reduceNeg, IntKind.bits, Nat.reduceAdd, Nat.reduceMul, Nat.reducePow, Int.reducePow, ini, F_ref02_Tor0_W, F_ref02_Tor1_W, F_ref02_Tor2_W, F_ref02_Tor2_g3, F_ref02_Tor3_W, F_ref02_Tol0_W, F_ref02_Tor4_W, F_ref02_Tor5_W, F_ref02_Tor6_W, F_ref02_Tor7_W, F_ref02_Tol1_W, F_ref02_Tor8_W, F_ref02_Toc_W]
    exact ⟨r2, r3⟩
  · have hz : toN l.length u = 0 := by
      unfold toN
      rw [if_neg]
      rintro ⟨u0, u1, hp⟩
      obtain ⟨k, hk⟩ := powB_ex hp
      have hu : u = ((2 ^ k : Nat) : Int) := by omega
      have hk18 : k ≤ 18 := by
        rcases Nat.lt_or_ge 18 k with h | h
        · have : (2 : Nat) ^ 19 ≤ 2 ^ k := Nat.pow_le_pow_right (by decide) h
          omega
        · exact h
      rcases Nat.lt_trichotomy j k with h | h | h
      · rcases g8 with g8 | g8
        · have : (2 : Nat) ^ j < 2 ^ k := Nat.pow_lt_pow_right (by decide) h
          omega
        · omega
      · subst h; exact q hu
      · have := g7 k h
        omega
    rw [hz]
    simp only [fws, cond_true, cond_false, if_true, if_false, unV, isNil, optI, iV, stepI, evalR, reduceIte, reduceCtorEq, Nat.reduceEqDiff, Int.reduceLT, Int.reduceLE, Int.reduceToNat, Nat.reduceLT, Nat.reduceLeDiff, Int.reduceEq, Int.reduceNeg, IntKind.bits, Nat.reduceAdd, Nat.reduceMul, Nat.reducePow, Int.reducePow, ini, F_ref02_Tor0_W, F_ref02_Tor1_W, F_ref02_Tor2_W, F_ref02_Tor2_g3, F_ref02_Tor3_W, F_ref02_Tol0_W, F_ref02_Tor4_W, F_ref02_Tor5_W, F_ref02_Tor6_W, F_ref02_Tor7_W, F_ref02_Tol1_W, F_ref02_Tor8_W, F_ref02_Toc_W, g3, g4, g6, q]
    exact ⟨by simpa using ho, Fw.Frame.refl _ _⟩
/-- The front, or the end, of a list. -/
theorem Own.sub {α : Type} {E : Enc α} {H : Heap} {v : Value} {l : List α} (h : Own E H v l) {n : Nat} (hn : n = E.u) {k1 k2 : IntKind} {i j : Nat} (hij : i ≤ j) (hj : j ≤ l.length) :
    (∃ y, sleI H n v none (some (.int k1 j)) none = some (y, H) ∧ srcOf H n y = some (E.cs (l.take j), j)) ∧ ∃ y, sleI H n v (some (.int k1 i)) none none = some (y, H) ∧ srcOf H n y = some (E.cs (l.drop i), l.length - i) := by
  subst hn
  rcases h with ⟨rfl, rfl⟩ | ⟨b, tag, rfl, hH⟩
  · have hj0 : j = 0 := by simpa using hj
    have hi0 : i = 0 := by omega
    subst hj0 hi0
    exact ⟨⟨.slice none 0 0, rfl, rfl⟩, ⟨.slice none 0 0, rfl, rfl⟩⟩
  · have hlk : lk H ⟨b, 0, spotOf tag⟩ = some ⟨tag, .cells false E.u (E.cs l)⟩ := own_lk (tag := tag) (o := .cells false E.u (E.cs l)) hH
    have hlk2 : ∀ o, lk H ⟨b, o, spotOf tag⟩ = some ⟨tag, .cells false E.u (E.cs l)⟩ := fun _ => hlk
    refine ⟨⟨.slice (some ⟨b, 0 + (0 : Int).toNat * E.u, spotOf tag⟩) ((j : Int).toNat - (0 : Int).toNat) (l.length - (0 : Int).toNat), ?_, ?_⟩, ⟨.slice (some ⟨b, 0 + (i : Int).toNat * E.u, spotOf tag⟩) (l.length - (i : Int).toNat) (l.length - (i : Int).toNat), ?_, ?_⟩⟩
    · have q : (0 : Int) ≤ 0 ∧ (0 : Int) ≤ j ∧ (j : Int) ≤ l.length ∧ (l.length : Int) ≤ l.length := ⟨by omega, by omega, by omega, by omega⟩
      simp only [sleI, own, optJ, iV, hlk, Bool.false_or, Nat.beq_refl, cond_true]
      rw [if_pos q]
      rfl
    · have : (0 : Int).toNat = 0 := rfl
      simp only [srcOf, cellsAt, hlk2, this, Nat.zero_mul, Nat.add_zero, List.drop_zero, Nat.sub_zero, Int.toNat_natCast]
      have h1 : (E.cs l) = E.cs (l.take j) ++ E.cs (l.drop j) := by rw [← cs_append, List.take_append_drop]
      have h2 : rdN (E.cs l) (j * E.u) = some (E.cs (l.take j)) := by
        rw [h1]
        have := rdN_len (E.cs (l.take j)) (E.cs (l.drop j))
        rwa [cs_length, List.length_take, Nat.min_eq_left hj] at this
      rw [h2]
      rfl
    · have q : (0 : Int) ≤ i ∧ (i : Int) ≤ l.length ∧ (l.length : Int) ≤ l.length ∧ (l.length : Int) ≤ l.length := ⟨by omega, by omega, by omega, by omega⟩
      simp only [sleI, own, optJ, iV, hlk, Bool.false_or, Nat.beq_refl, cond_true]
      rw [if_pos q]
      rfl
    · simp only [srcOf, cellsAt, hlk2, Nat.zero_add, Int.toNat_natCast, cs_drop]
      rw [rdN_cs (by rw [List.length_drop])]
      rfl
end Go.Proofs.Ytleogcfmlpmbiaa
