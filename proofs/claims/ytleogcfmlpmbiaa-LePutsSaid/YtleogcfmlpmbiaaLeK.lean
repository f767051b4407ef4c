/- Eight bytes set within a buffer. -/
import Derived.Test.YtleogcfmlpmbiaaLeG
namespace Go.Proofs.Ytleogcfmlpmbiaa
open Go Fw
set_option linter.unusedSimpArgs false
set_option linter.unusedVariables false

/-- The list `l` with the bytes `m` in place of those from `a` on. -/
def setB : List UInt8 → Nat → List UInt8 → List UInt8
  | l, _, [] => l
  | l, a, x :: m => setB (l.set a x) (a + 1) m
theorem setB_len : ∀ (m l : List UInt8) (a : Nat), (setB l a m).length = l.length
  | [], l, a => rfl
  | x :: m, l, a => by rw [setB, setB_len m, List.length_set]
theorem setB_eq : ∀ (m l : List UInt8) (a : Nat), a + m.length ≤ l.length → setB l a m = l.take a ++ m ++ l.drop (a + m.length)
  | [], l, a, h => by simp [setB]
  | x :: m, l, a, h => by
    simp only [List.length_cons] at h
    rw [setB, setB_eq m _ _ (by rw [List.length_set]; omega)]
    have h1 : (l.set a x).take (a + 1) = l.take a ++ [x] := by
      rw [List.take_set, List.set_eq_take_append_cons_drop]
      rw [if_pos (by rw [List.length_take]; omega), List.take_take]
      simp
    have h2 : (l.set a x).drop (a + 1 + m.length) = l.drop (a + (x :: m).length) := by
      rw [List.drop_set_of_lt (by omega), List.length_cons]
      congr 1
      omega
    rw [h1, h2]
    simp
theorem loop_Set64 {T : Tab} (k a n : Nat) (hn : n < 18446744073709551616) (ha : a ≤ 1000000000) (G : Heap) (v : Value) : ∀ (m i : Nat) (l : List UInt8) (H : Heap) (env : Env), i + m = 8 → a + 8 ≤ l.length → Buf H k v l → BFrame G H k v v → env 0 = .pointer (some ⟨k, 0, none⟩) → env 1 = .int .i64 a → env 2 = .int .u64 n → env 20 = .int .i64 i →
    W T (.loop F_le_Buf_Set64l0) env H fun x e h => x = .exit 0 ∧ Buf h k v (setB l (a + i) (leB m (n / 2 ^ (8 * i)))) ∧ BFrame G h k v v := by
  intro m
  induction m with
  | zero =>
    intro i l H env hi hl hb hf e0 e1 e2 e20
    have : i = 8 := by omega
    subst this
    rw [w_loop]
    simp only [fws, cond_true, cond_false, if_true, if_false, unV, isNil, optI, iV, stepI, evalR, reduceIte, reduceCtorEq, Nat.reduceEqDiff, Int.reduceLT, Int.reduceLE, Int.reduceToNat, Nat.reduceLT, Nat.reduceLeDiff, Int.reduceEq, Int.reduceNeg, IntKind.bits, Nat.reduceAdd, Nat.reduceMul, Nat.reducePow, Int.reducePow, ini, F_le_Buf_Set64r0_W, F_le_Buf_Set64r1_W, F_le_Buf_Set64r1_g2, F_le_Buf_Set64r2_W, F_le_Buf_Set64r3_W, F_le_Buf_Set64r4_W, F_le_Buf_Set64r5_W, F_le_Buf_Set64r6_W, F_le_Buf_Set64r7_W, F_le_Buf_Set64l0_W, F_le_Buf_Set64r8_W, F_le_Buf_Set64c_W, e0, e1, e2, e20]
    exact ⟨trivial, hb, hf⟩
  | succ m ih =>
    intro i l H env hi hl hb hf e0 e1 e2 e20
    have q : ((i : Int) < 8) := by omega
    have hix : a + i < l.length := by omega
    have w1 : IntKind.i64.wrap ((a : Int) + i) = ((a + i : Nat) : Int) := by rw [wrapI64 (by omega) (by omega)]; rfl
    have w2 : IntKind.i64.wrap ((i : Int) + 1) = ((i + 1 : Nat) : Int) := by rw [wrapI64 (by omega) (by omega)]; rfl
    have w3 : IntKind.i64.wrap (8 * (i : Int)) = ((8 * i : Nat) : Int) := by rw [wrapI64 (by omega) (by omega)]; rfl
    obtain ⟨p, tag, cs, b, a0, a1, a2, a3, a4, a5, a6⟩ := hb.own.ix1 (f := fun c => .int .u8 c.toNat) rfl hix .i64 (fun _ => rfl)
    have hat := hb.at_
    have hcl : cellsAt H ⟨k, 0, none⟩ = some [v] := by simp only [fws, cond_true, cond_false, if_true, if_false, unV, isNil, optI, iV, stepI, evalR, reduceIte, reduceCtorEq, Nat.reduceEqDiff, Int.reduceLT, Int.reduceLE, Int.reduceToNat, Nat.reduceLT, Nat.reduceLeDiff, Int.reduceEq, Int.reduceNeg, IntKind.bits, Nat.reduceAdd, Nat.reduceMul, Nat.reducePow, Int.reducePow, ini, fwh, lk, cellsAt, tagOf, spotOf, rdN, spl, fillL, zr, hat]
    have s0 : ¬ (((8 * i : Nat) : Int) < 0) := by omega
    have s1 : 8 * i ≤ 64 := by omega
    have s2 : (n : Int).fdiv (2 ^ (8 * i)) = ((n / 2 ^ (8 * i) : Nat) : Int) := shrN
    have w4 : IntKind.u8.wrap ((n / 2 ^ (8 * i) : Nat) : Int) = ((UInt8.ofNat (n / 2 ^ (8 * i) % 256)).toNat : Int) := by rw [wrap_u8, UInt8.toNat_ofNat']; omega
    have hpk : p.block ≠ k := fun he => hb.ne (by rw [a0, ← a3, he])
    have a6' := a6 (UInt8.ofNat (n / 2 ^ (8 * i) % 256))
    rw [← a3] at a6'
    have a0' : blkV v = some p.block := by rw [a0, a3]
    rw [w_loop]
    simp only [fws, cond_true, cond_false, if_true, if_false, unV, isNil, optI, iV, stepI, evalR, reduceIte, reduceCtorEq, Nat.reduceEqDiff, Int.reduceLT, Int.reduceLE, Int.reduceToNat, Nat.reduceLT, Nat.reduceLeDiff, Int.reduceEq, Int.reduceNeg, IntKind.bits, Nat.reduceAdd, Nat.reduceMul, Nat.reducePow, Int.reducePow, ini, fwi, F_le_Buf_Set64r0_W, F_le_Buf_Set64r1_W, F_le_Buf_Set64r1_g2, F_le_Buf_Set64r2_W, F_le_Buf_Set64r3_W, F_le_Buf_Set64r4_W, F_le_Buf_Set64r5_W, F_le_Buf_Set64r6_W, F_le_Buf_Set64r7_W, F_le_Buf_Set64l0_W, F_le_Buf_Set64r8_W, F_le_Buf_Set64c_W, e0, e1, e2, e20, q, w1, w2, w3, w4, s0, s1, s2, hcl, a1, a2, a4, a5, cells_int, oneAll_int, List.set_cons_zero, spl, List.length_cons, List.length_nil, List.size_toArray]
    refine W.mono (ih (i + 1) (l.set (a + i) (UInt8.ofNat (n / 2 ^ (8 * i) % 256))) _ _ (by omega) (by rw [List.length_set]; exact hl) ⟨by rw [List.getElem?_set_ne hpk]; exact hat, a6', hb.ne⟩ (hf.trans ⟨by simp, fun q hq _ hv => List.getElem?_set_ne (fun he => hv (by rw [a0', he])), .inl rfl⟩) ?_ ?_ ?_ ?_) fun x e h ⟨g1, g2, g3⟩ => ⟨g1, ?_, g3⟩
    · (first | (simp only [fws, cond_true, cond_false, if_true, if_false, unV, isNil, optI, iV, stepI, evalR, reduceIte, reduceCtorEq, Nat.reduceEqDiff, Int.reduceLT, Int.reduceLE, Int.reduceToNat, Nat.reduceLT, Nat.reduceLeDiff, Int.reduceEq, Int.reduceNeg, IntKind.bits, Nat.reduceAdd, Nat.reduceMul, Nat.reducePow, Int.reducePow, ini, *]; done) | (simp only [fws, cond_true, cond_false, if_true, if_false, unV, isNil, optI, iV, stepI, evalR, reduceIte, reduceCtorEq, Nat.reduceEqDiff, Int.reduceLT, Int.reduceLE, Int.reduceToNat, Nat.reduceLT, Nat.reduceLeDiff, Int.reduceEq, Int.reduceNeg, IntKind.bits, Nat.reduceAdd, Nat.reduceMul, Nat.reducePow, Int.reducePow, ini]; rfl))
    · (first | (simp only [fws, cond_true, cond_false, if_true, if_false, unV, isNil, optI, iV, stepI, evalR, reduceIte, reduceCtorEq, Nat.reduceEqDiff, Int.reduceLT, Int.reduceLE, Int.reduceToNat, Nat.reduceLT, Nat.reduceLeDiff, Int.reduceEq, Int.reduceNeg, IntKind.bits, Nat.reduceAdd, Nat.reduceMul, Nat.reducePow, Int.reducePow, ini, *]; done) | (simp only [fws, cond_true, cond_false, if_true, if_false, unV, isNil, optI, iV, stepI, evalR, reduceIte, reduceCtorEq, Nat.reduceEqDiff, Int.reduceLT, Int.reduceLE, Int.reduceToNat, Nat.reduceLT, Nat.reduceLeDiff, Int.reduceEq, Int.reduceNeg, IntKind.bits, Nat.reduceAdd, Nat.reduceMul, Nat.reducePow, Int.reducePow, ini]; rfl))
    · (first | (simp only [fws, cond_true, cond_false, if_true, if_false, unV, isNil, optI, iV, stepI, evalR, reduceIte, reduceCtorEq, Nat.reduceEqDiff, Int.reduceLT, Int.reduceLE, Int.reduceToNat, Nat.reduceLT, Nat.reduceLeDiff, Int.reduceEq, Int.reduceNeg, IntKind.bits, Nat.reduceAdd, Nat.reduceMul, Nat.reducePow, Int.reducePow, ini, *]; done) | (simp only [fws, cond_true, cond_false, if_true, if_false, unV, isNil, optI, iV, stepI, evalR, reduceIte, reduceCtorEq, Nat.reduceEqDiff, Int.reduceLT, Int.reduceLE, Int.reduceToNat, Nat.reduceLT, Nat.reduceLeDiff, Int.reduceEq, Int.reduceNeg, IntKind.bits, Nat.reduceAdd, Nat.reduceMul, Nat.reducePow, Int.reducePow, ini]; rfl))
    · (first | (simp only [fws, cond_true, cond_false, if_true, if_false, unV, isNil, optI, iV, stepI, evalR, reduceIte, reduceCtorEq, Nat.reduceEqDiff, Int.reduceLT, Int.reduceLE, Int.reduceToNat, Nat.reduceLT, Nat.reduceLeDiff, Int.reduceEq, Int.reduceNeg, IntKind.bits, Nat.reduceAdd, Nat.reduceMul, Nat.reducePow, Int.reducePow, ini, *]; done) | (simp only [fws, cond_true, cond_false, if_true, if_false, unV, isNil, optI, iV, stepI, evalR, reduceIte, reduceCtorEq, Nat.reduceEqDiff, Int.reduceLT, Int.reduceLE, Int.reduceToNat, Nat.reduceLT, Nat.reduceLeDiff, Int.reduceEq, Int.reduceNeg, IntKind.bits, Nat.reduceAdd, Nat.reduceMul, Nat.reducePow, Int.reducePow, ini]; rfl))
    · have hp : n / 2 ^ (8 * (i + 1)) = n / 2 ^ (8 * i) / 256 := by rw [Nat.mul_add, Nat.pow_add, Nat.div_div_eq_div_mul]
      rw [leB, setB, ← hp]
      exact g2
theorem ev_Set64 {T : Tab} (h : T 42 = some F_le_Buf_Set64) {H : Heap} {k : Nat} {v : Value} {l : List UInt8} (hb : Buf H k v l) (hl : l.length ≤ 100000000) (at_ : Int) {n : Nat} (hn : n < 18446744073709551616) :
    Ev T 42 [ptrK k, .int .i64 at_, .int .u64 n] H fun u h => u = .bool (decide (0 ≤ at_ ∧ at_ + 8 ≤ l.length)) ∧ Buf h k v (if 0 ≤ at_ ∧ at_ + 8 ≤ l.length then setB l at_.toNat (leB 8 n) else l) ∧ BFrame H h k v v := by
  rw [Ev_fn h rfl]
  have hat := hb.at_
  have hcl : cellsAt H ⟨k, 0, none⟩ = some [v] := by simp only [fws, cond_true, cond_false, if_true, if_false, unV, isNil, optI, iV, stepI, evalR, reduceIte, reduceCtorEq, Nat.reduceEqDiff, Int.reduceLT, Int.reduceLE, Int.reduceToNat, Nat.reduceLT, Nat.reduceLeDiff, Int.reduceEq, Int.reduceNeg, IntKind.bits, Nat.reduceAdd, Nat.reduceMul, Nat.reducePow, Int.reducePow, ini, fwh, lk, cellsAt, tagOf, spotOf, rdN, spl, fillL, zr, hat]
  by_cases h0 : at_ < 0
  · have q : ¬ (0 ≤ at_ ∧ at_ + 8 ≤ l.length) := by omega
    simp only [F_le_Buf_Set64, fws, cond_true, cond_false, if_true, if_false, unV, isNil, optI, iV, stepI, evalR, reduceIte, reduceCtorEq, Nat.reduceEqDiff, Int.reduceLT, Int.reduceLE, Int.reduceToNat, Nat.reduceLT, Nat.reduceLeDiff, Int.reduceEq, Int.reduceNeg, IntKind.bits, Nat.reduceAdd, Nat.reduceMul, Nat.reducePow, Int.reducePow, ini, fwi, F_le_Buf_Set64r0_W, F_le_Buf_Set64r1_W, F_le_Buf_Set64r1_g2, F_le_Buf_Set64r2_W, F_le_Buf_Set64r3_W, F_le_Buf_Set64r4_W, F_le_Buf_Set64r5_W, F_le_Buf_Set64r6_W, F_le_Buf_Set64r7_W, F_le_Buf_Set64l0_W, F_le_Buf_Set64r8_W, F_le_Buf_Set64c_W, h0, if_neg q, decide_eq_false q]
    exact ⟨trivial, hb, BFrame.refl _ _ _⟩
  have w1 : IntKind.i64.wrap ((l.length : Int) - 8) = (l.length : Int) - 8 := wrapI64 (by omega) (by omega)
  by_cases h1 : (l.length : Int) - 8 < at_
  · have q : ¬ (0 ≤ at_ ∧ at_ + 8 ≤ l.length) := by omega
    simp only [F_le_Buf_Set64, fws, cond_true, cond_false, if_true, if_false, unV, isNil, optI, iV, stepI, evalR, reduceIte, reduceCtorEq, Nat.reduceEqDiff, Int.reduceLT, Int.reduceLE, Int.reduceToNat, Nat.reduceLT, Nat.reduceLeDiff, Int.reduceEq, Int.reduceNeg, IntKind.bits, Nat.reduceAdd, Nat.reduceMul, Nat.reducePow, Int.reducePow, ini, fwi, F_le_Buf_Set64r0_W, F_le_Buf_Set64r1_W, F_le_Buf_Set64r1_g2, F_le_Buf_Set64r2_W, F_le_Buf_Set64r3_W, F_le_Buf_Set64r4_W, F_le_Buf_Set64r5_W, F_le_Buf_Set64r6_W, F_le_Buf_Set64r7_W, F_le_Buf_Set64l0_W, F_le_Buf_Set64r8_W, F_le_Buf_Set64c_W, h0, h1, hcl, hb.own.len, w1, if_neg q, decide_eq_false q]
    exact ⟨trivial, hb, BFrame.refl _ _ _⟩
  have q : (0 ≤ at_ ∧ at_ + 8 ≤ l.length) := by omega
  obtain ⟨a, rfl⟩ : ∃ a : Nat, at_ = a := ⟨at_.toNat, by omega⟩
  simp only [F_le_Buf_Set64, fws, cond_true, cond_false, if_true, if_false, unV, isNil, optI, iV, stepI, evalR, reduceIte, reduceCtorEq, Nat.reduceEqDiff, Int.reduceLT, Int.reduceLE, Int.reduceToNat, Nat.reduceLT, Nat.reduceLeDiff, Int.reduceEq, Int.reduceNeg, IntKind.bits, Nat.reduceAdd, Nat.reduceMul, Nat.reducePow, Int.reducePow, ini, fwi, F_le_Buf_Set64r0_W, F_le_Buf_Set64r1_W, F_le_Buf_Set64r1_g2, F_le_Buf_Set64r2_W, F_le_Buf_Set64r3_W, F_le_Buf_Set64r4_W, F_le_Buf_Set64r5_W, F_le_Buf_Set64r6_W, F_le_Buf_Set64r7_W, F_le_Buf_Set64l0_W, F_le_Buf_Set64r8_W, F_le_Buf_Set64c_W, h0, h1, hcl, hb.own.len, w1, if_pos q, decide_eq_true q]
  refine W.mono (loop_Set64 k a n hn (by omega) H v 8 0 l H _ rfl (by omega) hb (BFrame.refl _ _ _) ?_ ?_ ?_ ?_) fun x e h ⟨g1, g2, g3⟩ => ?_
  · (first | (simp only [fws, cond_true, cond_false, if_true, if_false, unV, isNil, optI, iV, stepI, evalR, reduceIte, reduceCtorEq, Nat.reduceEqDiff, Int.reduceLT, Int.reduceLE, Int.reduceToNat, Nat.reduceLT, Nat.reduceLeDiff, Int.reduceEq, Int.reduceNeg, IntKind.bits, Nat.reduceAdd, Nat.reduceMul, Nat.reducePow, Int.reducePow, ini, *]; done) | (simp only [fws, cond_true, cond_false, if_true, if_false, unV, isNil, optI, iV, stepI, evalR, reduceIte, reduceCtorEq, Nat.reduceEqDiff, Int.reduceLT, Int.reduceLE, Int.reduceToNat, Nat.reduceLT, Nat.reduceLeDiff, Int.reduceEq, Int.reduceNeg, IntKind.bits, Nat.reduceAdd, Nat.reduceMul, Nat.reducePow, Int.reducePow, ini]; rfl))
  · (first | (simp only [fws, cond_true, cond_false, if_true, if_false, unV, isNil, optI, iV, stepI, evalR, reduceIte, reduceCtorEq, Nat.reduceEqDiff, Int.reduceLT, Int.reduceLE, Int.reduceToNat, Nat.reduceLT, Nat.reduceLeDiff, Int.reduceEq, Int.reduceNeg, IntKind.bits, Nat.reduceAdd, Nat.reduceMul, Nat.reducePow, Int.reducePow, ini, *]; done) | (simp only [fws, cond_true, cond_false, if_true, if_false, unV, isNil, optI, iV, stepI, evalR, reduceIte, reduceCtorEq, Nat.reduceEqDiff, Int.reduceLT, Int.reduceLE, Int.reduceToNat, Nat.reduceLT, Nat.reduceLeDiff, Int.reduceEq, Int.reduceNeg, IntKind.bits, Nat.reduceAdd, Nat.reduceMul, Nat.reducePow, Int.reducePow, ini]; rfl))
  · (first | (simp only [fws, cond_true, cond_false, if_true, if_false, unV, isNil, optI, iV, stepI, evalR, reduceIte, reduceCtorEq, Nat.reduceEqDiff, Int.reduceLT, Int.reduceLE, Int.reduceToNat, Nat.reduceLT, Nat.reduceLeDiff, Int.reduceEq, Int.reduceNeg, IntKind.bits, Nat.reduceAdd, Nat.reduceMul, Nat.reducePow, Int.reducePow, ini, *]; done) | (simp only [fws, cond_true, cond_false, if_true, if_false, unV, isNil, optI, iV, stepI, evalR, reduceIte, reduceCtorEq, Nat.reduceEqDiff, Int.reduceLT, Int.reduceLE, Int.reduceToNat, Nat.reduceLT, Nat.reduceLeDiff, Int.reduceEq, Int.reduceNeg, IntKind.bits, Nat.reduceAdd, Nat.reduceMul, Nat.reducePow, Int.reducePow, ini]; rfl))
  · (first | (simp only [fws, cond_true, cond_false, if_true, if_false, unV, isNil, optI, iV, stepI, evalR, reduceIte, reduceCtorEq, Nat.reduceEqDiff, Int.reduceLT, Int.reduceLE, Int.reduceToNat, Nat.reduceLT, Nat.reduceLeDiff, Int.reduceEq, Int.reduceNeg, IntKind.bits, Nat.reduceAdd, Nat.reduceMul, Nat.reducePow, Int.reducePow, ini, *]; done) | (simp only [fws, cond_true, cond_false, if_true, if_false, unV, isNil, optI, iV, stepI, evalR, reduceIte, reduceCtorEq, Nat.reduceEqDiff, Int.reduceLT, Int.reduceLE, Int.reduceToNat, Nat.reduceLT, Nat.reduceLeDiff, Int.reduceEq, Int.reduceNeg, IntKind.bits, Nat.reduceAdd, Nat.reduceMul, Nat.reducePow, Int.reducePow, ini]; rfl))
  subst g1
  simp only [fws, cond_true, cond_false, if_true, if_false, unV, isNil, optI, iV, stepI, evalR, reduceIte, reduceCtorEq, Nat.reduceEqDiff, Int.reduceLT, Int.reduceLE, Int.reduceToNat, Nat.reduceLT, Nat.reduceLeDiff, Int.reduceEq, Int.reduceNeg, IntKind.bits, Nat.reduceAdd, Nat.reduceMul, Nat.reducePow, Int.reducePow, ini, F_le_Buf_Set64r0_W, F_le_Buf_Set64r1_W, F_le_Buf_Set64r1_g2, F_le_Buf_Set64r2_W, F_le_Buf_Set64r3_W, F_le_Buf_Set64r4_W, F_le_Buf_Set64r5_W, F_le_Buf_Set64r6_W, F_le_Buf_Set64r7_W, F_le_Buf_Set64l0_W, F_le_Buf_Set64r8_W, F_le_Buf_Set64c_W]
  refine ⟨trivial, ?_, g3⟩
  have : n / 2 ^ (8 * 0) = n := by simp
  rw [this] at g2
  exact g2
end Go.Proofs.Ytleogcfmlpmbiaa
