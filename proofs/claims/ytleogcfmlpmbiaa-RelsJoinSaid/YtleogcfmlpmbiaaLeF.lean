/- A buffer: what is laid down. -/
import Derived.Test.YtleogcfmlpmbiaaFw28
import Derived.Test.YtleogcfmlpmbiaaLeE
namespace Go.Proofs.Ytleogcfmlpmbiaa
open Go Fw
set_option linter.unusedSimpArgs false
set_option linter.unusedVariables false

abbrev bufE (v : Value) : Entry := ⟨0, .cells false 1 [v]⟩
/-- A buffer at block `k` whose bytes are `l`. -/
structure Buf (H : Heap) (k : Nat) (v : Value) (l : List UInt8) : Prop where
  at_ : H[k]? = some (bufE v)
  own : Own byteE H v l
  ne : blkV v ≠ some k
structure BFrame (H H' : Heap) (k : Nat) (v v' : Value) : Prop where
  len : H.length ≤ H'.length
  same : ∀ q, q < H.length → q ≠ k → blkV v ≠ some q → H'[q]? = H[q]?
  blk : blkV v' = blkV v ∨ (blkV v = none ∧ ∃ b, blkV v' = some b ∧ H.length ≤ b)
theorem BFrame.refl (H : Heap) (k : Nat) (v : Value) : BFrame H H k v v := ⟨Nat.le_refl _, fun _ _ _ _ => rfl, .inl rfl⟩
theorem BFrame.trans {H1 H2 H3 : Heap} {k : Nat} {v1 v2 v3 : Value} (h : BFrame H1 H2 k v1 v2) (g : BFrame H2 H3 k v2 v3) : BFrame H1 H3 k v1 v3 := by
  refine ⟨Nat.le_trans h.len g.len, fun q hq hk hv => ?_, ?_⟩
  · rw [g.same q (Nat.lt_of_lt_of_le hq h.len) hk ?_, h.same q hq hk hv]
    rcases h.blk with h1 | ⟨_, b, h2, h3⟩
    · rw [h1]; exact hv
    · rw [h2]; intro he; cases he; omega
  · rcases h.blk with h1 | ⟨h0, b, h2, h3⟩
    · rcases g.blk with k1 | ⟨k0, b, k2, k3⟩
      · exact .inl (k1.trans h1)
      · exact .inr ⟨h1.symm.trans k0, b, k2, Nat.le_trans h.len k3⟩
    · rcases g.blk with k1 | ⟨k0, b', k2, k3⟩
      · exact .inr ⟨h0, b, k1.trans h2, h3⟩
      · rw [h2] at k0; cases k0
/-- Bytes laid down behind: the list grows, then the buffer's field is set. -/
theorem Buf.app {H : Heap} {k : Nat} {v : Value} {l m : List UInt8} (h : Buf H k v l) {n : Nat} (hn : n = m.length) (hb : l.length + m.length ≤ 140737488355328) :
    ∃ v' H', appV 1 1 H v (byteE.cs m) n = some (v', H') ∧ H'[k]? = some (bufE v) ∧ Buf (H'.set k (bufE v')) k v' (l ++ m) ∧ BFrame H (H'.set k (bufE v')) k v v' := by
  obtain ⟨v', H', a1, a2, a3⟩ := h.own.app (n := 1) (eb := 1) (m := m) rfl hn (by omega)
  have hk := (List.getElem?_eq_some_iff.1 h.at_).1
  have hk' : H'[k]? = some (bufE v) := by rw [a3.same k hk h.ne]; exact h.at_
  have hne : blkV v' ≠ some k := by
    rcases a3.blk with h1 | ⟨_, b, h2, h3⟩
    · rw [h1]; exact h.ne
    · rw [h2]; intro he; cases he; omega
  have hkl := (List.getElem?_eq_some_iff.1 hk').1
  refine ⟨v', H', a1, hk', ⟨List.getElem?_set_self hkl, a2.keep fun b hb => List.getElem?_set_ne (fun he => hne (by rw [hb, he])), hne⟩, ⟨by rw [List.length_set]; exact a3.len, fun q hq hqk hv => ?_, a3.blk⟩⟩
  rw [List.getElem?_set_ne (fun he => hqk he.symm), a3.same q hq hv]
theorem Own.one {E : Enc UInt8} {H : Heap} {v : Value} {l : List UInt8} (h : Own E H v l) : v.cells = #[v] ∧ oneAll v = true := by
  rcases h with ⟨_, rfl⟩ | ⟨b, tag, rfl, _⟩
  · exact ⟨rfl, oneAll_slice⟩
  · exact ⟨rfl, oneAll_slice⟩
def leB : Nat → Nat → List UInt8
  | 0, _ => []
  | c + 1, n => UInt8.ofNat (n % 256) :: leB c (n / 256)
theorem leB_len : ∀ c n, (leB c n).length = c
  | 0, _ => rfl
  | c + 1, n => by rw [leB, List.length_cons, leB_len]
theorem loop_put {T : Tab} (k c : Nat) (hc : c ≤ 8) (G : Heap) (v0 : Value) : ∀ (m i n : Nat) (v : Value) (l : List UInt8) (H : Heap) (env : Env), i + m = c → n < 18446744073709551616 → l.length + m ≤ 1000000000 → Buf H k v l → BFrame G H k v0 v → env 0 = .pointer (some ⟨k, 0, none⟩) → env 1 = .int .u64 n → env 6 = .int .i64 c → env 7 = .int .i64 i →
    W T (.loop F_le_Buf_putl0) env H fun x e h => x = .exit 0 ∧ ∃ v', Buf h k v' (l ++ leB m n) ∧ BFrame G h k v0 v' := by
  intro m
  induction m with
  | zero =>
    intro i n v l H env hi hn hl hb hf e0 e1 e6 e7
    have : i = c := by omega
    subst this
    have q : ¬ ((i : Int) < i) := by omega
    rw [w_loop]
    simp only [fws, cond_true, cond_false, if_true, if_false, unV, isNil, optI, iV, stepI, evalR, reduceIte, reduceCtorEq, Nat.reduceEqDiff, Int.reduceLT, Int.reduceLE, Int.reduceToNat, Nat.reduceLT, Nat.reduceLeDiff, Int.reduceEq, Int.reduceNeg, IntKind.bits, Nat.reduceAdd, Nat.reduceMul, Nat.reducePow, Int.reducePow, ini, F_le_Buf_putr0_W, F_le_Buf_putr1_W, F_le_Buf_putr2_W, F_le_Buf_putr3_W, F_le_Buf_putr4_W, F_le_Buf_putl0_W, F_le_Buf_putc_W, e0, e1, e6, e7, q]
    exact ⟨trivial, v, by rw [leB, List.append_nil]; exact hb, hf⟩
  | succ m ih =>
    intro i n v l H env hi hn hl hb hf e0 e1 e6 e7
    have q : ((i : Int) < c) := by omega
    have w1 : IntKind.u8.wrap (n : Int) = ((UInt8.ofNat (n % 256)).toNat : Int) := by rw [wrap_u8, UInt8.toNat_ofNat']; omega
    have w2 : IntKind.i64.wrap ((i : Int) + 1) = ((i + 1 : Nat) : Int) := by rw [wrapI64 (by omega) (by omega)]; rfl
    have b2 : (n : Int).fdiv 256 = ((n / 256 : Nat) : Int) := shrN (k := 8)
    obtain ⟨v', H', a1, a2, a3, a4⟩ := hb.app (m := [UInt8.ofNat (n % 256)]) (n := 1) rfl (by simp; omega)
    have a1 : appV 1 1 H v [.int .u8 ((UInt8.ofNat (n % 256)).toNat : Int)] 1 = some (v', H') := a1
    have hat := hb.at_
    rw [w_loop]
    obtain ⟨o1, o2⟩ := Own.one a3.own
    simp only [fws, cond_true, cond_false, if_true, if_false, unV, isNil, optI, iV, stepI, evalR, reduceIte, reduceCtorEq, Nat.reduceEqDiff, Int.reduceLT, Int.reduceLE, Int.reduceToNat, Nat.reduceLT, Nat.reduceLeDiff, Int.reduceEq, Int.reduceNeg, IntKind.bits, Nat.reduceAdd, Nat.reduceMul, Nat.reducePow, Int.reducePow, ini, fwh, lk, cellsAt, tagOf, spotOf, rdN, spl, fillL, zr, fwi, F_le_Buf_putr0_W, F_le_Buf_putr1_W, F_le_Buf_putr2_W, F_le_Buf_putr3_W, F_le_Buf_putr4_W, F_le_Buf_putl0_W, F_le_Buf_putc_W, e0, e1, e6, e7, q, w1, w2, b2, hat, srcOf_immV, a1, a2, o1, o2]
    refine W.mono (ih (i + 1) (n / 256) v' _ _ _ (by omega) (by omega) (by simp; omega) a3 (hf.trans a4) ?_ ?_ ?_ ?_) fun x e h ⟨g1, v2, g2, g3⟩ => ⟨g1, v2, ?_, g3⟩
    · (first | (simp only [fws, cond_true, cond_false, if_true, if_false, unV, isNil, optI, iV, stepI, evalR, reduceIte, reduceCtorEq, Nat.reduceEqDiff, Int.reduceLT, Int.reduceLE, Int.reduceToNat, Nat.reduceLT, Nat.reduceLeDiff, Int.reduceEq, Int.reduceNeg, IntKind.bits, Nat.reduceAdd, Nat.reduceMul, Nat.reducePow, Int.reducePow, ini, *]; done) | (simp only [fws, cond_true, cond_false, if_true, if_false, unV, isNil, optI, iV, stepI, evalR, reduceIte, reduceCtorEq, Nat.reduceEqDiff, Int.reduceLT, Int.reduceLE, Int.reduceToNat, Nat.reduceLT, Nat.reduceLeDiff, Int.reduceEq, Int.reduceNeg, IntKind.bits, Nat.reduceAdd, Nat.reduceMul, Nat.reducePow, Int.reducePow, ini]; rfl))
    · (first | (simp only [fws, cond_true, cond_false, if_true, if_false, unV, isNil, optI, iV, stepI, evalR, reduceIte, reduceCtorEq, Nat.reduceEqDiff, Int.reduceLT, Int.reduceLE, Int.reduceToNat, Nat.reduceLT, Nat.reduceLeDiff, Int.reduceEq, Int.reduceNeg, IntKind.bits, Nat.reduceAdd, Nat.reduceMul, Nat.reducePow, Int.reducePow, ini, *]; done) | (simp only [fws, cond_true, cond_false, if_true, if_false, unV, isNil, optI, iV, stepI, evalR, reduceIte, reduceCtorEq, Nat.reduceEqDiff, Int.reduceLT, Int.reduceLE, Int.reduceToNat, Nat.reduceLT, Nat.reduceLeDiff, Int.reduceEq, Int.reduceNeg, IntKind.bits, Nat.reduceAdd, Nat.reduceMul, Nat.reducePow, Int.reducePow, ini]; rfl))
    · (first | (simp only [fws, cond_true, cond_false, if_true, if_false, unV, isNil, optI, iV, stepI, evalR, reduceIte, reduceCtorEq, Nat.reduceEqDiff, Int.reduceLT, Int.reduceLE, Int.reduceToNat, Nat.reduceLT, Nat.reduceLeDiff, Int.reduceEq, Int.reduceNeg, IntKind.bits, Nat.reduceAdd, Nat.reduceMul, Nat.reducePow, Int.reducePow, ini, *]; done) | (simp only [fws, cond_true, cond_false, if_true, if_false, unV, isNil, optI, iV, stepI, evalR, reduceIte, reduceCtorEq, Nat.reduceEqDiff, Int.reduceLT, Int.reduceLE, Int.reduceToNat, Nat.reduceLT, Nat.reduceLeDiff, Int.reduceEq, Int.reduceNeg, IntKind.bits, Nat.reduceAdd, Nat.reduceMul, Nat.reducePow, Int.reducePow, ini]; rfl))
    · (first | (simp only [fws, cond_true, cond_false, if_true, if_false, unV, isNil, optI, iV, stepI, evalR, reduceIte, reduceCtorEq, Nat.reduceEqDiff, Int.reduceLT, Int.reduceLE, Int.reduceToNat, Nat.reduceLT, Nat.reduceLeDiff, Int.reduceEq, Int.reduceNeg, IntKind.bits, Nat.reduceAdd, Nat.reduceMul, Nat.reducePow, Int.reducePow, ini, *]; done) | (simp only [fws, cond_true, cond_false, if_true, if_false, unV, isNil, optI, iV, stepI, evalR, reduceIte, reduceCtorEq, Nat.reduceEqDiff, Int.reduceLT, Int.reduceLE, Int.reduceToNat, Nat.reduceLT, Nat.reduceLeDiff, Int.reduceEq, Int.reduceNeg, IntKind.bits, Nat.reduceAdd, Nat.reduceMul, Nat.reducePow, Int.reducePow, ini]; rfl))
    · rw [leB, List.append_cons]; exact g2
/-- What a method of a buffer that lays bytes down does. -/
def Lays (T : Tab) (f : Nat) (args : List Value) (H : Heap) (k : Nat) (v : Value) (l : List UInt8) : Prop :=
  Ev T f args H fun u h => u = .tuple #[] ∧ ∃ v', Buf h k v' l ∧ BFrame H h k v v'
theorem ev_put {T : Tab} (h : T 51 = some F_le_Buf_put) {H : Heap} {k : Nat} {v : Value} {l : List UInt8} (hb : Buf H k v l) (hl : l.length ≤ 100000000) {n c : Nat} (hn : n < 18446744073709551616) (hc : c ≤ 8) :
    Lays T 51 [.pointer (some ⟨k, 0, none⟩), .int .u64 n, .int .i64 c] H k v (l ++ leB c n) := by
  unfold Lays
  rw [Ev_fn h rfl]
  simp only [F_le_Buf_put, fws, cond_true, cond_false, if_true, if_false, unV, isNil, optI, iV, stepI, evalR, reduceIte, reduceCtorEq, Nat.reduceEqDiff, Int.reduceLT, Int.reduceLE, Int.reduceToNat, Nat.reduceLT, Nat.reduceLeDiff, Int.reduceEq, Int.reduceNeg, IntKind.bits, Nat.reduceAdd, Nat.reduceMul, Nat.reducePow, Int.reducePow, ini, F_le_Buf_putr0_W, F_le_Buf_putr1_W, F_le_Buf_putr2_W, F_le_Buf_putr3_W, F_le_Buf_putr4_W, F_le_Buf_putl0_W, F_le_Buf_putc_W]
  refine W.mono (loop_put k c hc H v c 0 n v l H _ (Nat.zero_add _) hn (by omega) hb (BFrame.refl _ _ _) ?_ ?_ ?_ ?_) fun x e h ⟨g1, v', g2, g3⟩ => ?_
  · (first | (simp only [fws, cond_true, cond_false, if_true, if_false, unV, isNil, optI, iV, stepI, evalR, reduceIte, reduceCtorEq, Nat.reduceEqDiff, Int.reduceLT, Int.reduceLE, Int.reduceToNat, Nat.reduceLT, Nat.reduceLeDiff, Int.reduceEq, Int.reduceNeg, IntKind.bits, Nat.reduceAdd, Nat.reduceMul, Nat.reducePow, Int.reducePow, ini, *]; done) | (simp only [fws, cond_true, cond_false, if_true, if_false, unV, isNil, optI, iV, stepI, evalR, reduceIte, reduceCtorEq, Nat.reduceEqDiff, Int.reduceLT, Int.reduceLE, Int.reduceToNat, Nat.reduceLT, Nat.reduceLeDiff, Int.reduceEq, Int.reduceNeg, IntKind.bits, Nat.reduceAdd, Nat.reduceMul, Nat.reducePow, Int.reducePow, ini]; rfl))
  · (first | (simp only [fws, cond_true, cond_false, if_true, if_false, unV, isNil, optI, iV, stepI, evalR, reduceIte, reduceCtorEq, Nat.reduceEqDiff, Int.reduceLT, Int.reduceLE, Int.reduceToNat, Nat.reduceLT, Nat.reduceLeDiff, Int.reduceEq, Int.reduceNeg, IntKind.bits, Nat.reduceAdd, Nat.reduceMul, Nat.reducePow, Int.reducePow, ini, *]; done) | (simp only [fws, cond_true, cond_false, if_true, if_false, unV, isNil, optI, iV, stepI, evalR, reduceIte, reduceCtorEq, Nat.reduceEqDiff, Int.reduceLT, Int.reduceLE, Int.reduceToNat, Nat.reduceLT, Nat.reduceLeDiff, Int.reduceEq, Int.reduceNeg, IntKind.bits, Nat.reduceAdd, Nat.reduceMul, Nat.reducePow, Int.reducePow, ini]; rfl))
  · (first | (simp only [fws, cond_true, cond_false, if_true, if_false, unV, isNil, optI, iV, stepI, evalR, reduceIte, reduceCtorEq, Nat.reduceEqDiff, Int.reduceLT, Int.reduceLE, Int.reduceToNat, Nat.reduceLT, Nat.reduceLeDiff, Int.reduceEq, Int.reduceNeg, IntKind.bits, Nat.reduceAdd, Nat.reduceMul, Nat.reducePow, Int.reducePow, ini, *]; done) | (simp only [fws, cond_true, cond_false, if_true, if_false, unV, isNil, optI, iV, stepI, evalR, reduceIte, reduceCtorEq, Nat.reduceEqDiff, Int.reduceLT, Int.reduceLE, Int.reduceToNat, Nat.reduceLT, Nat.reduceLeDiff, Int.reduceEq, Int.reduceNeg, IntKind.bits, Nat.reduceAdd, Nat.reduceMul, Nat.reducePow, Int.reducePow, ini]; rfl))
  · (first | (simp only [fws, cond_true, cond_false, if_true, if_false, unV, isNil, optI, iV, stepI, evalR, reduceIte, reduceCtorEq, Nat.reduceEqDiff, Int.reduceLT, Int.reduceLE, Int.reduceToNat, Nat.reduceLT, Nat.reduceLeDiff, Int.reduceEq, Int.reduceNeg, IntKind.bits, Nat.reduceAdd, Nat.reduceMul, Nat.reducePow, Int.reducePow, ini, *]; done) | (simp only [fws, cond_true, cond_false, if_true, if_false, unV, isNil, optI, iV, stepI, evalR, reduceIte, reduceCtorEq, Nat.reduceEqDiff, Int.reduceLT, Int.reduceLE, Int.reduceToNat, Nat.reduceLT, Nat.reduceLeDiff, Int.reduceEq, Int.reduceNeg, IntKind.bits, Nat.reduceAdd, Nat.reduceMul, Nat.reducePow, Int.reducePow, ini]; rfl))
  subst g1
  simp only [fws, cond_true, cond_false, if_true, if_false, unV, isNil, optI, iV, stepI, evalR, reduceIte, reduceCtorEq, Nat.reduceEqDiff, Int.reduceLT, Int.reduceLE, Int.reduceToNat, Nat.reduceLT, Nat.reduceLeDiff, Int.reduceEq, Int.reduceNeg, IntKind.bits, Nat.reduceAdd, Nat.reduceMul, Nat.reducePow, Int.reducePow, ini]
  exact ⟨trivial, v', g2, g3⟩
end Go.Proofs.Ytleogcfmlpmbiaa
