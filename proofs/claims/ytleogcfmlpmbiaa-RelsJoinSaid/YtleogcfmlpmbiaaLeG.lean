/- The buffer's methods. -/
import Derived.Test.YtleogcfmlpmbiaaLeF
namespace Go.Proofs.Ytleogcfmlpmbiaa
open Go Fw
set_option linter.unusedSimpArgs false
set_option linter.unusedVariables false

abbrev ptrK (k : Nat) : Value := .pointer (some ⟨k, 0, none⟩)
theorem ev_New {T : Tab} (h : T 20 = some F_le_New) (H : Heap) : Ev T 20 [] H fun u h => u = ptrK H.length ∧ h = H ++ [bufE (.slice none 0 0)] := by
  rw [Ev_fn h rfl]
  simp only [F_le_New, fws, cond_true, cond_false, if_true, if_false, unV, isNil, optI, iV, stepI, evalR, reduceIte, reduceCtorEq, Nat.reduceEqDiff, Int.reduceLT, Int.reduceLE, Int.reduceToNat, Nat.reduceLT, Nat.reduceLeDiff, Int.reduceEq, Int.reduceNeg, IntKind.bits, Nat.reduceAdd, Nat.reduceMul, Nat.reducePow, Int.reducePow, ini, fwh, lk, cellsAt, tagOf, spotOf, rdN, spl, fillL, zr, fwi, F_le_Newr0_W, F_le_Newr1_W, F_le_Newc_W, and_self]
theorem Buf.new (H : Heap) : Buf (H ++ [bufE (.slice none 0 0)]) H.length (.slice none 0 0) [] := ⟨by simp, Own.nil, by rw [blkV_nil]; simp⟩
section
variable {T : Tab} {H : Heap} {k : Nat} {v : Value} {l : List UInt8}
theorem ev_Put16 (h0 : T 51 = some F_le_Buf_put) (h : T 21 = some F_le_Buf_Put16) (hb : Buf H k v l) (hl : l.length ≤ 100000000) {n : Nat} (hn : n < 65536) :
    Lays T 21 [ptrK k, .int .u16 n] H k v (l ++ leB 2 n) := by
  unfold Lays
  rw [Ev_fn h rfl]
  have w : IntKind.u64.wrap (n : Int) = n := by rw [wrap_u64]; omega
  simp only [F_le_Buf_Put16, fws, cond_true, cond_false, if_true, if_false, unV, isNil, optI, iV, stepI, evalR, reduceIte, reduceCtorEq, Nat.reduceEqDiff, Int.reduceLT, Int.reduceLE, Int.reduceToNat, Nat.reduceLT, Nat.reduceLeDiff, Int.reduceEq, Int.reduceNeg, IntKind.bits, Nat.reduceAdd, Nat.reduceMul, Nat.reducePow, Int.reducePow, ini, F_le_Buf_Put16r0_W, F_le_Buf_Put16c_W, w]
  refine (ev_put h0 hb hl (n := n) (c := 2) (by omega) (by decide)).mono fun u h' ⟨hu, g⟩ => ?_
  simp only [fws, cond_true, cond_false, if_true, if_false, unV, isNil, optI, iV, stepI, evalR, reduceIte, reduceCtorEq, Nat.reduceEqDiff, Int.reduceLT, Int.reduceLE, Int.reduceToNat, Nat.reduceLT, Nat.reduceLeDiff, Int.reduceEq, Int.reduceNeg, IntKind.bits, Nat.reduceAdd, Nat.reduceMul, Nat.reducePow, Int.reducePow, ini, F_le_Buf_Put16r0_W, F_le_Buf_Put16c_W]
  exact ⟨trivial, g⟩
theorem ev_Put32 (h0 : T 51 = some F_le_Buf_put) (h : T 22 = some F_le_Buf_Put32) (hb : Buf H k v l) (hl : l.length ≤ 100000000) {n : Nat} (hn : n < 4294967296) :
    Lays T 22 [ptrK k, .int .u32 n] H k v (l ++ leB 4 n) := by
  unfold Lays
  rw [Ev_fn h rfl]
  have w : IntKind.u64.wrap (n : Int) = n := by rw [wrap_u64]; omega
  simp only [F_le_Buf_Put32, fws, cond_true, cond_false, if_true, if_false, unV, isNil, optI, iV, stepI, evalR, reduceIte, reduceCtorEq, Nat.reduceEqDiff, Int.reduceLT, Int.reduceLE, Int.reduceToNat, Nat.reduceLT, Nat.reduceLeDiff, Int.reduceEq, Int.reduceNeg, IntKind.bits, Nat.reduceAdd, Nat.reduceMul, Nat.reducePow, Int.reducePow, ini, F_le_Buf_Put32r0_W, F_le_Buf_Put32c_W, w]
  refine (ev_put h0 hb hl (n := n) (c := 4) (by omega) (by decide)).mono fun u h' ⟨hu, g⟩ => ?_
  simp only [fws, cond_true, cond_false, if_true, if_false, unV, isNil, optI, iV, stepI, evalR, reduceIte, reduceCtorEq, Nat.reduceEqDiff, Int.reduceLT, Int.reduceLE, Int.reduceToNat, Nat.reduceLT, Nat.reduceLeDiff, Int.reduceEq, Int.reduceNeg, IntKind.bits, Nat.reduceAdd, Nat.reduceMul, Nat.reducePow, Int.reducePow, ini, F_le_Buf_Put32r0_W, F_le_Buf_Put32c_W]
  exact ⟨trivial, g⟩
theorem ev_Put64 (h0 : T 51 = some F_le_Buf_put) (h : T 23 = some F_le_Buf_Put64) (hb : Buf H k v l) (hl : l.length ≤ 100000000) {n : Nat} (hn : n < 18446744073709551616) :
    Lays T 23 [ptrK k, .int .u64 n] H k v (l ++ leB 8 n) := by
  unfold Lays
  rw [Ev_fn h rfl]
  simp only [F_le_Buf_Put64, fws, cond_true, cond_false, if_true, if_false, unV, isNil, optI, iV, stepI, evalR, reduceIte, reduceCtorEq, Nat.reduceEqDiff, Int.reduceLT, Int.reduceLE, Int.reduceToNat, Nat.reduceLT, Nat.reduceLeDiff, Int.reduceEq, Int.reduceNeg, IntKind.bits, Nat.reduceAdd, Nat.reduceMul, Nat.reducePow, Int.reducePow, ini, F_le_Buf_Put64r0_W, F_le_Buf_Put64c_W]
  refine (ev_put h0 hb hl (n := n) (c := 8) hn (by decide)).mono fun u h' ⟨hu, g⟩ => ?_
  simp only [fws, cond_true, cond_false, if_true, if_false, unV, isNil, optI, iV, stepI, evalR, reduceIte, reduceCtorEq, Nat.reduceEqDiff, Int.reduceLT, Int.reduceLE, Int.reduceToNat, Nat.reduceLT, Nat.reduceLeDiff, Int.reduceEq, Int.reduceNeg, IntKind.bits, Nat.reduceAdd, Nat.reduceMul, Nat.reducePow, Int.reducePow, ini, F_le_Buf_Put64r0_W, F_le_Buf_Put64c_W]
  exact ⟨trivial, g⟩
theorem ev_Raw (h : T 24 = some F_le_Buf_Raw) (hb : Buf H k v l) {m : List UInt8} (hl : l.length + m.length ≤ 100000000) {y : Value} (hy : srcOf H 1 y = some (byteE.cs m, m.length)) :
    Lays T 24 [ptrK k, y] H k v (l ++ m) := by
  unfold Lays
  rw [Ev_fn h rfl]
  obtain ⟨v', H', a1, a2, a3, a4⟩ := hb.app (m := m) rfl (by omega)
  obtain ⟨o1, o2⟩ := Own.one a3.own
  have hat := hb.at_
  simp only [F_le_Buf_Raw, fws, cond_true, cond_false, if_true, if_false, unV, isNil, optI, iV, stepI, evalR, reduceIte, reduceCtorEq, Nat.reduceEqDiff, Int.reduceLT, Int.reduceLE, Int.reduceToNat, Nat.reduceLT, Nat.reduceLeDiff, Int.reduceEq, Int.reduceNeg, IntKind.bits, Nat.reduceAdd, Nat.reduceMul, Nat.reducePow, Int.reducePow, ini, fwh, lk, cellsAt, tagOf, spotOf, rdN, spl, fillL, zr, fwi, F_le_Buf_Rawr0_W, F_le_Buf_Rawc_W, hat, hy, a1, a2, o1, o2]
  exact ⟨trivial, v', a3, a4⟩
def zc (many : Int) : Nat := (min (max many 0) 262144).toNat
theorem ev_Zeros (h : T 25 = some F_le_Buf_Zeros) (hb : Buf H k v l) (hl : l.length ≤ 100000000) (many : Int) :
    Lays T 25 [ptrK k, .int .i64 many] H k v (l ++ List.replicate (zc many) 0) := by
  unfold Lays
  rw [Ev_fn h rfl]
  have hz : zc many ≤ 262144 := by unfold zc; omega
  have hcs : byteE.cs (List.replicate (zc many) 0) = List.replicate (zc many) (.int .u8 0) := by
    generalize zc many = c
    induction c with
    | zero => rfl
    | succ c ih => rw [List.replicate_succ, cs_cons, ih, List.replicate_succ]; rfl
  obtain ⟨v', H', a1, a2, a3, a4⟩ := hb.app (m := List.replicate (zc many) 0) (n := zc many) (by simp) (by simp; omega)
  rw [hcs] at a1
  obtain ⟨o1, o2⟩ := Own.one a3.own
  have hat := hb.at_
  have e1 : (if 262144 < (if (0 : Int) > many then 0 else many) then (262144 : Int) else (if (0 : Int) > many then 0 else many)) = (zc many : Int) := by
    unfold zc
    split <;> split <;> omega
  have e2 : (0 : Int) ≤ (zc many : Int) := by omega
  have e3 : (zc many : Int) * 1 ≤ 281474976710656 := by omega
  simp only [F_le_Buf_Zeros, fws, cond_true, cond_false, if_true, if_false, unV, isNil, optI, iV, stepI, evalR, reduceIte, reduceCtorEq, Nat.reduceEqDiff, Int.reduceLT, Int.reduceLE, Int.reduceToNat, Nat.reduceLT, Nat.reduceLeDiff, Int.reduceEq, Int.reduceNeg, IntKind.bits, Nat.reduceAdd, Nat.reduceMul, Nat.reducePow, Int.reducePow, ini, fwh, lk, cellsAt, tagOf, spotOf, rdN, spl, fillL, zr, fwi, F_le_Buf_Zerosr0_W, F_le_Buf_Zerosc_W, hat, e1, e2, e3, and_self, a1, a2, o1, o2]
  exact ⟨trivial, v', a3, a4⟩
theorem ev_Len (h : T 28 = some F_le_Buf_Len) (hb : Buf H k v l) : Ev T 28 [ptrK k] H fun u h => u = .int .i64 l.length ∧ h = H := by
  rw [Ev_fn h rfl]
  have hat := hb.at_
  simp only [F_le_Buf_Len, fws, cond_true, cond_false, if_true, if_false, unV, isNil, optI, iV, stepI, evalR, reduceIte, reduceCtorEq, Nat.reduceEqDiff, Int.reduceLT, Int.reduceLE, Int.reduceToNat, Nat.reduceLT, Nat.reduceLeDiff, Int.reduceEq, Int.reduceNeg, IntKind.bits, Nat.reduceAdd, Nat.reduceMul, Nat.reducePow, Int.reducePow, ini, fwh, lk, cellsAt, tagOf, spotOf, rdN, spl, fillL, zr, fwi, F_le_Buf_Lenr0_W, F_le_Buf_Lenr1_W, F_le_Buf_Lenc_W, hat, hb.own.len, and_self]
theorem ev_Bytes (h : T 27 = some F_le_Buf_Bytes) (hb : Buf H k v l) (hl : l.length ≤ 100000000) :
    Ev T 27 [ptrK k] H fun u h => Own byteE h u l ∧ H.length ≤ h.length ∧ (∀ q, q < H.length → h[q]? = H[q]?) ∧ (blkV u = none ∨ ∃ b, blkV u = some b ∧ H.length ≤ b) := by
  rw [Ev_fn h rfl]
  have hat := hb.at_
  obtain ⟨v', H', a1, a2, a3⟩ := (Own.nil (E := byteE) (H := H)).app (n := 1) (eb := 1) (m := l) rfl rfl (by simp; omega)
  have hs := hb.own.src (n := 1) rfl
  simp only [F_le_Buf_Bytes, fws, cond_true, cond_false, if_true, if_false, unV, isNil, optI, iV, stepI, evalR, reduceIte, reduceCtorEq, Nat.reduceEqDiff, Int.reduceLT, Int.reduceLE, Int.reduceToNat, Nat.reduceLT, Nat.reduceLeDiff, Int.reduceEq, Int.reduceNeg, IntKind.bits, Nat.reduceAdd, Nat.reduceMul, Nat.reducePow, Int.reducePow, ini, fwh, lk, cellsAt, tagOf, spotOf, rdN, spl, fillL, zr, fwi, F_le_Buf_Bytesr0_W, F_le_Buf_Bytesr1_W, F_le_Buf_Bytesc_W, hat, hs, a1]
  rw [List.nil_append] at a2
  refine ⟨a2, a3.len, fun q hq => a3.same q hq (by rw [blkV_nil]; simp), ?_⟩
  rcases a3.blk with h1 | ⟨_, h2⟩
  · exact .inl h1
  · exact .inr h2
/-- The bytes, frozen. -/
theorem Own.fz_end {H h : Heap} {u : Value} {l : List UInt8} (ho : Own byteE h u l) (hl : H.length ≤ h.length) (hs : ∀ q, q < H.length → h[q]? = H[q]?) (hb : blkV u = none ∨ ∃ b, blkV u = some b ∧ H.length ≤ b) :
    ∃ o H2, lst o = l ∧ fzA h u = some (slV byteE o, H2) ∧ H.length ≤ H2.length ∧ ∀ q, q < H.length → H2[q]? = H[q]? := by
  obtain ⟨o, H2, h1, h2, h3, h4⟩ := ho.fz (by decide)
  refine ⟨o, H2, h1, h2, Nat.le_trans hl h3, fun q hq => ?_⟩
  rw [h4 q ?_, hs q hq]
  rcases hb with hb | ⟨b, hb, hbl⟩
  · rw [hb]; simp
  · rw [hb]; intro he; cases he; omega
theorem Buf.same {H H2 : Heap} {k : Nat} {v : Value} {l : List UInt8} (h : Buf H k v l) (hs : ∀ q, q < H.length → H2[q]? = H[q]?) : Buf H2 k v l :=
  ⟨by rw [hs k (List.getElem?_eq_some_iff.1 h.at_).1]; exact h.at_, h.own.keep fun b hb => hs b (h.own.lt hb), h.ne⟩
theorem Buf.mono {H : Heap} {k : Nat} {v : Value} {l : List UInt8} (h : Buf H k v l) (g : Heap) : Buf (H ++ g) k v l :=
  ⟨by rw [List.getElem?_append_left (List.getElem?_eq_some_iff.1 h.at_).1]; exact h.at_, h.own.mono g, h.ne⟩
/-- Is a number a power of two? -/
def powB (u : Nat) : Bool := decide (u ≠ 0) && decide (u &&& (u - 1) = 0)
theorem f_num_Power (h : T 52 = some F_num_Power) {u : Nat} (hu : u < 18446744073709551616) : FnV T 52 [.int .u64 u] (.bool (powB u)) := by
  refine FnV_of rfl ?_
  rw [Ev_fn h rfl]
  unfold powB
  by_cases h0 : u = 0
  · subst h0
    simp only [F_num_Power, fws, cond_true, cond_false, if_true, if_false, unV, isNil, optI, iV, stepI, evalR, reduceIte, reduceCtorEq, Nat.reduceEqDiff, Int.reduceLT, Int.reduceLE, Int.reduceToNat, Nat.reduceLT, Nat.reduceLeDiff, Int.reduceEq, Int.reduceNeg, IntKind.bits, Nat.reduceAdd, Nat.reduceMul, Nat.reducePow, Int.reducePow, ini, F_num_Powerr0_W, F_num_Powerr1_W, F_num_Powerr1_g2, F_num_Powerc_W]
    rfl
  · have q : decide ((u : Int) = 0) = false := by rw [decide_eq_false_iff_not]; omega
    have w : IntKind.u64.wrap ((u : Int) - 1) = ((u - 1 : Nat) : Int) := by rw [wrap_u64]; omega
    have b := (bits_u64 hu (show u - 1 < 18446744073709551616 by omega)).1
    have e1 : decide (((u &&& (u - 1) : Nat) : Int) = 0) = decide (u &&& (u - 1) = 0) := by
      by_cases hx : u &&& (u - 1) = 0
      · rw [hx]; rfl
      · have : ¬ (((u &&& (u - 1) : Nat) : Int) = 0) := by omega
        simp [this, hx]
    have e2 : decide (u ≠ 0) = true := by simp [h0]
    rw [e2]
    simp only [F_num_Power, fws, cond_true, cond_false, if_true, if_false, unV, isNil, optI, iV, stepI, evalR, reduceIte, reduceCtorEq, Nat.reduceEqDiff, Int.reduceLT, Int.reduceLE, Int.reduceToNat, Nat.reduceLT, Nat.reduceLeDiff, Int.reduceEq, Int.reduceNeg, IntKind.bits, Nat.reduceAdd, Nat.reduceMul, Nat.reducePow, Int.reducePow, ini, F_num_Powerr0_W, F_num_Powerr1_W, F_num_Powerr1_g2, F_num_Powerc_W, q, w, b, e1]
    rfl
/-- How many bytes 0 bring a length up to a multiple. -/
def toN (n : Nat) (unit : Int) : Nat := if 0 < unit ∧ unit ≤ 262144 ∧ powB unit.toNat = true then (unit.toNat - n % unit.toNat) % unit.toNat else 0
theorem ev_To (h0 : T 52 = some F_num_Power) (h1 : T 25 = some F_le_Buf_Zeros) (h : T 26 = some F_le_Buf_To) (hb : Buf H k v l) (hl : l.length ≤ 100000000) (unit : Int) :
    Lays T 26 [ptrK k, .int .i64 unit] H k v (l ++ List.replicate (toN l.length unit) 0) := by
  unfold Lays
  rw [Ev_fn h rfl]
  have hat := hb.at_
  have done : toN l.length unit = 0 → (∃ v', Buf H k v' (l ++ List.replicate (toN l.length unit) 0) ∧ BFrame H H k v v') := fun hz => by
    rw [hz]
    exact ⟨v, by simpa using hb, BFrame.refl _ _ _⟩
  by_cases u0 : 0 < unit
  · by_cases u1 : unit ≤ 262144
    · obtain ⟨n, rfl⟩ : ∃ n : Nat, unit = n := ⟨unit.toNat, by omega⟩
      have w1 : IntKind.u64.wrap (n : Int) = n := by rw [wrap_u64]; omega
      have c1 := f_num_Power (T := T) h0 (u := n) (by omega)
      cases hp : powB n with
      | false =>
        rw [hp] at c1
        have hz : toN l.length (n : Int) = 0 := by unfold toN; rw [if_neg (by simp [hp])]
        simp only [F_le_Buf_To, fws, cond_true, cond_false, if_true, if_false, unV, isNil, optI, iV, stepI, evalR, reduceIte, reduceCtorEq, Nat.reduceEqDiff, Int.reduceLT, Int.reduceLE, Int.reduceToNat, Nat.reduceLT, Nat.reduceLeDiff, Int.reduceEq, Int.reduceNeg, IntKind.bits, Nat.reduceAdd, Nat.reduceMul, Nat.reducePow, Int.reducePow, ini, fwi, F_le_Buf_Tor0_W, F_le_Buf_Tor0_g2, F_le_Buf_Tor0_g6, F_le_Buf_Tor1_W, F_le_Buf_Toc_W, u0, u1, w1, CC_of c1]
        exact ⟨trivial, done hz⟩
      | true =>
        rw [hp] at c1
        have hz : toN l.length (n : Int) = (n - l.length % n) % n := by unfold toN; rw [if_pos ⟨u0, u1, by simpa using hp⟩]; simp
        have hmod := Nat.mod_lt l.length (show n > 0 by omega)
        have hne : ¬ ((n : Int) = 0) := by omega
        have w2 : (l.length : Int).tmod n = ((l.length % n : Nat) : Int) := by rw [tmodN (by omega)]; rfl
        have w3 : IntKind.i64.wrap ((n : Int) - ((l.length % n : Nat) : Int)) = ((n - l.length % n : Nat) : Int) := by rw [wrapI64 (by omega) (by omega)]; omega
        have w4 : ((n - l.length % n : Nat) : Int).tmod n = (((n - l.length % n) % n : Nat) : Int) := by rw [tmodN (by omega)]; rfl
        have c2 := ev_Zeros h1 hb hl (((n - l.length % n) % n : Nat) : Int)
        have hzc : zc (((n - l.length % n) % n : Nat) : Int) = toN l.length (n : Int) := by
          rw [hz]
          have := Nat.mod_lt (n - l.length % n) (show n > 0 by omega)
          unfold zc
          omega
        rw [hzc] at c2
        simp only [F_le_Buf_To, fws, cond_true, cond_false, if_true, if_false, unV, isNil, optI, iV, stepI, evalR, reduceIte, reduceCtorEq, Nat.reduceEqDiff, Int.reduceLT, Int.reduceLE, Int.reduceToNat, Nat.reduceLT, Nat.reduceLeDiff, Int.reduceEq, Int.reduceNeg, IntKind.bits, Nat.reduceAdd, Nat.reduceMul, Nat.reducePow, Int.reducePow, ini, fwh, lk, cellsAt, tagOf, spotOf, rdN, spl, fillL, zr, fwi, F_le_Buf_Tor0_W, F_le_Buf_Tor0_g2, F_le_Buf_Tor0_g6, F_le_Buf_Tor1_W, F_le_Buf_Toc_W, u0, u1, w1, CC_of c1, hat, hb.own.len, hne, w2, w3, w4]
        refine c2.mono fun u h' ⟨hu, g⟩ => ?_
        simp only [fws, cond_true, cond_false, if_true, if_false, unV, isNil, optI, iV, stepI, evalR, reduceIte, reduceCtorEq, Nat.reduceEqDiff, Int.reduceLT, Int.reduceLE, Int.reduceToNat, Nat.reduceLT, Nat.reduceLeDiff, Int.reduceEq, Int.reduceNeg, IntKind.bits, Nat.reduceAdd, Nat.reduceMul, Nat.reducePow, Int.reducePow, ini, F_le_Buf_Tor0_W, F_le_Buf_Tor0_g2, F_le_Buf_Tor0_g6, F_le_Buf_Tor1_W, F_le_Buf_Toc_W]
        exact ⟨trivial, g⟩
    · have hz : toN l.length unit = 0 := by unfold toN; rw [if_neg (by omega)]
      simp only [F_le_Buf_To, fws, cond_true, cond_false, if_true, if_false, unV, isNil, optI, iV, stepI, evalR, reduceIte, reduceCtorEq, Nat.reduceEqDiff, Int.reduceLT, Int.reduceLE, Int.reduceToNat, Nat.reduceLT, Nat.reduceLeDiff, Int.reduceEq, Int.reduceNeg, IntKind.bits, Nat.reduceAdd, Nat.reduceMul, Nat.reducePow, Int.reducePow, ini, fwi, F_le_Buf_Tor0_W, F_le_Buf_Tor0_g2, F_le_Buf_Tor0_g6, F_le_Buf_Tor1_W, F_le_Buf_Toc_W, u0, u1]
      exact ⟨trivial, done hz⟩
  · have hz : toN l.length unit = 0 := by unfold toN; rw [if_neg (by omega)]
    simp only [F_le_Buf_To, fws, cond_true, cond_false, if_true, if_false, unV, isNil, optI, iV, stepI, evalR, reduceIte, reduceCtorEq, Nat.reduceEqDiff, Int.reduceLT, Int.reduceLE, Int.reduceToNat, Nat.reduceLT, Nat.reduceLeDiff, Int.reduceEq, Int.reduceNeg, IntKind.bits, Nat.reduceAdd, Nat.reduceMul, Nat.reducePow, Int.reducePow, ini, fwi, F_le_Buf_Tor0_W, F_le_Buf_Tor0_g2, F_le_Buf_Tor0_g6, F_le_Buf_Tor1_W, F_le_Buf_Toc_W, u0]
    exact ⟨trivial, done hz⟩
end
end Go.Proofs.Ytleogcfmlpmbiaa
