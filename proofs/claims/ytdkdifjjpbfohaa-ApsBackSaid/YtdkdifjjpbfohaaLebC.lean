/- What the readers tell: numbers from 0 on, numbers with signs; of the document's answer too. -/
import Derived.Test.YtdkdifjjpbfohaaLebB
namespace Go.Proofs.Ytdkdifjjpbfohaa
open Go Fw
set_option linter.unusedSimpArgs false
set_option linter.unusedVariables false

def mask (c : UInt8) : UInt8 := UInt8.ofNat (c.toNat % 128)
theorem mask_toNat (c : UInt8) : (mask c).toNat = c.toNat % 128 := by
  unfold mask
  rw [UInt8.toNat_ofNat']
  omega

abbrev rV (l : List UInt8) (fail : Int) : Value := .agg #[imm byteE l, .int .i64 fail]
abbrev rE (l : List UInt8) (fail : Int) : Entry := ⟨0, .cells false 2 [imm byteE l, .int .i64 fail]⟩

theorem ix0 {α : Type} {E : Enc α} {n : Nat} (hn : n = E.u) (c : α) (r : List α) (k : IntKind) (H : Heap) : ixaI H n (imm E (c :: r)) (.int k 0) = some (iptrV (E.e c ++ E.cs r), H) := by
  rw [ixaI_imm hn, if_pos ⟨Int.le_refl 0, by simp only [List.length_cons]; omega⟩]
  rfl
theorem sl1 {α : Type} {E : Enc α} {n : Nat} (hn : n = E.u) (c : α) (r : List α) (k : IntKind) (H : Heap) : sleI H n (imm E (c :: r)) (some (.int k 1)) none none = some (imm E r, H) := by
  rw [sleI_imm (i := 1) (j := (c :: r).length) (k := (c :: r).length) hn rfl rfl rfl ⟨by omega, by simp only [List.length_cons]; omega, Int.le_refl _, Int.le_refl _⟩]
  have : ((c :: r).drop (1 : Int).toNat).take (((c :: r).length : Int).toNat - (1 : Int).toNat) = r := by
    simp
  rw [this]

theorem loop_ref03_groups {T : Tab} (e1 : Entry) (he1 : e1 = ⟨0, .cells false 2 [.slice none 0 0, .int .i64 0]⟩) : ∀ (f : Nat) (gs l : List UInt8) (v : Value) (H : Heap) (env : Env), gs.length + (f + 1) = 10 → env 1 = .pointer (some ⟨0, 0, none⟩) → env 2 = .pointer (some ⟨1, 0, none⟩) → env 4 = v →
    Acc byteE [rE l 0, e1] v H gs → W T (.loop F_ref03_groupsl0) env H fun x e h => x = .ret ∧ e 2 = .pointer (some ⟨1, 0, none⟩) ∧ match gr (f + 1) l with
      | .ok g r => h[1]? = some (rE r 0) ∧ Fw.frz 7 h (e 3) = some (imm byteE (gs ++ g.map mask))
      | .short => h[1]? = some (rE [] 20) ∧ e 3 = .slice none 0 0
      | .long => h[1]? = some (rE (l.drop (f + 1)) 30) ∧ e 3 = .slice none 0 0 := by
  intro f
  induction f with
  | zero =>
    intro gs l v H env hgs v1 v2 v4 ha
    rw [w_loop]
    have hlen := ha.hlen
    have h0 : H[0]? = some (rE l 0) := ha.get (i := 0) (by simp)
    have h1 : H[1]? = some e1 := ha.get (i := 1) (by simp)
    simp only [List.length_cons, List.length_nil] at hlen
    have hl0 : 0 < H.length := by omega
    have hl1 : 1 < H.length := by omega
    have hne : (1 : Nat) ≠ 0 := by decide
    cases l with
    | nil =>
      simp only [fws, cond_true, cond_false, if_true, if_false, unV, isNil, optI, iV, stepI, evalR, reduceIte, reduceCtorEq, Nat.reduceEqDiff, Int.reduceLT, Int.reduceLE, Int.reduceToNat, Nat.reduceLT, Nat.reduceLeDiff, Int.reduceEq, Int.reduceNeg, IntKind.bits, Nat.reduceAdd, Nat.reduceMul, Nat.reducePow, Int.reducePow, ini, fwh, lk, cellsAt, tagOf, spotOf, rdN, spl, fillL, zr, fwi, F_ref03_groupsr0_W, F_ref03_groupsr1_W, F_ref03_groupsr2_W, F_ref03_groupsr3_W, F_ref03_groupsr4_W, F_ref03_groupsr5_W, F_ref03_groupsr6_W, F_ref03_groupsr7_W, F_ref03_groupsr8_W, F_ref03_groupsr9_W, F_ref03_groupsr10_W, F_ref03_groupsr11_W, F_ref03_groupsr12_W, F_ref03_groupsr13_W, F_ref03_groupsl0_W, F_ref03_groupsr14_W, F_ref03_groupsc_W, F_ref03_groupsr0_W, F_ref03_groupsr1_W, F_ref03_groupsr2_W, F_ref03_groupsr3_W, F_ref03_groupsr4_W, F_ref03_groupsr5_W, F_ref03_groupsr6_W, F_ref03_groupsr7_W, F_ref03_groupsr8_W, F_ref03_groupsr9_W, F_ref03_groupsr10_W, F_ref03_groupsr11_W, F_ref03_groupsr12_W, F_ref03_groupsr13_W, F_ref03_groupsl0_W, F_ref03_groupsr14_W, F_ref03_groupsc_W, v1, v2, v4, h0, h1, he1, rE, set_get hl0, set_get hl1, List.length_set, oneAll_int, gr, List.getElem?_set_ne hne.symm]
      refine ⟨trivial, trivial, ?_, trivial⟩
      rw [set_get (by simpa using hl1)]
    | cons c r =>
      have w1 : (c.toNat : Int).tmod 128 = ((c.toNat % 128 : Nat) : Int) := by rw [tmodN (by omega)]; rfl
      have hc : ¬ (((r.length + 1 : Nat) : Int) = 0) := by omega
      obtain ⟨v', H', a1, a2⟩ := (ha.set (i := 0) (by simp) (rE r 0)).byte (x := ((c.toNat % 128 : Nat) : Int)) (by omega) (by omega) (by omega)
      rw [Int.toNat_natCast] at a2
      have a2 : Acc byteE [rE r 0, e1] v' H' (gs ++ [mask c]) := a2
      have hlen' := a2.hlen
      have h0' : H'[0]? = some (rE r 0) := a2.get (i := 0) (by simp)
      have h1' : H'[1]? = some e1 := a2.get (i := 1) (by simp)
      simp only [List.length_cons, List.length_nil] at hlen'
      have hl0' : 0 < H'.length := by omega
      have hl1' : 1 < H'.length := by omega
      by_cases hlast : c.toNat < 128
      · have hlast' : ((c.toNat : Int) < 128) := by omega
        have hfz := (a2.set (i := 1) (by simp) (rE r 0)).frz (k := 6) (by decide) (by simp)
        simp only [fws, cond_true, cond_false, if_true, if_false, unV, isNil, optI, iV, stepI, evalR, reduceIte, reduceCtorEq, Nat.reduceEqDiff, Int.reduceLT, Int.reduceLE, Int.reduceToNat, Nat.reduceLT, Nat.reduceLeDiff, Int.reduceEq, Int.reduceNeg, IntKind.bits, Nat.reduceAdd, Nat.reduceMul, Nat.reducePow, Int.reducePow, ini, fwh, lk, cellsAt, tagOf, spotOf, rdN, spl, fillL, zr, fwi, F_ref03_groupsr0_W, F_ref03_groupsr1_W, F_ref03_groupsr2_W, F_ref03_groupsr3_W, F_ref03_groupsr4_W, F_ref03_groupsr5_W, F_ref03_groupsr6_W, F_ref03_groupsr7_W, F_ref03_groupsr8_W, F_ref03_groupsr9_W, F_ref03_groupsr10_W, F_ref03_groupsr11_W, F_ref03_groupsr12_W, F_ref03_groupsr13_W, F_ref03_groupsl0_W, F_ref03_groupsr14_W, F_ref03_groupsc_W, F_ref03_groupsr0_W, F_ref03_groupsr1_W, F_ref03_groupsr2_W, F_ref03_groupsr3_W, F_ref03_groupsr4_W, F_ref03_groupsr5_W, F_ref03_groupsr6_W, F_ref03_groupsr7_W, F_ref03_groupsr8_W, F_ref03_groupsr9_W, F_ref03_groupsr10_W, F_ref03_groupsr11_W, F_ref03_groupsr12_W, F_ref03_groupsr13_W, F_ref03_groupsl0_W, F_ref03_groupsr14_W, F_ref03_groupsc_W, v1, v2, v4, h0, h1, he1, rE, set_get hl0, set_get hl1, List.length_set, oneAll_int, gr, List.getElem?_set_ne hne.symm, hc, ix0 (E := byteE) (n := 1) rfl, sl1 (E := byteE) (n := 1) rfl, w1, srcOf_immV, a1, h0', h1', hlast', hlast]
        refine ⟨trivial, trivial, ?_, ?_⟩
        · rw [set_get hl1']
        · simpa using hfz
      · have hlast' : ¬ ((c.toNat : Int) < 128) := by omega
        have hten : ((gs ++ [mask c]).length : Int) = 10 := by simp; omega
        have hln := a2.len
        rw [hten] at hln
        simp only [fws, cond_true, cond_false, if_true, if_false, unV, isNil, optI, iV, stepI, evalR, reduceIte, reduceCtorEq, Nat.reduceEqDiff, Int.reduceLT, Int.reduceLE, Int.reduceToNat, Nat.reduceLT, Nat.reduceLeDiff, Int.reduceEq, Int.reduceNeg, IntKind.bits, Nat.reduceAdd, Nat.reduceMul, Nat.reducePow, Int.reducePow, ini, fwh, lk, cellsAt, tagOf, spotOf, rdN, spl, fillL, zr, fwi, F_ref03_groupsr0_W, F_ref03_groupsr1_W, F_ref03_groupsr2_W, F_ref03_groupsr3_W, F_ref03_groupsr4_W, F_ref03_groupsr5_W, F_ref03_groupsr6_W, F_ref03_groupsr7_W, F_ref03_groupsr8_W, F_ref03_groupsr9_W, F_ref03_groupsr10_W, F_ref03_groupsr11_W, F_ref03_groupsr12_W, F_ref03_groupsr13_W, F_ref03_groupsl0_W, F_ref03_groupsr14_W, F_ref03_groupsc_W, F_ref03_groupsr0_W, F_ref03_groupsr1_W, F_ref03_groupsr2_W, F_ref03_groupsr3_W, F_ref03_groupsr4_W, F_ref03_groupsr5_W, F_ref03_groupsr6_W, F_ref03_groupsr7_W, F_ref03_groupsr8_W, F_ref03_groupsr9_W, F_ref03_groupsr10_W, F_ref03_groupsr11_W, F_ref03_groupsr12_W, F_ref03_groupsr13_W, F_ref03_groupsl0_W, F_ref03_groupsr14_W, F_ref03_groupsc_W, v1, v2, v4, h0, h1, he1, rE, set_get hl0, set_get hl1, List.length_set, oneAll_int, gr, GR.cons, List.getElem?_set_ne hne.symm, hc, ix0 (E := byteE) (n := 1) rfl, sl1 (E := byteE) (n := 1) rfl, w1, srcOf_immV, a1, h0', h1', set_get hl0', set_get hl1', hlast', hlast, hln]
        refine ⟨trivial, trivial, ?_, trivial⟩
        rw [set_get (by simpa using hl1')]
  | succ f ih =>
    intro gs l v H env hgs v1 v2 v4 ha
    rw [w_loop]
    have hlen := ha.hlen
    have h0 : H[0]? = some (rE l 0) := ha.get (i := 0) (by simp)
    have h1 : H[1]? = some e1 := ha.get (i := 1) (by simp)
    simp only [List.length_cons, List.length_nil] at hlen
    have hl0 : 0 < H.length := by omega
    have hl1 : 1 < H.length := by omega
    have hne : (1 : Nat) ≠ 0 := by decide
    cases l with
    | nil =>
      simp only [fws, cond_true, cond_false, if_true, if_false, unV, isNil, optI, iV, stepI, evalR, reduceIte, reduceCtorEq, Nat.reduceEqDiff, Int.reduceLT, Int.reduceLE, Int.reduceToNat, Nat.reduceLT, Nat.reduceLeDiff, Int.reduceEq, Int.reduceNeg, IntKind.bits, Nat.reduceAdd, Nat.reduceMul, Nat.reducePow, Int.reducePow, ini, fwh, lk, cellsAt, tagOf, spotOf, rdN, spl, fillL, zr, fwi, F_ref03_groupsr0_W, F_ref03_groupsr1_W, F_ref03_groupsr2_W, F_ref03_groupsr3_W, F_ref03_groupsr4_W, F_ref03_groupsr5_W, F_ref03_groupsr6_W, F_ref03_groupsr7_W, F_ref03_groupsr8_W, F_ref03_groupsr9_W, F_ref03_groupsr10_W, F_ref03_groupsr11_W, F_ref03_groupsr12_W, F_ref03_groupsr13_W, F_ref03_groupsl0_W, F_ref03_groupsr14_W, F_ref03_groupsc_W, F_ref03_groupsr0_W, F_ref03_groupsr1_W, F_ref03_groupsr2_W, F_ref03_groupsr3_W, F_ref03_groupsr4_W, F_ref03_groupsr5_W, F_ref03_groupsr6_W, F_ref03_groupsr7_W, F_ref03_groupsr8_W, F_ref03_groupsr9_W, F_ref03_groupsr10_W, F_ref03_groupsr11_W, F_ref03_groupsr12_W, F_ref03_groupsr13_W, F_ref03_groupsl0_W, F_ref03_groupsr14_W, F_ref03_groupsc_W, v1, v2, v4, h0, h1, he1, rE, set_get hl0, set_get hl1, List.length_set, oneAll_int, gr, List.getElem?_set_ne hne.symm]
      refine ⟨trivial, trivial, ?_, trivial⟩
      rw [set_get (by simpa using hl1)]
    | cons c r =>
      have w1 : (c.toNat : Int).tmod 128 = ((c.toNat % 128 : Nat) : Int) := by rw [tmodN (by omega)]; rfl
      have hc : ¬ (((r.length + 1 : Nat) : Int) = 0) := by omega
      obtain ⟨v', H', a1, a2⟩ := (ha.set (i := 0) (by simp) (rE r 0)).byte (x := ((c.toNat % 128 : Nat) : Int)) (by omega) (by omega) (by omega)
      rw [Int.toNat_natCast] at a2
      have a2 : Acc byteE [rE r 0, e1] v' H' (gs ++ [mask c]) := a2
      have hlen' := a2.hlen
      have h0' : H'[0]? = some (rE r 0) := a2.get (i := 0) (by simp)
      have h1' : H'[1]? = some e1 := a2.get (i := 1) (by simp)
      simp only [List.length_cons, List.length_nil] at hlen'
      have hl0' : 0 < H'.length := by omega
      have hl1' : 1 < H'.length := by omega
      by_cases hlast : c.toNat < 128
      · have hlast' : ((c.toNat : Int) < 128) := by omega
        have hfz := (a2.set (i := 1) (by simp) (rE r 0)).frz (k := 6) (by decide) (by simp)
        simp only [fws, cond_true, cond_false, if_true, if_false, unV, isNil, optI, iV, stepI, evalR, reduceIte, reduceCtorEq, Nat.reduceEqDiff, Int.reduceLT, Int.reduceLE, Int.reduceToNat, Nat.reduceLT, Nat.reduceLeDiff, Int.reduceEq, Int.reduceNeg, IntKind.bits, Nat.reduceAdd, Nat.reduceMul, Nat.reducePow, Int.reducePow, ini, fwh, lk, cellsAt, tagOf, spotOf, rdN, spl, fillL, zr, fwi, F_ref03_groupsr0_W, F_ref03_groupsr1_W, F_ref03_groupsr2_W, F_ref03_groupsr3_W, F_ref03_groupsr4_W, F_ref03_groupsr5_W, F_ref03_groupsr6_W, F_ref03_groupsr7_W, F_ref03_groupsr8_W, F_ref03_groupsr9_W, F_ref03_groupsr10_W, F_ref03_groupsr11_W, F_ref03_groupsr12_W, F_ref03_groupsr13_W, F_ref03_groupsl0_W, F_ref03_groupsr14_W, F_ref03_groupsc_W, F_ref03_groupsr0_W, F_ref03_groupsr1_W, F_ref03_groupsr2_W, F_ref03_groupsr3_W, F_ref03_groupsr4_W, F_ref03_groupsr5_W, F_ref03_groupsr6_W, F_ref03_groupsr7_W, F_ref03_groupsr8_W, F_ref03_groupsr9_W, F_ref03_groupsr10_W, F_ref03_groupsr11_W, F_ref03_groupsr12_W, F_ref03_groupsr13_W, F_ref03_groupsl0_W, F_ref03_groupsr14_W, F_ref03_groupsc_W, v1, v2, v4, h0, h1, he1, rE, set_get hl0, set_get hl1, List.length_set, oneAll_int, gr, List.getElem?_set_ne hne.symm, hc, ix0 (E := byteE) (n := 1) rfl, sl1 (E := byteE) (n := 1) rfl, w1, srcOf_immV, a1, h0', h1', hlast', hlast]
        refine ⟨trivial, trivial, ?_, ?_⟩
        · rw [set_get hl1']
        · simpa using hfz
      · have hlast' : ¬ ((c.toNat : Int) < 128) := by omega
        have hten : ¬ ((((gs ++ [mask c]).length : Nat) : Int) = 10) := by simp; omega
        have hln := a2.len
        obtain ⟨m, hm⟩ : ∃ m, m = (gs ++ [mask c]).length := ⟨_, rfl⟩
        rw [← hm] at hln hten
        simp only [fws, cond_true, cond_false, if_true, if_false, unV, isNil, optI, iV, stepI, evalR, reduceIte, reduceCtorEq, Nat.reduceEqDiff, Int.reduceLT, Int.reduceLE, Int.reduceToNat, Nat.reduceLT, Nat.reduceLeDiff, Int.reduceEq, Int.reduceNeg, IntKind.bits, Nat.reduceAdd, Nat.reduceMul, Nat.reducePow, Int.reducePow, ini, fwh, lk, cellsAt, tagOf, spotOf, rdN, spl, fillL, zr, fwi, F_ref03_groupsr0_W, F_ref03_groupsr1_W, F_ref03_groupsr2_W, F_ref03_groupsr3_W, F_ref03_groupsr4_W, F_ref03_groupsr5_W, F_ref03_groupsr6_W, F_ref03_groupsr7_W, F_ref03_groupsr8_W, F_ref03_groupsr9_W, F_ref03_groupsr10_W, F_ref03_groupsr11_W, F_ref03_groupsr12_W, F_ref03_groupsr13_W, F_ref03_groupsl0_W, F_ref03_groupsr14_W, F_ref03_groupsc_W, F_ref03_groupsr0_W, F_ref03_groupsr1_W, F_ref03_groupsr2_W, F_ref03_groupsr3_W, F_ref03_groupsr4_W, F_ref03_groupsr5_W, F_ref03_groupsr6_W, F_ref03_groupsr7_W, F_ref03_groupsr8_W, F_ref03_groupsr9_W, F_ref03_groupsr10_W, F_ref03_groupsr11_W, F_ref03_groupsr12_W, F_ref03_groupsr13_W, F_ref03_groupsl0_W, F_ref03_groupsr14_W, F_ref03_groupsc_W, v1, v2, v4, h0, h1, he1, rE, set_get hl0, set_get hl1, List.length_set, oneAll_int, List.getElem?_set_ne hne.symm, hc, ix0 (E := byteE) (n := 1) rfl, sl1 (E := byteE) (n := 1) rfl, w1, srcOf_immV, a1, h0', h1', set_get hl0', set_get hl1', hlast', hlast, hln, hten]
        refine W.mono (ih (gs ++ [mask c]) r v' H' _ (by simp; omega) ?_ ?_ ?_ a2) fun x e hh ⟨q1, q2, q3⟩ => ⟨q1, q2, ?_⟩
        · (first | assumption | rfl)
        · (first | assumption | rfl)
        · (first | assumption | rfl)
        have hgr : gr (f + 1 + 1) (c :: r) = (gr (f + 1) r).cons c := by rw [gr, if_neg hlast]
        rw [hgr]
        cases hg : gr (f + 1) r with
        | ok g r' => rw [hg] at q3; simpa [GR.cons] using q3
        | short => rw [hg] at q3; exact q3
        | long => rw [hg] at q3; exact q3

/-- The next number's groups, of the document's answer. -/
theorem f_ref03_groups {T : Tab} (h : T 36 = some F_ref03_groups) (l : List UInt8) (fail : Int) : FnV T 36 [rV l fail] (if fail ≠ 0 then .tuple #[rV l fail, .slice none 0 0] else match gr 10 l with
      | .ok g r => .tuple #[rV r 0, imm byteE (g.map mask)]
      | .short => .tuple #[rV [] 20, .slice none 0 0]
      | .long => .tuple #[rV (l.drop 10) 30, .slice none 0 0]) := by
  refine FnV_of (by simp [pure_agg, pure_tup, pure_int, pure_bool, pure_string, pure_slN, pure_ptrN, pure_mapN, pure_imm, pure_immN, bltN, byteE_d, intE_d, boolE_d, strE_d]) ?_
  rw [Ev_fn h rfl]
  by_cases hf : fail = 0
  · subst hf
    simp only [F_ref03_groups, fws, cond_true, cond_false, if_true, if_false, unV, isNil, optI, iV, stepI, evalR, reduceIte, reduceCtorEq, Nat.reduceEqDiff, Int.reduceLT, Int.reduceLE, Int.reduceToNat, Nat.reduceLT, Nat.reduceLeDiff, Int.reduceEq, Int.reduceNeg, IntKind.bits, Nat.reduceAdd, Nat.reduceMul, Nat.reducePow, Int.reducePow, ini, fwh, lk, cellsAt, tagOf, spotOf, rdN, spl, fillL, zr, fwi, F_ref03_groupsr0_W, F_ref03_groupsr1_W, F_ref03_groupsr2_W, F_ref03_groupsr3_W, F_ref03_groupsr4_W, F_ref03_groupsr5_W, F_ref03_groupsr6_W, F_ref03_groupsr7_W, F_ref03_groupsr8_W, F_ref03_groupsr9_W, F_ref03_groupsr10_W, F_ref03_groupsr11_W, F_ref03_groupsr12_W, F_ref03_groupsr13_W, F_ref03_groupsl0_W, F_ref03_groupsr14_W, F_ref03_groupsc_W, F_ref03_groupsr0_W, F_ref03_groupsr1_W, F_ref03_groupsr2_W, F_ref03_groupsr3_W, F_ref03_groupsr4_W, F_ref03_groupsr5_W, F_ref03_groupsr6_W, F_ref03_groupsr7_W, F_ref03_groupsr8_W, F_ref03_groupsr9_W, F_ref03_groupsr10_W, F_ref03_groupsr11_W, F_ref03_groupsr12_W, F_ref03_groupsr13_W, F_ref03_groupsl0_W, F_ref03_groupsr14_W, F_ref03_groupsc_W, ne_eq, not_true_eq_false, if_false]
    refine W.mono (loop_ref03_groups _ rfl 9 [] l _ _ _ (by simp) ?_ ?_ ?_ (Acc.nil (g := [rE l 0, ⟨0, .cells false 2 [.slice none 0 0, .int .i64 0]⟩]))) fun x e hh ⟨q1, q2, q3⟩ => ?_
    · (first | assumption | rfl)
    · (first | assumption | rfl)
    · (first | assumption | rfl)
    subst q1
    cases hg : gr 10 l with
    | ok g r =>
      rw [hg] at q3
      obtain ⟨q3, q4⟩ := q3
      simp only [fws, cond_true, cond_false, if_true, if_false, unV, isNil, optI, iV, stepI, evalR, reduceIte, reduceCtorEq, Nat.reduceEqDiff, Int.reduceLT, Int.reduceLE, Int.reduceToNat, Nat.reduceLT, Nat.reduceLeDiff, Int.reduceEq, Int.reduceNeg, IntKind.bits, Nat.reduceAdd, Nat.reduceMul, Nat.reducePow, Int.reducePow, ini, fwh, lk, cellsAt, tagOf, spotOf, rdN, spl, fillL, zr, fwi, q2, q3]
      exact frz_t2 (frz_pure (by simp [pure_agg, pure_tup, pure_int, pure_bool, pure_string, pure_slN, pure_ptrN, pure_mapN, pure_imm, pure_immN, bltN, byteE_d, intE_d, boolE_d, strE_d])) (by simpa using q4)
    | short =>
      rw [hg] at q3
      obtain ⟨q3, q4⟩ := q3
      simp only [fws, cond_true, cond_false, if_true, if_false, unV, isNil, optI, iV, stepI, evalR, reduceIte, reduceCtorEq, Nat.reduceEqDiff, Int.reduceLT, Int.reduceLE, Int.reduceToNat, Nat.reduceLT, Nat.reduceLeDiff, Int.reduceEq, Int.reduceNeg, IntKind.bits, Nat.reduceAdd, Nat.reduceMul, Nat.reducePow, Int.reducePow, ini, fwh, lk, cellsAt, tagOf, spotOf, rdN, spl, fillL, zr, fwi, q2, q3, q4]
      exact frz_t2 (frz_pure (by simp [pure_agg, pure_tup, pure_int, pure_bool, pure_string, pure_slN, pure_ptrN, pure_mapN, pure_imm, pure_immN, bltN, byteE_d, intE_d, boolE_d, strE_d])) (frz_pure rfl)
    | long =>
      rw [hg] at q3
      obtain ⟨q3, q4⟩ := q3
      simp only [fws, cond_true, cond_false, if_true, if_false, unV, isNil, optI, iV, stepI, evalR, reduceIte, reduceCtorEq, Nat.reduceEqDiff, Int.reduceLT, Int.reduceLE, Int.reduceToNat, Nat.reduceLT, Nat.reduceLeDiff, Int.reduceEq, Int.reduceNeg, IntKind.bits, Nat.reduceAdd, Nat.reduceMul, Nat.reducePow, Int.reducePow, ini, fwh, lk, cellsAt, tagOf, spotOf, rdN, spl, fillL, zr, fwi, q2, q3, q4]
      exact frz_t2 (frz_pure (by simp [pure_agg, pure_tup, pure_int, pure_bool, pure_string, pure_slN, pure_ptrN, pure_mapN, pure_imm, pure_immN, bltN, byteE_d, intE_d, boolE_d, strE_d])) (frz_pure rfl)
  · simp only [F_ref03_groups, fws, cond_true, cond_false, if_true, if_false, unV, isNil, optI, iV, stepI, evalR, reduceIte, reduceCtorEq, Nat.reduceEqDiff, Int.reduceLT, Int.reduceLE, Int.reduceToNat, Nat.reduceLT, Nat.reduceLeDiff, Int.reduceEq, Int.reduceNeg, IntKind.bits, Nat.reduceAdd, Nat.reduceMul, Nat.reducePow, Int.reducePow, ini, fwh, lk, cellsAt, tagOf, spotOf, rdN, spl, fillL, zr, fwi, F_ref03_groupsr0_W, F_ref03_groupsr1_W, F_ref03_groupsr2_W, F_ref03_groupsr3_W, F_ref03_groupsr4_W, F_ref03_groupsr5_W, F_ref03_groupsr6_W, F_ref03_groupsr7_W, F_ref03_groupsr8_W, F_ref03_groupsr9_W, F_ref03_groupsr10_W, F_ref03_groupsr11_W, F_ref03_groupsr12_W, F_ref03_groupsr13_W, F_ref03_groupsl0_W, F_ref03_groupsr14_W, F_ref03_groupsc_W, F_ref03_groupsr0_W, F_ref03_groupsr1_W, F_ref03_groupsr2_W, F_ref03_groupsr3_W, F_ref03_groupsr4_W, F_ref03_groupsr5_W, F_ref03_groupsr6_W, F_ref03_groupsr7_W, F_ref03_groupsr8_W, F_ref03_groupsr9_W, F_ref03_groupsr10_W, F_ref03_groupsr11_W, F_ref03_groupsr12_W, F_ref03_groupsr13_W, F_ref03_groupsl0_W, F_ref03_groupsr14_W, F_ref03_groupsc_W, ne_eq, hf, not_false_eq_true, if_true]
    rw [w_loop]
    simp only [F_ref03_groups, fws, cond_true, cond_false, if_true, if_false, unV, isNil, optI, iV, stepI, evalR, reduceIte, reduceCtorEq, Nat.reduceEqDiff, Int.reduceLT, Int.reduceLE, Int.reduceToNat, Nat.reduceLT, Nat.reduceLeDiff, Int.reduceEq, Int.reduceNeg, IntKind.bits, Nat.reduceAdd, Nat.reduceMul, Nat.reducePow, Int.reducePow, ini, fwh, lk, cellsAt, tagOf, spotOf, rdN, spl, fillL, zr, fwi, F_ref03_groupsr0_W, F_ref03_groupsr1_W, F_ref03_groupsr2_W, F_ref03_groupsr3_W, F_ref03_groupsr4_W, F_ref03_groupsr5_W, F_ref03_groupsr6_W, F_ref03_groupsr7_W, F_ref03_groupsr8_W, F_ref03_groupsr9_W, F_ref03_groupsr10_W, F_ref03_groupsr11_W, F_ref03_groupsr12_W, F_ref03_groupsr13_W, F_ref03_groupsl0_W, F_ref03_groupsr14_W, F_ref03_groupsc_W, F_ref03_groupsr0_W, F_ref03_groupsr1_W, F_ref03_groupsr2_W, F_ref03_groupsr3_W, F_ref03_groupsr4_W, F_ref03_groupsr5_W, F_ref03_groupsr6_W, F_ref03_groupsr7_W, F_ref03_groupsr8_W, F_ref03_groupsr9_W, F_ref03_groupsr10_W, F_ref03_groupsr11_W, F_ref03_groupsr12_W, F_ref03_groupsr13_W, F_ref03_groupsl0_W, F_ref03_groupsr14_W, F_ref03_groupsc_W, hf]
    exact frz_t2 (frz_pure (by simp [pure_agg, pure_tup, pure_int, pure_bool, pure_string, pure_slN, pure_ptrN, pure_mapN, pure_imm, pure_immN, bltN, byteE_d, intE_d, boolE_d, strE_d])) (frz_pure rfl)
end Go.Proofs.Ytdkdifjjpbfohaa
