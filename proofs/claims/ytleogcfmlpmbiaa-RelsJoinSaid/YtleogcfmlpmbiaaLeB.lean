/- The document's numbers at places, parts; LeReads. -/
import Derived.Test.YtleogcfmlpmbiaaLeA
namespace Go.Proofs.Ytleogcfmlpmbiaa
open Go Fw
set_option linter.unusedSimpArgs false
set_option linter.unusedVariables false

/-- A copy into an empty slice, frozen. -/
theorem appf_z {α : Type} {E : Enc α} {n eb : Nat} (hn : n = E.u) (hd : E.d ≤ 6) (H : Heap) (l : List α) (hl : l.length * eb ≤ 140737488355328) :
    (appV n eb (H ++ [⟨0, .cells false n []⟩]) (.slice (some ⟨H.length, 0, none⟩) 0 0) (E.cs l) l.length).bind (fun r => fzV r.2 r.1) = some (imm E l, H ++ [⟨2, .dead⟩]) := by
  have h1 : lk (H ++ [⟨0, .cells false n []⟩]) ⟨H.length, 0, none⟩ = some ⟨0, .cells false n []⟩ := by simp [lk, tagOf]
  have h2 : lk (H ++ [⟨1, .cells false n (E.cs l)⟩]) ⟨H.length, 0, spotOf 1⟩ = some ⟨1, .cells false n (E.cs l)⟩ := by simp [lk, tagOf, spotOf]
  have h4 : ∀ m x, pureV 7 (.slice (some x) m m) = false := fun m x => rfl
  unfold appV
  simp only [h1, List.length_nil, Nat.zero_mul, Nat.add_zero, Nat.zero_add, true_and, hl, if_true, List.drop_nil, List.nil_append, Option.bind_some, List.set_append_right _ _ (Nat.le_refl _), Nat.sub_self, List.set_cons_zero, fzV, h4, cond_false, h2, List.drop_zero, rdN_cs (E := E) (l := l) (congrArg (l.length * ·) hn), cs_pure' (E := E) (l := l) hd, cond_true]
  rfl
theorem srcOf_slb {H : Heap} {o : Option (List UInt8)} : srcOf H 1 (slV byteE o) = some (byteE.cs (lst o), (lst o).length) := srcOf_sl (E := byteE) rfl

theorem strEq_str {a b : List UInt8} : strEq ⟨a.toArray⟩ ⟨b.toArray⟩ = decide (a = b) := by
  show (a == b) = _
  by_cases h : a = b
  · subst h; simp
  · simp [h]
theorem strEq_self {a : List UInt8} : strEq ⟨a.toArray⟩ ⟨a.toArray⟩ = true := by rw [strEq_str]; simp
theorem loop_ref02_Get {T : Tab} (l : List UInt8) (v : Value) (hv : Src byteE v l) (hl : l.length ≤ 100000) (a k : Nat) (hk : k ≤ 8) (hak : a + k ≤ l.length) : ∀ (m i : Nat) (env : Env), i + m = k → env 0 = v → env 1 = .int .u64 a → env 2 = .int .i64 k → env 8 = .int .u64 (leN ((l.drop a).take i)) → env 9 = .int .u64 (256 ^ i % 18446744073709551616 : Nat) → env 10 = .int .i64 i →
    W T (.loop F_ref02_Getl0) env [] fun x e h => x = .exit 0 ∧ h = [] ∧ e 8 = .int .u64 (leN ((l.drop a).take k)) := by
  have wa : IntKind.i64.wrap (a : Int) = a := wrapI64 (by omega) (by omega)
  intro m
  induction m with
  | zero =>
    intro i env hi v0 v1 v2 v8 v9 v10
    have : i = k := by omega
    subst this
    have q : ¬ ((i : Int) < i) := by omega
    rw [w_loop]
    simp only [fws, cond_true, cond_false, if_true, if_false, unV, isNil, optI, iV, stepI, evalR, reduceIte, reduceCtorEq, Nat.reduceEqDiff, Int.reduceLT, Int.reduceLE, Int.reduceToNat, Nat.reduceLT, Nat.reduceLeDiff, Int.reduceEq, Int.reduceNeg, IntKind.bits, Nat.reduceAdd, Nat.reduceMul, Nat.reducePow, Int.reducePow, ini, F_ref02_Getr0_W, F_ref02_Getr1_W, F_ref02_Getr1_g5, F_ref02_Getr2_W, F_ref02_Getr3_W, F_ref02_Getr4_W, F_ref02_Getr5_W, F_ref02_Getr7_W, F_ref02_Getr8_W, F_ref02_Getr6_W, F_ref02_Getl0_W, F_ref02_Getr9_W, F_ref02_Getc_W, v0, v1, v2, v8, v9, v10, q, and_self]
  | succ m ih =>
    intro i env hi v0 v1 v2 v8 v9 v10
    have q : ((i : Int) < k) := by omega
    have hix : a + i < l.length := by omega
    have w1 : IntKind.i64.wrap ((a : Int) + (i : Int)) = ((a + i : Nat) : Int) := by rw [wrapI64 (by omega) (by omega)]; omega
    have hx : ∀ H, ixaI H 1 v (.int .i64 ((a + i : Nat) : Int)) = some (atI byteE l (a + i), H) := fun H => hv.2 (a + i) hix .i64 H
    have w2 : IntKind.i64.wrap ((i : Int) + 1) = ((i + 1 : Nat) : Int) := by rw [wrapI64 (by omega) (by omega)]; rfl
    have hcut : (l.drop a).take (i + 1) = (l.drop a).take i ++ [l[a + i]] := by
      rw [List.take_add_one, List.getElem?_drop, List.getElem?_eq_getElem hix]
      rfl
    have hlen : ((l.drop a).take i).length = i := by rw [List.length_take, List.length_drop]; omega
    have hn := leN_lt ((l.drop a).take i)
    rw [hlen] at hn
    have hle : leN ((l.drop a).take (i + 1)) = leN ((l.drop a).take i) + 256 ^ i * (l[a + i]).toNat := by rw [hcut, leN_app, hlen]
    have hlt := leN_lt ((l.drop a).take (i + 1))
    have h78 : (256 : Nat) ^ (((l.drop a).take (i + 1)).length) ≤ 256 ^ 8 := Nat.pow_le_pow_right (by decide) (by rw [List.length_take]; omega)
    have h8 : (256 : Nat) ^ 8 = 18446744073709551616 := by decide
    have hi7 : (256 : Nat) ^ i ≤ 256 ^ 7 := Nat.pow_le_pow_right (by decide) (by omega)
    have h7 : (256 : Nat) ^ 7 = 72057594037927936 := by decide
    have hu : 256 ^ i % 18446744073709551616 = 256 ^ i := Nat.mod_eq_of_lt (by omega)
    rw [hu] at v9
    generalize hX : (256 : Nat) ^ i = X at *
    have hc := (l[a + i]).toNat_lt
    have hmul : (((l[a + i]).toNat : Nat) : Int) * (X : Int) = ((X * (l[a + i]).toNat : Nat) : Int) := by rw [Nat.mul_comm]; rfl
    have w3 : IntKind.u64.wrap ((leN ((l.drop a).take i) : Int) + IntKind.u64.wrap (IntKind.u64.wrap ((l[a + i]).toNat : Int) * (X : Int))) = (leN ((l.drop a).take (i + 1)) : Int) := by
      have e1 : IntKind.u64.wrap ((l[a + i]).toNat : Int) = ((l[a + i]).toNat : Int) := by rw [wrap_u64]; omega
      rw [e1, hmul, hle]
      have e2 : IntKind.u64.wrap ((X * (l[a + i]).toNat : Nat) : Int) = ((X * (l[a + i]).toNat : Nat) : Int) := by rw [wrap_u64]; omega
      rw [e2, wrap_u64]
      omega
    have w4 : IntKind.u64.wrap ((X : Int) * 256) = ((256 ^ (i + 1) % 18446744073709551616 : Nat) : Int) := by
      rw [wrap_u64, Nat.pow_succ, hX]
      omega
    rw [w_loop]
    simp only [fws, cond_true, cond_false, if_true, if_false, unV, isNil, optI, iV, stepI, evalR, reduceIte, reduceCtorEq, Nat.reduceEqDiff, Int.reduceLT, Int.reduceLE, Int.reduceToNat, Nat.reduceLT, Nat.reduceLeDiff, Int.reduceEq, Int.reduceNeg, IntKind.bits, Nat.reduceAdd, Nat.reduceMul, Nat.reducePow, Int.reducePow, ini, fwi, F_ref02_Getr0_W, F_ref02_Getr1_W, F_ref02_Getr1_g5, F_ref02_Getr2_W, F_ref02_Getr3_W, F_ref02_Getr4_W, F_ref02_Getr5_W, F_ref02_Getr7_W, F_ref02_Getr8_W, F_ref02_Getr6_W, F_ref02_Getl0_W, F_ref02_Getr9_W, F_ref02_Getc_W, v0, v1, v2, v8, v9, v10, q, wa, w1, hx, at_cons hix, w3, w4, w2]
    refine ih (i + 1) _ (by omega) ?_ ?_ ?_ ?_ ?_ ?_
    all_goals (first | (simp only [fws, cond_true, cond_false, if_true, if_false, unV, isNil, optI, iV, stepI, evalR, reduceIte, reduceCtorEq, Nat.reduceEqDiff, Int.reduceLT, Int.reduceLE, Int.reduceToNat, Nat.reduceLT, Nat.reduceLeDiff, Int.reduceEq, Int.reduceNeg, IntKind.bits, Nat.reduceAdd, Nat.reduceMul, Nat.reducePow, Int.reducePow, ini, *]; done) | (simp only [fws, cond_true, cond_false, if_true, if_false, unV, isNil, optI, iV, stepI, evalR, reduceIte, reduceCtorEq, Nat.reduceEqDiff, Int.reduceLT, Int.reduceLE, Int.reduceToNat, Nat.reduceLT, Nat.reduceLeDiff, Int.reduceEq, Int.reduceNeg, IntKind.bits, Nat.reduceAdd, Nat.reduceMul, Nat.reducePow, Int.reducePow, ini]; rfl))
theorem f_ref02_Get {T : Tab} (h : T 37 = some F_ref02_Get) (l : List UInt8) (v : Value) (hv : Src byteE v l) (hp : pureV 6 v = true) (hl : l.length ≤ 100000) (a k : Nat) (ha : a < 18446744073709551616) (hk : 1 ≤ k ∧ k ≤ 8) :
    FnV T 37 [v, .int .u64 a, .int .i64 k] (getV l a k) := by
  refine FnV_of (by simp [pure_int, hp]) ?_
  rw [Ev_fn h rfl]
  have wl : IntKind.u64.wrap (l.length : Int) = l.length := by rw [wrap_u64]; omega
  unfold getV
  by_cases h1 : l.length < a
  · have q : ((l.length : Int) < a) := by omega
    rw [if_neg (by omega)]
    simp only [F_ref02_Get, fws, cond_true, cond_false, if_true, if_false, unV, isNil, optI, iV, stepI, evalR, reduceIte, reduceCtorEq, Nat.reduceEqDiff, Int.reduceLT, Int.reduceLE, Int.reduceToNat, Nat.reduceLT, Nat.reduceLeDiff, Int.reduceEq, Int.reduceNeg, IntKind.bits, Nat.reduceAdd, Nat.reduceMul, Nat.reducePow, Int.reducePow, ini, fwi, F_ref02_Getr0_W, F_ref02_Getr1_W, F_ref02_Getr1_g5, F_ref02_Getr2_W, F_ref02_Getr3_W, F_ref02_Getr4_W, F_ref02_Getr5_W, F_ref02_Getr7_W, F_ref02_Getr8_W, F_ref02_Getr6_W, F_ref02_Getl0_W, F_ref02_Getr9_W, F_ref02_Getc_W, hv.1, wl, q]
    rfl
  · have q : ¬ ((l.length : Int) < a) := by omega
    have wa : IntKind.i64.wrap (a : Int) = a := wrapI64 (by omega) (by omega)
    have ws : IntKind.i64.wrap ((l.length : Int) - a) = (l.length : Int) - a := wrapI64 (by omega) (by omega)
    by_cases hak : a + k ≤ l.length
    · have q2 : ¬ ((l.length : Int) - a < k) := by omega
      rw [if_pos hak]
      simp only [F_ref02_Get, fws, cond_true, cond_false, if_true, if_false, unV, isNil, optI, iV, stepI, evalR, reduceIte, reduceCtorEq, Nat.reduceEqDiff, Int.reduceLT, Int.reduceLE, Int.reduceToNat, Nat.reduceLT, Nat.reduceLeDiff, Int.reduceEq, Int.reduceNeg, IntKind.bits, Nat.reduceAdd, Nat.reduceMul, Nat.reducePow, Int.reducePow, ini, fwi, F_ref02_Getr0_W, F_ref02_Getr1_W, F_ref02_Getr1_g5, F_ref02_Getr2_W, F_ref02_Getr3_W, F_ref02_Getr4_W, F_ref02_Getr5_W, F_ref02_Getr7_W, F_ref02_Getr8_W, F_ref02_Getr6_W, F_ref02_Getl0_W, F_ref02_Getr9_W, F_ref02_Getc_W, hv.1, wl, q, wa, ws, q2]
      refine W.mono (loop_ref02_Get l v hv hl a k hk.2 hak k 0 _ (Nat.zero_add _) ?_ ?_ ?_ ?_ ?_ ?_) fun x e h ⟨g1, g2, g3⟩ => ?_
      all_goals try (first | (simp only [fws, cond_true, cond_false, if_true, if_false, unV, isNil, optI, iV, stepI, evalR, reduceIte, reduceCtorEq, Nat.reduceEqDiff, Int.reduceLT, Int.reduceLE, Int.reduceToNat, Nat.reduceLT, Nat.reduceLeDiff, Int.reduceEq, Int.reduceNeg, IntKind.bits, Nat.reduceAdd, Nat.reduceMul, Nat.reducePow, Int.reducePow, ini, *]; done) | (simp only [fws, cond_true, cond_false, if_true, if_false, unV, isNil, optI, iV, stepI, evalR, reduceIte, reduceCtorEq, Nat.reduceEqDiff, Int.reduceLT, Int.reduceLE, Int.reduceToNat, Nat.reduceLT, Nat.reduceLeDiff, Int.reduceEq, Int.reduceNeg, IntKind.bits, Nat.reduceAdd, Nat.reduceMul, Nat.reducePow, Int.reducePow, ini]; rfl))
      subst g1; subst g2
      simp only [fws, cond_true, cond_false, if_true, if_false, unV, isNil, optI, iV, stepI, evalR, reduceIte, reduceCtorEq, Nat.reduceEqDiff, Int.reduceLT, Int.reduceLE, Int.reduceToNat, Nat.reduceLT, Nat.reduceLeDiff, Int.reduceEq, Int.reduceNeg, IntKind.bits, Nat.reduceAdd, Nat.reduceMul, Nat.reducePow, Int.reducePow, ini, F_ref02_Getr0_W, F_ref02_Getr1_W, F_ref02_Getr1_g5, F_ref02_Getr2_W, F_ref02_Getr3_W, F_ref02_Getr4_W, F_ref02_Getr5_W, F_ref02_Getr7_W, F_ref02_Getr8_W, F_ref02_Getr6_W, F_ref02_Getl0_W, F_ref02_Getr9_W, F_ref02_Getc_W, g3]
      rfl
    · have q2 : ((l.length : Int) - a < k) := by omega
      rw [if_neg hak]
      simp only [F_ref02_Get, fws, cond_true, cond_false, if_true, if_false, unV, isNil, optI, iV, stepI, evalR, reduceIte, reduceCtorEq, Nat.reduceEqDiff, Int.reduceLT, Int.reduceLE, Int.reduceToNat, Nat.reduceLT, Nat.reduceLeDiff, Int.reduceEq, Int.reduceNeg, IntKind.bits, Nat.reduceAdd, Nat.reduceMul, Nat.reducePow, Int.reducePow, ini, fwi, F_ref02_Getr0_W, F_ref02_Getr1_W, F_ref02_Getr1_g5, F_ref02_Getr2_W, F_ref02_Getr3_W, F_ref02_Getr4_W, F_ref02_Getr5_W, F_ref02_Getr7_W, F_ref02_Getr8_W, F_ref02_Getr6_W, F_ref02_Getl0_W, F_ref02_Getr9_W, F_ref02_Getc_W, hv.1, wl, q, wa, ws, q2]
      rfl
def getC (kd : IntKind) (l : List UInt8) (a k : Nat) : Value := if a + k ≤ l.length then .tuple #[.int kd (leN ((l.drop a).take k)), .int .i64 0] else .tuple #[.int kd 0, .int .i64 20]
theorem leN_take {l : List UInt8} {a k : Nat} (hk : k ≤ 8) : leN ((l.drop a).take k) < 256 ^ k := by
  refine Nat.lt_of_lt_of_le (leN_lt _) (Nat.pow_le_pow_right (by decide) ?_)
  rw [List.length_take]; omega
section
variable {T : Tab} (h0 : T 69 = some F_num_Sub) (h1 : T 55 = some F_num_Inside) (h2 : T 54 = some F_le_get) (l : List UInt8) (v : Value) (hv : Src byteE v l) (hp : pureV 6 v = true) (hl : l.length ≤ 100000) (a : Nat) (ha : a < 18446744073709551616)
include h0 h1 h2 hv hp hl ha
theorem f_le_U16 (h : T 33 = some F_le_U16) : FnV T 33 [v, .int .u64 a] (getC .u16 l a 2) := by
  refine FnV_of (by simp [pure_int, hp]) ?_
  rw [Ev_fn h rfl]
  have c1 : FnV T 54 [v, .int .u64 a, .int .u64 2] (getV l a 2) := f_le_get h0 h1 h2 l v hv hp hl a 2 ha ⟨by decide, by decide⟩
  have hlt := leN_take (l := l) (a := a) (k := 2) (by decide)
  unfold getV at c1
  unfold getC
  by_cases hak : a + 2 ≤ l.length
  · have w : IntKind.u16.wrap (leN ((l.drop a).take 2) : Int) = leN ((l.drop a).take 2) := by rw [wrap_u16]; omega
    rw [if_pos hak] at c1 ⊢
    simp only [F_le_U16, fws, cond_true, cond_false, if_true, if_false, unV, isNil, optI, iV, stepI, evalR, reduceIte, reduceCtorEq, Nat.reduceEqDiff, Int.reduceLT, Int.reduceLE, Int.reduceToNat, Nat.reduceLT, Nat.reduceLeDiff, Int.reduceEq, Int.reduceNeg, IntKind.bits, Nat.reduceAdd, Nat.reduceMul, Nat.reducePow, Int.reducePow, ini, fwh, lk, cellsAt, tagOf, spotOf, rdN, spl, fillL, zr, fwi, F_le_U16r0_W, F_le_U16r1_W, F_le_U16r2_W, F_le_U16c_W, CC_of c1, w]
    rfl
  · rw [if_neg hak] at c1 ⊢
    simp only [F_le_U16, fws, cond_true, cond_false, if_true, if_false, unV, isNil, optI, iV, stepI, evalR, reduceIte, reduceCtorEq, Nat.reduceEqDiff, Int.reduceLT, Int.reduceLE, Int.reduceToNat, Nat.reduceLT, Nat.reduceLeDiff, Int.reduceEq, Int.reduceNeg, IntKind.bits, Nat.reduceAdd, Nat.reduceMul, Nat.reducePow, Int.reducePow, ini, fwh, lk, cellsAt, tagOf, spotOf, rdN, spl, fillL, zr, fwi, F_le_U16r0_W, F_le_U16r1_W, F_le_U16r2_W, F_le_U16c_W, CC_of c1]
    rfl
theorem f_le_U32 (h : T 34 = some F_le_U32) : FnV T 34 [v, .int .u64 a] (getC .u32 l a 4) := by
  refine FnV_of (by simp [pure_int, hp]) ?_
  rw [Ev_fn h rfl]
  have c1 : FnV T 54 [v, .int .u64 a, .int .u64 4] (getV l a 4) := f_le_get h0 h1 h2 l v hv hp hl a 4 ha ⟨by decide, by decide⟩
  have hlt := leN_take (l := l) (a := a) (k := 4) (by decide)
  unfold getV at c1
  unfold getC
  by_cases hak : a + 4 ≤ l.length
  · have w : IntKind.u32.wrap (leN ((l.drop a).take 4) : Int) = leN ((l.drop a).take 4) := by rw [wrap_u32]; omega
    rw [if_pos hak] at c1 ⊢
    simp only [F_le_U32, fws, cond_true, cond_false, if_true, if_false, unV, isNil, optI, iV, stepI, evalR, reduceIte, reduceCtorEq, Nat.reduceEqDiff, Int.reduceLT, Int.reduceLE, Int.reduceToNat, Nat.reduceLT, Nat.reduceLeDiff, Int.reduceEq, Int.reduceNeg, IntKind.bits, Nat.reduceAdd, Nat.reduceMul, Nat.reducePow, Int.reducePow, ini, fwh, lk, cellsAt, tagOf, spotOf, rdN, spl, fillL, zr, fwi, F_le_U32r0_W, F_le_U32r1_W, F_le_U32r2_W, F_le_U32c_W, CC_of c1, w]
    rfl
  · rw [if_neg hak] at c1 ⊢
    simp only [F_le_U32, fws, cond_true, cond_false, if_true, if_false, unV, isNil, optI, iV, stepI, evalR, reduceIte, reduceCtorEq, Nat.reduceEqDiff, Int.reduceLT, Int.reduceLE, Int.reduceToNat, Nat.reduceLT, Nat.reduceLeDiff, Int.reduceEq, Int.reduceNeg, IntKind.bits, Nat.reduceAdd, Nat.reduceMul, Nat.reducePow, Int.reducePow, ini, fwh, lk, cellsAt, tagOf, spotOf, rdN, spl, fillL, zr, fwi, F_le_U32r0_W, F_le_U32r1_W, F_le_U32r2_W, F_le_U32c_W, CC_of c1]
    rfl
theorem f_le_U64 (h : T 35 = some F_le_U64) : FnV T 35 [v, .int .u64 a] (getV l a 8) := by
  refine FnV_of (by simp [pure_int, hp]) ?_
  rw [Ev_fn h rfl]
  have c1 : FnV T 54 [v, .int .u64 a, .int .u64 8] (getV l a 8) := f_le_get h0 h1 h2 l v hv hp hl a 8 ha ⟨by decide, by decide⟩
  unfold getV at c1 ⊢
  by_cases hak : a + 8 ≤ l.length
  · rw [if_pos hak] at c1 ⊢
    simp only [F_le_U64, fws, cond_true, cond_false, if_true, if_false, unV, isNil, optI, iV, stepI, evalR, reduceIte, reduceCtorEq, Nat.reduceEqDiff, Int.reduceLT, Int.reduceLE, Int.reduceToNat, Nat.reduceLT, Nat.reduceLeDiff, Int.reduceEq, Int.reduceNeg, IntKind.bits, Nat.reduceAdd, Nat.reduceMul, Nat.reducePow, Int.reducePow, ini, fwh, lk, cellsAt, tagOf, spotOf, rdN, spl, fillL, zr, fwi, F_le_U64r0_W, F_le_U64r1_W, F_le_U64c_W, CC_of c1]
    rfl
  · rw [if_neg hak] at c1 ⊢
    simp only [F_le_U64, fws, cond_true, cond_false, if_true, if_false, unV, isNil, optI, iV, stepI, evalR, reduceIte, reduceCtorEq, Nat.reduceEqDiff, Int.reduceLT, Int.reduceLE, Int.reduceToNat, Nat.reduceLT, Nat.reduceLeDiff, Int.reduceEq, Int.reduceNeg, IntKind.bits, Nat.reduceAdd, Nat.reduceMul, Nat.reducePow, Int.reducePow, ini, fwh, lk, cellsAt, tagOf, spotOf, rdN, spl, fillL, zr, fwi, F_le_U64r0_W, F_le_U64r1_W, F_le_U64c_W, CC_of c1]
    rfl
end
end Go.Proofs.Ytleogcfmlpmbiaa
