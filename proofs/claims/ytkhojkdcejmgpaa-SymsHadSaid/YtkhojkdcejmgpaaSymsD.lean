/- The symbol near a place. -/
import Derived.Test.YtkhojkdcejmgpaaSymsC
namespace Go.Proofs.Ytkhojkdcejmgpaa
open Go Fw
set_option linter.unusedSimpArgs false
set_option linter.unusedVariables false

theorem FnV_ex {T : Tab} {f : Nat} {args : List Value} {X : Type} {P : X → Prop} {g : X → Value} (hp : args.all (pureV 6) = true) (h : Ev T f args [] fun u h => ∃ x, P x ∧ frz 8 h u = some (g x)) : ∃ x, P x ∧ FnV T f args (g x) := by
  obtain ⟨n, u, h', h1, x, hx, h2⟩ := h
  exact ⟨x, hx, hp, n, u, h', h1, h2⟩
/-- Is a place in a symbol's bytes? -/
def szM (sz : Int) : Int := if 1 > sz then 1 else sz
def nearP (at_ : Int) (s : S_api_Sym) : Bool := had s && (!decide (at_ < s.Value) && !decide (szM s.Size ≤ at_ - s.Value))
def cnd (at_ : Int) (l : List S_api_Sym) (j : Nat) : Bool := (l[j]?).any (nearP at_)
def vlu (l : List S_api_Sym) (j : Nat) : Int := ((l[j]?).map (·.Value)).getD 0
theorem cnd_at {at_ : Int} {l : List S_api_Sym} {j : Nat} (h : j < l.length) : cnd at_ l j = nearP at_ l[j] := by unfold cnd; rw [List.getElem?_eq_getElem h]; rfl
theorem vlu_at {l : List S_api_Sym} {j : Nat} (h : j < l.length) : vlu l j = l[j].Value := by unfold vlu; rw [List.getElem?_eq_getElem h]; rfl
/-- The greatest value of those at `a`, .. , `b - 1`, of several the first. -/
def Best (c : Nat → Bool) (V : Nat → Int) (a b : Nat) (n : Int) : Prop :=
  (n = -1 ∧ ∀ j, a ≤ j → j < b → c j = false) ∨ ∃ m : Nat, n = m ∧ a ≤ m ∧ m < b ∧ c m = true ∧ ∀ j, a ≤ j → j < b → c j = true → (j < m → V j < V m) ∧ (m < j → V j ≤ V m)
theorem Best.unique {c : Nat → Bool} {V : Nat → Int} {a b : Nat} {n n' : Int} (h : Best c V a b n) (h' : Best c V a b n') : n = n' := by
  rcases h with ⟨h1, h2⟩ | ⟨m, h1, h2, h3, h4, h5⟩ <;> rcases h' with ⟨k1, k2⟩ | ⟨m', k1, k2, k3, k4, k5⟩
  · rw [h1, k1]
  · rw [h2 m' k2 k3] at k4; cases k4
  · rw [k2 m h2 h3] at h4; cases h4
  · have a1 := h5 m' k2 k3 k4
    have a2 := k5 m h2 h3 h4
    rcases Nat.lt_trichotomy m m' with h | h | h
    · have b1 := a1.2 h; have b2 := a2.1 h; omega
    · rw [h1, k1, h]
    · have b1 := a1.1 h; have b2 := a2.2 h; omega
theorem Best.skip {c : Nat → Bool} {V : Nat → Int} {b : Nat} {n : Int} (h : Best c V 0 b n) (hc : c b = false) : Best c V 0 (b + 1) n := by
  rcases h with ⟨h1, h2⟩ | ⟨m, h1, h2, h3, h4, h5⟩
  · refine .inl ⟨h1, fun j h3 h4 => ?_⟩
    by_cases h : j = b
    · rw [h]; exact hc
    · exact h2 j h3 (by omega)
  · refine .inr ⟨m, h1, h2, by omega, h4, fun j h6 h7 h8 => ?_⟩
    by_cases h : j = b
    · rw [h, hc] at h8; cases h8
    · exact h5 j h6 (by omega) h8
/-- One more behind. -/
theorem Best.more {c : Nat → Bool} {V : Nat → Int} {b : Nat} {n : Int} (h : Best c V 0 b n) (hc : c b = true) : (n < 0 → Best c V 0 (b + 1) b) ∧ (∀ m : Nat, n = m → V m < V b → Best c V 0 (b + 1) b) ∧ (∀ m : Nat, n = m → V b ≤ V m → Best c V 0 (b + 1) n) := by
  refine ⟨fun hn => ?_, fun m hm hv => ?_, fun m hm hv => ?_⟩
  · rcases h with ⟨h1, h2⟩ | ⟨m, h1, h2, h3, h4, h5⟩
    · refine .inr ⟨b, rfl, Nat.zero_le _, by omega, hc, fun j h6 h7 h8 => ?_⟩
      by_cases h : j = b
      · subst h; exact ⟨fun h => by omega, fun h => by omega⟩
      · rw [h2 j h6 (by omega)] at h8; cases h8
    · omega
  · rcases h with ⟨h1, h2⟩ | ⟨m', h1, h2, h3, h4, h5⟩
    · omega
    · have : m' = m := by omega
      subst this
      refine .inr ⟨b, rfl, Nat.zero_le _, by omega, hc, fun j h6 h7 h8 => ⟨fun h => ?_, fun h => by omega⟩⟩
      have := h5 j h6 h h8
      rcases Nat.lt_trichotomy j m' with q | q | q
      · have := this.1 q; omega
      · subst q; exact hv
      · have := this.2 q; omega
  · rcases h with ⟨h1, h2⟩ | ⟨m', h1, h2, h3, h4, h5⟩
    · omega
    · have : m' = m := by omega
      subst this
      refine .inr ⟨m', h1, h2, by omega, h4, fun j h6 h7 h8 => ?_⟩
      by_cases h : j = b
      · subst h; exact ⟨fun h => by omega, fun _ => hv⟩
      · exact h5 j h6 (by omega) h8
theorem Best.skipD {c : Nat → Bool} {V : Nat → Int} {a b : Nat} {n : Int} (h : Best c V (a + 1) b n) (hc : c a = false) : Best c V a b n := by
  rcases h with ⟨h1, h2⟩ | ⟨m, h1, h2, h3, h4, h5⟩
  · refine .inl ⟨h1, fun j h3 h4 => ?_⟩
    by_cases h : j = a
    · rw [h]; exact hc
    · exact h2 j (by omega) h4
  · refine .inr ⟨m, h1, by omega, h3, h4, fun j h6 h7 h8 => ?_⟩
    by_cases h : j = a
    · rw [h, hc] at h8; cases h8
    · exact h5 j (by omega) h7 h8
theorem Best.moreD {c : Nat → Bool} {V : Nat → Int} {a b : Nat} {n : Int} (hab : a < b) (h : Best c V (a + 1) b n) (hc : c a = true) : (n < 0 → Best c V a b a) ∧ (∀ m : Nat, n = m → V m ≤ V a → Best c V a b a) ∧ (∀ m : Nat, n = m → V a < V m → Best c V a b n) := by
  refine ⟨fun hn => ?_, fun m hm hv => ?_, fun m hm hv => ?_⟩
  · rcases h with ⟨h1, h2⟩ | ⟨m, h1, h2, h3, h4, h5⟩
    · refine .inr ⟨a, rfl, Nat.le_refl _, hab, hc, fun j h6 h7 h8 => ?_⟩
      by_cases h : j = a
      · subst h; exact ⟨fun h => by omega, fun h => by omega⟩
      · rw [h2 j (by omega) h7] at h8; cases h8
    · omega
  · rcases h with ⟨h1, h2⟩ | ⟨m', h1, h2, h3, h4, h5⟩
    · omega
    · have : m' = m := by omega
      subst this
      refine .inr ⟨a, rfl, Nat.le_refl _, hab, hc, fun j h6 h7 h8 => ⟨fun h => by omega, fun h => ?_⟩⟩
      have := h5 j (by omega) h7 h8
      rcases Nat.lt_trichotomy j m' with q | q | q
      · have := this.1 q; omega
      · subst q; exact hv
      · have := this.2 q; omega
  · rcases h with ⟨h1, h2⟩ | ⟨m', h1, h2, h3, h4, h5⟩
    · omega
    · have : m' = m := by omega
      subst this
      refine .inr ⟨m', h1, by omega, h3, h4, fun j h6 h7 h8 => ?_⟩
      by_cases h : j = a
      · subst h; exact ⟨fun _ => hv, fun h => by omega⟩
      · exact h5 j (by omega) h7 h8
abbrev isU64 (n : Int) : Prop := 0 ≤ n ∧ n < 18446744073709551616
def okN (l : List S_api_Sym) : Prop := ∀ s ∈ l, isU64 s.Value ∧ isU64 s.Size

theorem loop_syms_Near {T : Tab} (hE : T 33 = some F_syms_Exported) (l : List S_api_Sym) (hl : l.length ≤ 1000) (hw : okN l) (v : Value) (hv : Src S_api_SymE v l) (at_ : Int) (hat : isU64 at_) :
    ∀ (m i : Nat) (n : Int) (H : Heap) (env : Env), i + m = l.length → Best (cnd at_ l) (vlu l) 0 i n → env 0 = v → env 1 = .int .u64 at_ → env 5 = .int .i64 n → env 8 = v → env 9 = .int .i64 l.length → env 10 = .int .i64 i →
    W T (.loop F_syms_Nearl0) env H fun x e _ => x = .exit 0 ∧ ∃ n, e 5 = .int .i64 n ∧ Best (cnd at_ l) (vlu l) 0 l.length n := by
  have hlen := hv.1
  intro m
  induction m with
  | zero =>
    intro i n H env hi hb v0 v1 v5 v8 v9 v10
    have h1 : ¬ ((i : Int) < l.length) := by omega
    have : i = l.length := by omega
    subst this
    rw [w_loop]
    simp only [fws, cond_true, cond_false, if_true, if_false, unV, isNil, optI, iV, stepI, evalR, reduceIte, reduceCtorEq, Nat.reduceEqDiff, Int.reduceLT, Int.reduceLE, Int.reduceToNat, Nat.reduceLT, Nat.reduceLeDiff, Int.reduceEq, Int.reduceNeg, IntKind.bits, Nat.reduceAdd, Nat.reduceMul, Nat.reducePow, Int.reducePow, ini, F_syms_Nearr0_W, F_syms_Nearr1_W, F_syms_Nearr2_W, F_syms_Nearr3_W, F_syms_Nearr4_W, F_syms_Nearr5_W, F_syms_Nearr5_g3, F_syms_Nearr5_g9, F_syms_Nearr6_g2, F_syms_Nearr6_W, F_syms_Nearr7_W, F_syms_Nearr8_W, F_syms_Nearl0_W, F_syms_Nearr9_W, F_syms_Nearc_W, v0, v1, v5, v8, v9, v10, h1]
    exact ⟨trivial, n, rfl, hb⟩
  | succ m ih =>
    intro i n H env hi hb v0 v1 v5 v8 v9 v10
    have h1 : ((i : Int) < l.length) := by omega
    have hix : i < l.length := by omega
    have hx : ∀ H, ixaI H 7 v (.int .i64 i) = some (atI S_api_SymE l i, H) := fun H => hv.2 i hix .i64 H
    have hld : ∀ H, loadNI H 7 (atI S_api_SymE l i) = some (symA l[i], H) := fun H => loadNI_at rfl hix
    have w2 : IntKind.i64.wrap ((i : Int) + 1) = ((i + 1 : Nat) : Int) := by rw [wrapI64 (by omega) (by omega)]; rfl
    have next : ∀ (n' : Int) (env' : Env) (H' : Heap), Best (cnd at_ l) (vlu l) 0 (i + 1) n' → env' 0 = v → env' 1 = .int .u64 at_ → env' 5 = .int .i64 n' → env' 8 = v → env' 9 = .int .i64 l.length → env' 10 = .int .i64 (i + 1 : Nat) →
        W T (.loop F_syms_Nearl0) env' H' fun x e _ => x = .exit 0 ∧ ∃ n, e 5 = .int .i64 n ∧ Best (cnd at_ l) (vlu l) 0 l.length n := fun n' env' H' hb' u0 u1 u5 u8 u9 u10 => ih (i + 1) n' H' env' (by omega) hb' u0 u1 u5 u8 u9 u10
    have hc := cnd_at (at_ := at_) hix
    have hvl := vlu_at hix
    have hwi := hw _ (List.getElem_mem hix)
    have hex := f_syms_Exported hE l[i]
    rcases hs : l[i] with ⟨nm, vr, hid, bd, df, vl, sz⟩
    rw [hs] at hld hex hc hvl hwi
    simp only [isU64] at hat hwi
    rw [w_loop]
    cases hh : had ⟨nm, vr, hid, bd, df, vl, sz⟩ with
    | false =>
      have hk : cnd at_ l i = false := by rw [hc, nearP, hh]; rfl
      simp only [fws, cond_true, cond_false, if_true, if_false, unV, isNil, optI, iV, stepI, evalR, reduceIte, reduceCtorEq, Nat.reduceEqDiff, Int.reduceLT, Int.reduceLE, Int.reduceToNat, Nat.reduceLT, Nat.reduceLeDiff, Int.reduceEq, Int.reduceNeg, IntKind.bits, Nat.reduceAdd, Nat.reduceMul, Nat.reducePow, Int.reducePow, ini, fwh, lk, cellsAt, tagOf, spotOf, rdN, spl, fillL, zr, fwi, F_syms_Nearr0_W, F_syms_Nearr1_W, F_syms_Nearr2_W, F_syms_Nearr3_W, F_syms_Nearr4_W, F_syms_Nearr5_W, F_syms_Nearr5_g3, F_syms_Nearr5_g9, F_syms_Nearr6_g2, F_syms_Nearr6_W, F_syms_Nearr7_W, F_syms_Nearr8_W, F_syms_Nearl0_W, F_syms_Nearr9_W, F_syms_Nearc_W, v0, v1, v5, v8, v9, v10, h1, hx, hld, CC_of hex, hh, w2]
      refine next n _ _ (hb.skip hk) ?_ ?_ ?_ ?_ ?_ ?_
      all_goals (first | (simp only [fws, cond_true, cond_false, if_true, if_false, unV, isNil, optI, iV, stepI, evalR, reduceIte, reduceCtorEq, Nat.reduceEqDiff, Int.reduceLT, Int.reduceLE, Int.reduceToNat, Nat.reduceLT, Nat.reduceLeDiff, Int.reduceEq, Int.reduceNeg, IntKind.bits, Nat.reduceAdd, Nat.reduceMul, Nat.reducePow, Int.reducePow, ini, *]; done) | (simp only [fws, cond_true, cond_false, if_true, if_false, unV, isNil, optI, iV, stepI, evalR, reduceIte, reduceCtorEq, Nat.reduceEqDiff, Int.reduceLT, Int.reduceLE, Int.reduceToNat, Nat.reduceLT, Nat.reduceLeDiff, Int.reduceEq, Int.reduceNeg, IntKind.bits, Nat.reduceAdd, Nat.reduceMul, Nat.reducePow, Int.reducePow, ini]; rfl))
    | true =>
      by_cases ha : at_ < vl
      · have hk : cnd at_ l i = false := by rw [hc, nearP, hh]; simp [ha]
        simp only [fws, cond_true, cond_false, if_true, if_false, unV, isNil, optI, iV, stepI, evalR, reduceIte, reduceCtorEq, Nat.reduceEqDiff, Int.reduceLT, Int.reduceLE, Int.reduceToNat, Nat.reduceLT, Nat.reduceLeDiff, Int.reduceEq, Int.reduceNeg, IntKind.bits, Nat.reduceAdd, Nat.reduceMul, Nat.reducePow, Int.reducePow, ini, fwh, lk, cellsAt, tagOf, spotOf, rdN, spl, fillL, zr, fwi, F_syms_Nearr0_W, F_syms_Nearr1_W, F_syms_Nearr2_W, F_syms_Nearr3_W, F_syms_Nearr4_W, F_syms_Nearr5_W, F_syms_Nearr5_g3, F_syms_Nearr5_g9, F_syms_Nearr6_g2, F_syms_Nearr6_W, F_syms_Nearr7_W, F_syms_Nearr8_W, F_syms_Nearl0_W, F_syms_Nearr9_W, F_syms_Nearc_W, v0, v1, v5, v8, v9, v10, h1, hx, hld, CC_of hex, hh, w2, ha]
        refine next n _ _ (hb.skip hk) ?_ ?_ ?_ ?_ ?_ ?_
        all_goals (first | (simp only [fws, cond_true, cond_false, if_true, if_false, unV, isNil, optI, iV, stepI, evalR, reduceIte, reduceCtorEq, Nat.reduceEqDiff, Int.reduceLT, Int.reduceLE, Int.reduceToNat, Nat.reduceLT, Nat.reduceLeDiff, Int.reduceEq, Int.reduceNeg, IntKind.bits, Nat.reduceAdd, Nat.reduceMul, Nat.reducePow, Int.reducePow, ini, *]; done) | (simp only [fws, cond_true, cond_false, if_true, if_false, unV, isNil, optI, iV, stepI, evalR, reduceIte, reduceCtorEq, Nat.reduceEqDiff, Int.reduceLT, Int.reduceLE, Int.reduceToNat, Nat.reduceLT, Nat.reduceLeDiff, Int.reduceEq, Int.reduceNeg, IntKind.bits, Nat.reduceAdd, Nat.reduceMul, Nat.reducePow, Int.reducePow, ini]; rfl))
      · have w3 : IntKind.u64.wrap (at_ - vl) = at_ - vl := by rw [wrap_u64]; omega
        have hM : (if 1 > sz then (1 : Int) else sz) = szM sz := rfl
        by_cases hz : szM sz ≤ at_ - vl
        · have hk : cnd at_ l i = false := by rw [hc, nearP, hh]; simp [hz]
          simp only [fws, cond_true, cond_false, if_true, if_false, unV, isNil, optI, iV, stepI, evalR, reduceIte, reduceCtorEq, Nat.reduceEqDiff, Int.reduceLT, Int.reduceLE, Int.reduceToNat, Nat.reduceLT, Nat.reduceLeDiff, Int.reduceEq, Int.reduceNeg, IntKind.bits, Nat.reduceAdd, Nat.reduceMul, Nat.reducePow, Int.reducePow, ini, fwh, lk, cellsAt, tagOf, spotOf, rdN, spl, fillL, zr, fwi, F_syms_Nearr0_W, F_syms_Nearr1_W, F_syms_Nearr2_W, F_syms_Nearr3_W, F_syms_Nearr4_W, F_syms_Nearr5_W, F_syms_Nearr5_g3, F_syms_Nearr5_g9, F_syms_Nearr6_g2, F_syms_Nearr6_W, F_syms_Nearr7_W, F_syms_Nearr8_W, F_syms_Nearl0_W, F_syms_Nearr9_W, F_syms_Nearc_W, v0, v1, v5, v8, v9, v10, h1, hx, hld, CC_of hex, hh, w2, ha, w3, hM, hz]
          refine next n _ _ (hb.skip hk) ?_ ?_ ?_ ?_ ?_ ?_
          all_goals (first | (simp only [fws, cond_true, cond_false, if_true, if_false, unV, isNil, optI, iV, stepI, evalR, reduceIte, reduceCtorEq, Nat.reduceEqDiff, Int.reduceLT, Int.reduceLE, Int.reduceToNat, Nat.reduceLT, Nat.reduceLeDiff, Int.reduceEq, Int.reduceNeg, IntKind.bits, Nat.reduceAdd, Nat.reduceMul, Nat.reducePow, Int.reducePow, ini, *]; done) | (simp only [fws, cond_true, cond_false, if_true, if_false, unV, isNil, optI, iV, stepI, evalR, reduceIte, reduceCtorEq, Nat.reduceEqDiff, Int.reduceLT, Int.reduceLE, Int.reduceToNat, Nat.reduceLT, Nat.reduceLeDiff, Int.reduceEq, Int.reduceNeg, IntKind.bits, Nat.reduceAdd, Nat.reduceMul, Nat.reducePow, Int.reducePow, ini]; rfl))
        · have hk : cnd at_ l i = true := by rw [hc, nearP, hh]; simp [hz]; omega
          have hmore := hb.more hk
          by_cases hn : n < 0
          · simp only [fws, cond_true, cond_false, if_true, if_false, unV, isNil, optI, iV, stepI, evalR, reduceIte, reduceCtorEq, Nat.reduceEqDiff, Int.reduceLT, Int.reduceLE, Int.reduceToNat, Nat.reduceLT, Nat.reduceLeDiff, Int.reduceEq, Int.reduceNeg, IntKind.bits, Nat.reduceAdd, Nat.reduceMul, Nat.reducePow, Int.reducePow, ini, fwh, lk, cellsAt, tagOf, spotOf, rdN, spl, fillL, zr, fwi, F_syms_Nearr0_W, F_syms_Nearr1_W, F_syms_Nearr2_W, F_syms_Nearr3_W, F_syms_Nearr4_W, F_syms_Nearr5_W, F_syms_Nearr5_g3, F_syms_Nearr5_g9, F_syms_Nearr6_g2, F_syms_Nearr6_W, F_syms_Nearr7_W, F_syms_Nearr8_W, F_syms_Nearl0_W, F_syms_Nearr9_W, F_syms_Nearc_W, v0, v1, v5, v8, v9, v10, h1, hx, hld, CC_of hex, hh, w2, ha, w3, hM, hz, hn]
            refine next i _ _ (hmore.1 hn) ?_ ?_ ?_ ?_ ?_ ?_
            all_goals (first | (simp only [fws, cond_true, cond_false, if_true, if_false, unV, isNil, optI, iV, stepI, evalR, reduceIte, reduceCtorEq, Nat.reduceEqDiff, Int.reduceLT, Int.reduceLE, Int.reduceToNat, Nat.reduceLT, Nat.reduceLeDiff, Int.reduceEq, Int.reduceNeg, IntKind.bits, Nat.reduceAdd, Nat.reduceMul, Nat.reducePow, Int.reducePow, ini, *]; done) | (simp only [fws, cond_true, cond_false, if_true, if_false, unV, isNil, optI, iV, stepI, evalR, reduceIte, reduceCtorEq, Nat.reduceEqDiff, Int.reduceLT, Int.reduceLE, Int.reduceToNat, Nat.reduceLT, Nat.reduceLeDiff, Int.reduceEq, Int.reduceNeg, IntKind.bits, Nat.reduceAdd, Nat.reduceMul, Nat.reducePow, Int.reducePow, ini]; rfl))
          · rcases hb with ⟨hb1, _⟩ | ⟨m', rfl, _, hm', _⟩
            · omega
            · have hx2 : ∀ H, ixaI H 7 v (.int .i64 m') = some (atI S_api_SymE l m', H) := fun H => hv.2 m' (by omega) .i64 H
              have hat2 := at_cons (E := S_api_SymE) (l := l) (i := m') (by omega)
              have hvl2 := vlu_at (l := l) (j := m') (by omega)
              by_cases hgt : l[m'].Value < vl
              · simp only [fws, cond_true, cond_false, if_true, if_false, unV, isNil, optI, iV, stepI, evalR, reduceIte, reduceCtorEq, Nat.reduceEqDiff, Int.reduceLT, Int.reduceLE, Int.reduceToNat, Nat.reduceLT, Nat.reduceLeDiff, Int.reduceEq, Int.reduceNeg, IntKind.bits, Nat.reduceAdd, Nat.reduceMul, Nat.reducePow, Int.reducePow, ini, fwh, lk, cellsAt, tagOf, spotOf, rdN, spl, fillL, zr, fwi, F_syms_Nearr0_W, F_syms_Nearr1_W, F_syms_Nearr2_W, F_syms_Nearr3_W, F_syms_Nearr4_W, F_syms_Nearr5_W, F_syms_Nearr5_g3, F_syms_Nearr5_g9, F_syms_Nearr6_g2, F_syms_Nearr6_W, F_syms_Nearr7_W, F_syms_Nearr8_W, F_syms_Nearl0_W, F_syms_Nearr9_W, F_syms_Nearc_W, v0, v1, v5, v8, v9, v10, h1, hx, hld, CC_of hex, hh, w2, ha, w3, hM, hz, hn, hx2, hat2, S_api_SymE_e, hgt]
                refine next i _ _ (hmore.2.1 m' rfl (by rw [hvl, hvl2]; exact hgt)) ?_ ?_ ?_ ?_ ?_ ?_
                all_goals (first | (simp only [fws, cond_true, cond_false, if_true, if_false, unV, isNil, optI, iV, stepI, evalR, reduceIte, reduceCtorEq, Nat.reduceEqDiff, Int.reduceLT, Int.reduceLE, Int.reduceToNat, Nat.reduceLT, Nat.reduceLeDiff, Int.reduceEq, Int.reduceNeg, IntKind.bits, Nat.reduceAdd, Nat.reduceMul, Nat.reducePow, Int.reducePow, ini, *]; done) | (simp only [fws, cond_true, cond_false, if_true, if_false, unV, isNil, optI, iV, stepI, evalR, reduceIte, reduceCtorEq, Nat.reduceEqDiff, Int.reduceLT, Int.reduceLE, Int.reduceToNat, Nat.reduceLT, Nat.reduceLeDiff, Int.reduceEq, Int.reduceNeg, IntKind.bits, Nat.reduceAdd, Nat.reduceMul, Nat.reducePow, Int.reducePow, ini]; rfl))
              · simp only [fws, cond_true, cond_false, if_true, if_false, unV, isNil, optI, iV, stepI, evalR, reduceIte, reduceCtorEq, Nat.reduceEqDiff, Int.reduceLT, Int.reduceLE, Int.reduceToNat, Nat.reduceLT, Nat.reduceLeDiff, Int.reduceEq, Int.reduceNeg, IntKind.bits, Nat.reduceAdd, Nat.reduceMul, Nat.reducePow, Int.reducePow, ini, fwh, lk, cellsAt, tagOf, spotOf, rdN, spl, fillL, zr, fwi, F_syms_Nearr0_W, F_syms_Nearr1_W, F_syms_Nearr2_W, F_syms_Nearr3_W, F_syms_Nearr4_W, F_syms_Nearr5_W, F_syms_Nearr5_g3, F_syms_Nearr5_g9, F_syms_Nearr6_g2, F_syms_Nearr6_W, F_syms_Nearr7_W, F_syms_Nearr8_W, F_syms_Nearl0_W, F_syms_Nearr9_W, F_syms_Nearc_W, v0, v1, v5, v8, v9, v10, h1, hx, hld, CC_of hex, hh, w2, ha, w3, hM, hz, hn, hx2, hat2, S_api_SymE_e, hgt]
                refine next m' _ _ (hmore.2.2 m' rfl (by rw [hvl, hvl2]; simp only; omega)) ?_ ?_ ?_ ?_ ?_ ?_
                all_goals (first | (simp only [fws, cond_true, cond_false, if_true, if_false, unV, isNil, optI, iV, stepI, evalR, reduceIte, reduceCtorEq, Nat.reduceEqDiff, Int.reduceLT, Int.reduceLE, Int.reduceToNat, Nat.reduceLT, Nat.reduceLeDiff, Int.reduceEq, Int.reduceNeg, IntKind.bits, Nat.reduceAdd, Nat.reduceMul, Nat.reducePow, Int.reducePow, ini, *]; done) | (simp only [fws, cond_true, cond_false, if_true, if_false, unV, isNil, optI, iV, stepI, evalR, reduceIte, reduceCtorEq, Nat.reduceEqDiff, Int.reduceLT, Int.reduceLE, Int.reduceToNat, Nat.reduceLT, Nat.reduceLeDiff, Int.reduceEq, Int.reduceNeg, IntKind.bits, Nat.reduceAdd, Nat.reduceMul, Nat.reducePow, Int.reducePow, ini]; rfl))
theorem f_syms_Near {T : Tab} (hE : T 33 = some F_syms_Exported) (h : T 31 = some F_syms_Near) (l : List S_api_Sym) (hl : l.length ≤ 1000) (hw : okN l) (v : Value) (hv : Src S_api_SymE v l) (hp : pureV 6 v = true) (at_ : Int) (hat : isU64 at_) :
    ∃ n, Best (cnd at_ l) (vlu l) 0 l.length n ∧ FnV T 31 [v, .int .u64 at_] (.int .i64 n) := by
  refine FnV_ex (g := fun n => .int .i64 n) (by simp [pure_int, hp]) ?_
  rw [Ev_fn h rfl]
  simp only [F_syms_Near, fws, cond_true, cond_false, if_true, if_false, unV, isNil, optI, iV, stepI, evalR, reduceIte, reduceCtorEq, Nat.reduceEqDiff, Int.reduceLT, Int.reduceLE, Int.reduceToNat, Nat.reduceLT, Nat.reduceLeDiff, Int.reduceEq, Int.reduceNeg, IntKind.bits, Nat.reduceAdd, Nat.reduceMul, Nat.reducePow, Int.reducePow, ini, fwi, F_syms_Nearr0_W, F_syms_Nearr1_W, F_syms_Nearr2_W, F_syms_Nearr3_W, F_syms_Nearr4_W, F_syms_Nearr5_W, F_syms_Nearr5_g3, F_syms_Nearr5_g9, F_syms_Nearr6_g2, F_syms_Nearr6_W, F_syms_Nearr7_W, F_syms_Nearr8_W, F_syms_Nearl0_W, F_syms_Nearr9_W, F_syms_Nearc_W, hv.1]
  refine W.mono (loop_syms_Near hE l hl hw v hv at_ hat l.length 0 (-1) [] _ (Nat.zero_add _) (.inl ⟨rfl, fun j h1 h2 => by omega⟩) ?_ ?_ ?_ ?_ ?_ ?_) fun x e h ⟨g1, n, g2, g3⟩ => ?_
  all_goals try (first | (simp only [fws, cond_true, cond_false, if_true, if_false, unV, isNil, optI, iV, stepI, evalR, reduceIte, reduceCtorEq, Nat.reduceEqDiff, Int.reduceLT, Int.reduceLE, Int.reduceToNat, Nat.reduceLT, Nat.reduceLeDiff, Int.reduceEq, Int.reduceNeg, IntKind.bits, Nat.reduceAdd, Nat.reduceMul, Nat.reducePow, Int.reducePow, ini, *]; done) | (simp only [fws, cond_true, cond_false, if_true, if_false, unV, isNil, optI, iV, stepI, evalR, reduceIte, reduceCtorEq, Nat.reduceEqDiff, Int.reduceLT, Int.reduceLE, Int.reduceToNat, Nat.reduceLT, Nat.reduceLeDiff, Int.reduceEq, Int.reduceNeg, IntKind.bits, Nat.reduceAdd, Nat.reduceMul, Nat.reducePow, Int.reducePow, ini]; rfl))
  subst g1
  simp only [fws, cond_true, cond_false, if_true, if_false, unV, isNil, optI, iV, stepI, evalR, reduceIte, reduceCtorEq, Nat.reduceEqDiff, Int.reduceLT, Int.reduceLE, Int.reduceToNat, Nat.reduceLT, Nat.reduceLeDiff, Int.reduceEq, Int.reduceNeg, IntKind.bits, Nat.reduceAdd, Nat.reduceMul, Nat.reducePow, Int.reducePow, ini, F_syms_Nearr0_W, F_syms_Nearr1_W, F_syms_Nearr2_W, F_syms_Nearr3_W, F_syms_Nearr4_W, F_syms_Nearr5_W, F_syms_Nearr5_g3, F_syms_Nearr5_g9, F_syms_Nearr6_g2, F_syms_Nearr6_W, F_syms_Nearr7_W, F_syms_Nearr8_W, F_syms_Nearl0_W, F_syms_Nearr9_W, F_syms_Nearc_W, g2]
  exact ⟨n, g3, rfl⟩
theorem loop_ref10_Near {T : Tab} (hE : T 34 = some F_ref10_Had) (l : List S_api_Sym) (hl : l.length ≤ 1000) (hw : okN l) (v : Value) (hv : Src S_api_SymE v l) (at_ : Int) (hat : isU64 at_) :
    ∀ (k : Nat) (n : Int) (H : Heap) (env : Env), k ≤ l.length → Best (cnd at_ l) (vlu l) k l.length n → env 0 = v → env 1 = .int .u64 at_ → env 5 = .int .i64 n → env 6 = .int .i64 ((k : Int) - 1) →
    W T (.loop F_ref10_Nearl0) env H fun x e _ => x = .exit 0 ∧ ∃ n, e 5 = .int .i64 n ∧ Best (cnd at_ l) (vlu l) 0 l.length n := by
  intro k
  induction k with
  | zero =>
    intro n H env hi hb v0 v1 v5 v6
    have v6 : env 6 = .int .i64 (-1) := v6
    rw [w_loop]
    simp only [fws, cond_true, cond_false, if_true, if_false, unV, isNil, optI, iV, stepI, evalR, reduceIte, reduceCtorEq, Nat.reduceEqDiff, Int.reduceLT, Int.reduceLE, Int.reduceToNat, Nat.reduceLT, Nat.reduceLeDiff, Int.reduceEq, Int.reduceNeg, IntKind.bits, Nat.reduceAdd, Nat.reduceMul, Nat.reducePow, Int.reducePow, ini, F_ref10_Nearr0_W, F_ref10_Nearr1_W, F_ref10_Nearr2_W, F_ref10_Nearr3_W, F_ref10_Nearr5_W, F_ref10_Nearr6_W, F_ref10_Nearr7_W, F_ref10_Nearr8_W, F_ref10_Nearr9_g2, F_ref10_Nearr9_g8, F_ref10_Nearr9_g16, F_ref10_Nearr9_g19, F_ref10_Nearr9_W, F_ref10_Nearr10_W, F_ref10_Nearr4_W, F_ref10_Nearl0_W, F_ref10_Nearr11_W, F_ref10_Nearc_W, v0, v1, v5, v6]
    exact ⟨trivial, n, rfl, hb⟩
  | succ i ih =>
    intro n H env hi hb v0 v1 v5 v6
    have hix : i < l.length := by omega
    have e1 : ((i + 1 : Nat) : Int) - 1 = (i : Int) := by omega
    rw [e1] at v6
    have h1 : (0 : Int) ≤ (i : Int) := by omega
    have hx : ∀ H, ixaI H 7 v (.int .i64 i) = some (atI S_api_SymE l i, H) := fun H => hv.2 i hix .i64 H
    have hld : ∀ H, loadNI H 7 (atI S_api_SymE l i) = some (symA l[i], H) := fun H => loadNI_at rfl hix
    have w2 : IntKind.i64.wrap ((i : Int) - 1) = (i : Int) - 1 := wrapI64 (by omega) (by omega)
    have next : ∀ (n' : Int) (env' : Env) (H' : Heap), Best (cnd at_ l) (vlu l) i l.length n' → env' 0 = v → env' 1 = .int .u64 at_ → env' 5 = .int .i64 n' → env' 6 = .int .i64 ((i : Int) - 1) →
        W T (.loop F_ref10_Nearl0) env' H' fun x e _ => x = .exit 0 ∧ ∃ n, e 5 = .int .i64 n ∧ Best (cnd at_ l) (vlu l) 0 l.length n := fun n' env' H' hb' u0 u1 u5 u6 => ih n' H' env' (by omega) hb' u0 u1 u5 u6
    have hc := cnd_at (at_ := at_) hix
    have hvl := vlu_at hix
    have hwi := hw _ (List.getElem_mem hix)
    have hex := f_ref10_Had hE l[i]
    rcases hs : l[i] with ⟨nm, vr, hid, bd, df, vl, sz⟩
    rw [hs] at hld hex hc hvl hwi
    simp only [isU64] at hat hwi
    have main : ∀ (env' : Env) (M : Int), szM sz = M → env' 0 = v → env' 1 = .int .u64 at_ → env' 5 = .int .i64 n → env' 6 = .int .i64 i → env' 7 = .pointer (some ⟨H.length, 0, none⟩) → env' 8 = .int .u64 M →
        W T (.dreg F_ref10_Nearr9 []) env' (H ++ [⟨0, .cells false 7 [strV nm, strV vr, .bool hid, .int .i64 bd, .bool df, .int .u64 vl, .int .u64 sz]⟩])
          (seqQ T (.cond (.t 53) (.reg F_ref10_Nearr10) .skip) (blockQ 1 (seqQ T (.reg F_ref10_Nearr4) (seqQ T (.loop F_ref10_Nearl0) fun x e _ => x = .exit 0 ∧ ∃ n, e 5 = .int .i64 n ∧ Best (cnd at_ l) (vlu l) 0 l.length n)))) := fun env' M hM u0 u1 u5 u6 u7 u8 => by
      cases hh : had ⟨nm, vr, hid, bd, df, vl, sz⟩ with
      | false =>
        have hk : cnd at_ l i = false := by rw [hc, nearP, hh]; rfl
        simp only [fws, cond_true, cond_false, if_true, if_false, unV, isNil, optI, iV, stepI, evalR, reduceIte, reduceCtorEq, Nat.reduceEqDiff, Int.reduceLT, Int.reduceLE, Int.reduceToNat, Nat.reduceLT, Nat.reduceLeDiff, Int.reduceEq, Int.reduceNeg, IntKind.bits, Nat.reduceAdd, Nat.reduceMul, Nat.reducePow, Int.reducePow, ini, fwh, lk, cellsAt, tagOf, spotOf, rdN, spl, fillL, zr, fwi, F_ref10_Nearr0_W, F_ref10_Nearr1_W, F_ref10_Nearr2_W, F_ref10_Nearr3_W, F_ref10_Nearr5_W, F_ref10_Nearr6_W, F_ref10_Nearr7_W, F_ref10_Nearr8_W, F_ref10_Nearr9_g2, F_ref10_Nearr9_g8, F_ref10_Nearr9_g16, F_ref10_Nearr9_g19, F_ref10_Nearr9_W, F_ref10_Nearr10_W, F_ref10_Nearr4_W, F_ref10_Nearl0_W, F_ref10_Nearr11_W, F_ref10_Nearc_W, u0, u1, u5, u6, u7, u8, CC_of hex, hh, w2]
        refine next n _ _ (hb.skipD hk) ?_ ?_ ?_ ?_
        all_goals (first | (simp only [fws, cond_true, cond_false, if_true, if_false, unV, isNil, optI, iV, stepI, evalR, reduceIte, reduceCtorEq, Nat.reduceEqDiff, Int.reduceLT, Int.reduceLE, Int.reduceToNat, Nat.reduceLT, Nat.reduceLeDiff, Int.reduceEq, Int.reduceNeg, IntKind.bits, Nat.reduceAdd, Nat.reduceMul, Nat.reducePow, Int.reducePow, ini, *]; done) | (simp only [fws, cond_true, cond_false, if_true, if_false, unV, isNil, optI, iV, stepI, evalR, reduceIte, reduceCtorEq, Nat.reduceEqDiff, Int.reduceLT, Int.reduceLE, Int.reduceToNat, Nat.reduceLT, Nat.reduceLeDiff, Int.reduceEq, Int.reduceNeg, IntKind.bits, Nat.reduceAdd, Nat.reduceMul, Nat.reducePow, Int.reducePow, ini]; rfl))
      | true =>
        by_cases ha : at_ < vl
        · have ha' : ¬ vl ≤ at_ := by omega
          have hk : cnd at_ l i = false := by rw [hc, nearP, hh]; simp [ha]
          simp only [fws, cond_true, cond_false, if_true, if_false, unV, isNil, optI, iV, stepI, evalR, reduceIte, reduceCtorEq, Nat.reduceEqDiff, Int.reduceLT, Int.reduceLE, Int.reduceToNat, Nat.reduceLT, Nat.reduceLeDiff, Int.reduceEq, Int.reduceNeg, IntKind.bits, Nat.reduceAdd, Nat.reduceMul, Nat.reducePow, Int.reducePow, ini, fwh, lk, cellsAt, tagOf, spotOf, rdN, spl, fillL, zr, fwi, F_ref10_Nearr0_W, F_ref10_Nearr1_W, F_ref10_Nearr2_W, F_ref10_Nearr3_W, F_ref10_Nearr5_W, F_ref10_Nearr6_W, F_ref10_Nearr7_W, F_ref10_Nearr8_W, F_ref10_Nearr9_g2, F_ref10_Nearr9_g8, F_ref10_Nearr9_g16, F_ref10_Nearr9_g19, F_ref10_Nearr9_W, F_ref10_Nearr10_W, F_ref10_Nearr4_W, F_ref10_Nearl0_W, F_ref10_Nearr11_W, F_ref10_Nearc_W, u0, u1, u5, u6, u7, u8, CC_of hex, hh, w2, ha']
          refine next n _ _ (hb.skipD hk) ?_ ?_ ?_ ?_
          all_goals (first | (simp only [fws, cond_true, cond_false, if_true, if_false, unV, isNil, optI, iV, stepI, evalR, reduceIte, reduceCtorEq, Nat.reduceEqDiff, Int.reduceLT, Int.reduceLE, Int.reduceToNat, Nat.reduceLT, Nat.reduceLeDiff, Int.reduceEq, Int.reduceNeg, IntKind.bits, Nat.reduceAdd, Nat.reduceMul, Nat.reducePow, Int.reducePow, ini, *]; done) | (simp only [fws, cond_true, cond_false, if_true, if_false, unV, isNil, optI, iV, stepI, evalR, reduceIte, reduceCtorEq, Nat.reduceEqDiff, Int.reduceLT, Int.reduceLE, Int.reduceToNat, Nat.reduceLT, Nat.reduceLeDiff, Int.reduceEq, Int.reduceNeg, IntKind.bits, Nat.reduceAdd, Nat.reduceMul, Nat.reducePow, Int.reducePow, ini]; rfl))
        · have ha' : vl ≤ at_ := by omega
          have w3 : IntKind.u64.wrap (at_ - vl) = at_ - vl := by rw [wrap_u64]; omega
          by_cases hz : szM sz ≤ at_ - vl
          · have hz' : ¬ at_ - vl < M := by omega
            have hk : cnd at_ l i = false := by rw [hc, nearP, hh]; simp [hz]
            simp only [fws, cond_true, cond_false, if_true, if_false, unV, isNil, optI, iV, stepI, evalR, reduceIte, reduceCtorEq, Nat.reduceEqDiff, Int.reduceLT, Int.reduceLE, Int.reduceToNat, Nat.reduceLT, Nat.reduceLeDiff, Int.reduceEq, Int.reduceNeg, IntKind.bits, Nat.reduceAdd, Nat.reduceMul, Nat.reducePow, Int.reducePow, ini, fwh, lk, cellsAt, tagOf, spotOf, rdN, spl, fillL, zr, fwi, F_ref10_Nearr0_W, F_ref10_Nearr1_W, F_ref10_Nearr2_W, F_ref10_Nearr3_W, F_ref10_Nearr5_W, F_ref10_Nearr6_W, F_ref10_Nearr7_W, F_ref10_Nearr8_W, F_ref10_Nearr9_g2, F_ref10_Nearr9_g8, F_ref10_Nearr9_g16, F_ref10_Nearr9_g19, F_ref10_Nearr9_W, F_ref10_Nearr10_W, F_ref10_Nearr4_W, F_ref10_Nearl0_W, F_ref10_Nearr11_W, F_ref10_Nearc_W, u0, u1, u5, u6, u7, u8, CC_of hex, hh, w2, ha', w3, hz']
            refine next n _ _ (hb.skipD hk) ?_ ?_ ?_ ?_
            all_goals (first | (simp only [fws, cond_true, cond_false, if_true, if_false, unV, isNil, optI, iV, stepI, evalR, reduceIte, reduceCtorEq, Nat.reduceEqDiff, Int.reduceLT, Int.reduceLE, Int.reduceToNat, Nat.reduceLT, Nat.reduceLeDiff, Int.reduceEq, Int.reduceNeg, IntKind.bits, Nat.reduceAdd, Nat.reduceMul, Nat.reducePow, Int.reducePow, ini, *]; done) | (simp only [fws, cond_true, cond_false, if_true, if_false, unV, isNil, optI, iV, stepI, evalR, reduceIte, reduceCtorEq, Nat.reduceEqDiff, Int.reduceLT, Int.reduceLE, Int.reduceToNat, Nat.reduceLT, Nat.reduceLeDiff, Int.reduceEq, Int.reduceNeg, IntKind.bits, Nat.reduceAdd, Nat.reduceMul, Nat.reducePow, Int.reducePow, ini]; rfl))
          · have hz' : at_ - vl < M := by omega
            have hk : cnd at_ l i = true := by rw [hc, nearP, hh]; simp [hz]; omega
            have hmore := hb.moreD hix hk
            by_cases hn : n < 0
            · simp only [fws, cond_true, cond_false, if_true, if_false, unV, isNil, optI, iV, stepI, evalR, reduceIte, reduceCtorEq, Nat.reduceEqDiff, Int.reduceLT, Int.reduceLE, Int.reduceToNat, Nat.reduceLT, Nat.reduceLeDiff, Int.reduceEq, Int.reduceNeg, IntKind.bits, Nat.reduceAdd, Nat.reduceMul, Nat.reducePow, Int.reducePow, ini, fwh, lk, cellsAt, tagOf, spotOf, rdN, spl, fillL, zr, fwi, F_ref10_Nearr0_W, F_ref10_Nearr1_W, F_ref10_Nearr2_W, F_ref10_Nearr3_W, F_ref10_Nearr5_W, F_ref10_Nearr6_W, F_ref10_Nearr7_W, F_ref10_Nearr8_W, F_ref10_Nearr9_g2, F_ref10_Nearr9_g8, F_ref10_Nearr9_g16, F_ref10_Nearr9_g19, F_ref10_Nearr9_W, F_ref10_Nearr10_W, F_ref10_Nearr4_W, F_ref10_Nearl0_W, F_ref10_Nearr11_W, F_ref10_Nearc_W, u0, u1, u5, u6, u7, u8, CC_of hex, hh, w2, ha', w3, hz', hn]
              refine next i _ _ (hmore.1 hn) ?_ ?_ ?_ ?_
              all_goals (first | (simp only [fws, cond_true, cond_false, if_true, if_false, unV, isNil, optI, iV, stepI, evalR, reduceIte, reduceCtorEq, Nat.reduceEqDiff, Int.reduceLT, Int.reduceLE, Int.reduceToNat, Nat.reduceLT, Nat.reduceLeDiff, Int.reduceEq, Int.reduceNeg, IntKind.bits, Nat.reduceAdd, Nat.reduceMul, Nat.reducePow, Int.reducePow, ini, *]; done) | (simp only [fws, cond_true, cond_false, if_true, if_false, unV, isNil, optI, iV, stepI, evalR, reduceIte, reduceCtorEq, Nat.reduceEqDiff, Int.reduceLT, Int.reduceLE, Int.reduceToNat, Nat.reduceLT, Nat.reduceLeDiff, Int.reduceEq, Int.reduceNeg, IntKind.bits, Nat.reduceAdd, Nat.reduceMul, Nat.reducePow, Int.reducePow, ini]; rfl))
            · rcases hb with ⟨hb1, _⟩ | ⟨m', rfl, _, hm', _⟩
              · omega
              · have hx2 : ∀ H, ixaI H 7 v (.int .i64 m') = some (atI S_api_SymE l m', H) := fun H => hv.2 m' (by omega) .i64 H
                have hat2 := at_cons (E := S_api_SymE) (l := l) (i := m') (by omega)
                have hvl2 := vlu_at (l := l) (j := m') (by omega)
                by_cases hgt : l[m'].Value ≤ vl
                · simp only [fws, cond_true, cond_false, if_true, if_false, unV, isNil, optI, iV, stepI, evalR, reduceIte, reduceCtorEq, Nat.reduceEqDiff, Int.reduceLT, Int.reduceLE, Int.reduceToNat, Nat.reduceLT, Nat.reduceLeDiff, Int.reduceEq, Int.reduceNeg, IntKind.bits, Nat.reduceAdd, Nat.reduceMul, Nat.reducePow, Int.reducePow, ini, fwh, lk, cellsAt, tagOf, spotOf, rdN, spl, fillL, zr, fwi, F_ref10_Nearr0_W, F_ref10_Nearr1_W, F_ref10_Nearr2_W, F_ref10_Nearr3_W, F_ref10_Nearr5_W, F_ref10_Nearr6_W, F_ref10_Nearr7_W, F_ref10_Nearr8_W, F_ref10_Nearr9_g2, F_ref10_Nearr9_g8, F_ref10_Nearr9_g16, F_ref10_Nearr9_g19, F_ref10_Nearr9_W, F_ref10_Nearr10_W, F_ref10_Nearr4_W, F_ref10_Nearl0_W, F_ref10_Nearr11_W, F_ref10_Nearc_W, u0, u1, u5, u6, u7, u8, CC_of hex, hh, w2, ha', w3, hz', hn, hx2, hat2, S_api_SymE_e, hgt]
                  refine next i _ _ (hmore.2.1 m' rfl (by rw [hvl, hvl2]; exact hgt)) ?_ ?_ ?_ ?_
                  all_goals (first | (simp only [fws, cond_true, cond_false, if_true, if_false, unV, isNil, optI, iV, stepI, evalR, reduceIte, reduceCtorEq, Nat.reduceEqDiff, Int.reduceLT, Int.reduceLE, Int.reduceToNat, Nat.reduceLT, Nat.reduceLeDiff, Int.reduceEq, Int.reduceNeg, IntKind.bits, Nat.reduceAdd, Nat.reduceMul, Nat.reducePow, Int.reducePow, ini, *]; done) | (simp only [fws, cond_true, cond_false, if_true, if_false, unV, isNil, optI, iV, stepI, evalR, reduceIte, reduceCtorEq, Nat.reduceEqDiff, Int.reduceLT, Int.reduceLE, Int.reduceToNat, Nat.reduceLT, Nat.reduceLeDiff, Int.reduceEq, Int.reduceNeg, IntKind.bits, Nat.reduceAdd, Nat.reduceMul, Nat.reducePow, Int.reducePow, ini]; rfl))
                · simp only [fws, cond_true, cond_false, if_true, if_false, unV, isNil, optI, iV, stepI, evalR, reduceIte, reduceCtorEq, Nat.reduceEqDiff, Int.reduceLT, Int.reduceLE, Int.reduceToNat, Nat.reduceLT, Nat.reduceLeDiff, Int.reduceEq, Int.reduceNeg, IntKind.bits, Nat.reduceAdd, Nat.reduceMul, Nat.reducePow, Int.reducePow, ini, fwh, lk, cellsAt, tagOf, spotOf, rdN, spl, fillL, zr, fwi, F_ref10_Nearr0_W, F_ref10_Nearr1_W, F_ref10_Nearr2_W, F_ref10_Nearr3_W, F_ref10_Nearr5_W, F_ref10_Nearr6_W, F_ref10_Nearr7_W, F_ref10_Nearr8_W, F_ref10_Nearr9_g2, F_ref10_Nearr9_g8, F_ref10_Nearr9_g16, F_ref10_Nearr9_g19, F_ref10_Nearr9_W, F_ref10_Nearr10_W, F_ref10_Nearr4_W, F_ref10_Nearl0_W, F_ref10_Nearr11_W, F_ref10_Nearc_W, u0, u1, u5, u6, u7, u8, CC_of hex, hh, w2, ha', w3, hz', hn, hx2, hat2, S_api_SymE_e, hgt]
                  refine next m' _ _ (hmore.2.2 m' rfl (by rw [hvl, hvl2]; simp only; omega)) ?_ ?_ ?_ ?_
                  all_goals (first | (simp only [fws, cond_true, cond_false, if_true, if_false, unV, isNil, optI, iV, stepI, evalR, reduceIte, reduceCtorEq, Nat.reduceEqDiff, Int.reduceLT, Int.reduceLE, Int.reduceToNat, Nat.reduceLT, Nat.reduceLeDiff, Int.reduceEq, Int.reduceNeg, IntKind.bits, Nat.reduceAdd, Nat.reduceMul, Nat.reducePow, Int.reducePow, ini, *]; done) | (simp only [fws, cond_true, cond_false, if_true, if_false, unV, isNil, optI, iV, stepI, evalR, reduceIte, reduceCtorEq, Nat.reduceEqDiff, Int.reduceLT, Int.reduceLE, Int.reduceToNat, Nat.reduceLT, Nat.reduceLeDiff, Int.reduceEq, Int.reduceNeg, IntKind.bits, Nat.reduceAdd, Nat.reduceMul, Nat.reducePow, Int.reducePow, ini]; rfl))
    rw [w_loop]
    by_cases hz0 : sz = 0
    · have hsM : szM sz = 1 := by unfold szM; rw [if_pos (by omega)]
      have hz0' : decide (sz = 0) = true := by simp [hz0]
      simp only [fws, cond_true, cond_false, if_true, if_false, unV, isNil, optI, iV, stepI, evalR, reduceIte, reduceCtorEq, Nat.reduceEqDiff, Int.reduceLT, Int.reduceLE, Int.reduceToNat, Nat.reduceLT, Nat.reduceLeDiff, Int.reduceEq, Int.reduceNeg, IntKind.bits, Nat.reduceAdd, Nat.reduceMul, Nat.reducePow, Int.reducePow, ini, fwh, lk, cellsAt, tagOf, spotOf, rdN, spl, fillL, zr, fwi, F_ref10_Nearr0_W, F_ref10_Nearr1_W, F_ref10_Nearr2_W, F_ref10_Nearr3_W, F_ref10_Nearr5_W, F_ref10_Nearr6_W, F_ref10_Nearr7_W, F_ref10_Nearr8_W, F_ref10_Nearr10_W, F_ref10_Nearr4_W, F_ref10_Nearl0_W, F_ref10_Nearr11_W, F_ref10_Nearc_W, v0, v1, v5, v6, h1, hx, hld, hz0']
      refine main _ 1 hsM ?_ ?_ ?_ ?_ ?_ ?_
      all_goals (first | (simp only [fws, cond_true, cond_false, if_true, if_false, unV, isNil, optI, iV, stepI, evalR, reduceIte, reduceCtorEq, Nat.reduceEqDiff, Int.reduceLT, Int.reduceLE, Int.reduceToNat, Nat.reduceLT, Nat.reduceLeDiff, Int.reduceEq, Int.reduceNeg, IntKind.bits, Nat.reduceAdd, Nat.reduceMul, Nat.reducePow, Int.reducePow, ini, *]; done) | (simp only [fws, cond_true, cond_false, if_true, if_false, unV, isNil, optI, iV, stepI, evalR, reduceIte, reduceCtorEq, Nat.reduceEqDiff, Int.reduceLT, Int.reduceLE, Int.reduceToNat, Nat.reduceLT, Nat.reduceLeDiff, Int.reduceEq, Int.reduceNeg, IntKind.bits, Nat.reduceAdd, Nat.reduceMul, Nat.reducePow, Int.reducePow, ini]; rfl))
    · have hsM : szM sz = sz := by unfold szM; rw [if_neg (by omega)]
      have hz0' : decide (sz = 0) = false := by simp [hz0]
      simp only [fws, cond_true, cond_false, if_true, if_false, unV, isNil, optI, iV, stepI, evalR, reduceIte, reduceCtorEq, Nat.reduceEqDiff, Int.reduceLT, Int.reduceLE, Int.reduceToNat, Nat.reduceLT, Nat.reduceLeDiff, Int.reduceEq, Int.reduceNeg, IntKind.bits, Nat.reduceAdd, Nat.reduceMul, Nat.reducePow, Int.reducePow, ini, fwh, lk, cellsAt, tagOf, spotOf, rdN, spl, fillL, zr, fwi, F_ref10_Nearr0_W, F_ref10_Nearr1_W, F_ref10_Nearr2_W, F_ref10_Nearr3_W, F_ref10_Nearr5_W, F_ref10_Nearr6_W, F_ref10_Nearr7_W, F_ref10_Nearr8_W, F_ref10_Nearr10_W, F_ref10_Nearr4_W, F_ref10_Nearl0_W, F_ref10_Nearr11_W, F_ref10_Nearc_W, v0, v1, v5, v6, h1, hx, hld, hz0']
      refine main _ sz hsM ?_ ?_ ?_ ?_ ?_ ?_
      all_goals (first | (simp only [fws, cond_true, cond_false, if_true, if_false, unV, isNil, optI, iV, stepI, evalR, reduceIte, reduceCtorEq, Nat.reduceEqDiff, Int.reduceLT, Int.reduceLE, Int.reduceToNat, Nat.reduceLT, Nat.reduceLeDiff, Int.reduceEq, Int.reduceNeg, IntKind.bits, Nat.reduceAdd, Nat.reduceMul, Nat.reducePow, Int.reducePow, ini, *]; done) | (simp only [fws, cond_true, cond_false, if_true, if_false, unV, isNil, optI, iV, stepI, evalR, reduceIte, reduceCtorEq, Nat.reduceEqDiff, Int.reduceLT, Int.reduceLE, Int.reduceToNat, Nat.reduceLT, Nat.reduceLeDiff, Int.reduceEq, Int.reduceNeg, IntKind.bits, Nat.reduceAdd, Nat.reduceMul, Nat.reducePow, Int.reducePow, ini]; rfl))
theorem f_ref10_Near {T : Tab} (hE : T 34 = some F_ref10_Had) (h : T 32 = some F_ref10_Near) (l : List S_api_Sym) (hl : l.length ≤ 1000) (hw : okN l) (v : Value) (hv : Src S_api_SymE v l) (hp : pureV 6 v = true) (at_ : Int) (hat : isU64 at_) :
    ∃ n, Best (cnd at_ l) (vlu l) 0 l.length n ∧ FnV T 32 [v, .int .u64 at_] (.int .i64 n) := by
  refine FnV_ex (g := fun n => .int .i64 n) (by simp [pure_int, hp]) ?_
  rw [Ev_fn h rfl]
  have w1 : IntKind.i64.wrap ((l.length : Int) - 1) = (l.length : Int) - 1 := wrapI64 (by omega) (by omega)
  simp only [F_ref10_Near, fws, cond_true, cond_false, if_true, if_false, unV, isNil, optI, iV, stepI, evalR, reduceIte, reduceCtorEq, Nat.reduceEqDiff, Int.reduceLT, Int.reduceLE, Int.reduceToNat, Nat.reduceLT, Nat.reduceLeDiff, Int.reduceEq, Int.reduceNeg, IntKind.bits, Nat.reduceAdd, Nat.reduceMul, Nat.reducePow, Int.reducePow, ini, fwi, F_ref10_Nearr0_W, F_ref10_Nearr1_W, F_ref10_Nearr2_W, F_ref10_Nearr3_W, F_ref10_Nearr5_W, F_ref10_Nearr6_W, F_ref10_Nearr7_W, F_ref10_Nearr8_W, F_ref10_Nearr9_g2, F_ref10_Nearr9_g8, F_ref10_Nearr9_g16, F_ref10_Nearr9_g19, F_ref10_Nearr9_W, F_ref10_Nearr10_W, F_ref10_Nearr4_W, F_ref10_Nearl0_W, F_ref10_Nearr11_W, F_ref10_Nearc_W, hv.1, w1]
  refine W.mono (loop_ref10_Near hE l hl hw v hv at_ hat l.length (-1) [] _ (Nat.le_refl _) (.inl ⟨rfl, fun j h1 h2 => by omega⟩) ?_ ?_ ?_ ?_) fun x e h ⟨g1, n, g2, g3⟩ => ?_
  all_goals try (first | (simp only [fws, cond_true, cond_false, if_true, if_false, unV, isNil, optI, iV, stepI, evalR, reduceIte, reduceCtorEq, Nat.reduceEqDiff, Int.reduceLT, Int.reduceLE, Int.reduceToNat, Nat.reduceLT, Nat.reduceLeDiff, Int.reduceEq, Int.reduceNeg, IntKind.bits, Nat.reduceAdd, Nat.reduceMul, Nat.reducePow, Int.reducePow, ini, *]; done) | (simp only [fws, cond_true, cond_false, if_true, if_false, unV, isNil, optI, iV, stepI, evalR, reduceIte, reduceCtorEq, Nat.reduceEqDiff, Int.reduceLT, Int.reduceLE, Int.reduceToNat, Nat.reduceLT, Nat.reduceLeDiff, Int.reduceEq, Int.reduceNeg, IntKind.bits, Nat.reduceAdd, Nat.reduceMul, Nat.reducePow, Int.reducePow, ini]; rfl))
  subst g1
  simp only [fws, cond_true, cond_false, if_true, if_false, unV, isNil, optI, iV, stepI, evalR, reduceIte, reduceCtorEq, Nat.reduceEqDiff, Int.reduceLT, Int.reduceLE, Int.reduceToNat, Nat.reduceLT, Nat.reduceLeDiff, Int.reduceEq, Int.reduceNeg, IntKind.bits, Nat.reduceAdd, Nat.reduceMul, Nat.reducePow, Int.reducePow, ini, F_ref10_Nearr0_W, F_ref10_Nearr1_W, F_ref10_Nearr2_W, F_ref10_Nearr3_W, F_ref10_Nearr5_W, F_ref10_Nearr6_W, F_ref10_Nearr7_W, F_ref10_Nearr8_W, F_ref10_Nearr9_g2, F_ref10_Nearr9_g8, F_ref10_Nearr9_g16, F_ref10_Nearr9_g19, F_ref10_Nearr9_W, F_ref10_Nearr10_W, F_ref10_Nearr4_W, F_ref10_Nearl0_W, F_ref10_Nearr11_W, F_ref10_Nearc_W, g2]
  exact ⟨n, g3, rfl⟩
end Go.Proofs.Ytkhojkdcejmgpaa
