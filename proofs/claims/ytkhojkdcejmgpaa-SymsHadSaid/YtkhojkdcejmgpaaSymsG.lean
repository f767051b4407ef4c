/- What an index finds; SymsFinds. -/
import Derived.Test.YtkhojkdcejmgpaaSymsF
namespace Go.Proofs.Ytkhojkdcejmgpaa
open Go Fw
set_option linter.unusedSimpArgs false
set_option linter.unusedVariables false

def firstL (p : S_api_Sym → Bool) (l : List S_api_Sym) : List Int → Int
  | [] => -1
  | j :: r => if (l[j.toNat]?).any p then j else firstL p l r
theorem firstL_eq {p : S_api_Sym → Bool} {l : List S_api_Sym} {name : List UInt8} (hp : ∀ s, p s = true → had s = true ∧ s.Name = name) : ∀ (m k : Nat), k + m = l.length →
    firstL p l (((List.range' k m).filter (cnm l name)).map fun (j : Nat) => (j : Int)) = findI p (l.drop k) k
  | 0, k, h => by
    have : l.drop k = [] := List.drop_of_length_le (by omega)
    rw [this]; rfl
  | m + 1, k, h => by
    have hk : k < l.length := by omega
    rw [List.range'_succ, List.drop_eq_getElem_cons hk, findI]
    have ih := firstL_eq (l := l) (name := name) hp m (k + 1) (by omega)
    cases hc : cnm l name k with
    | false =>
      have : p l[k] = false := by
        cases hpk : p l[k] with
        | false => rfl
        | true =>
          obtain ⟨h1, h2⟩ := hp _ hpk
          simp [cnm, List.getElem?_eq_getElem hk, h1, h2] at hc
      rw [List.filter_cons_of_neg (by rw [hc]; decide), ih, if_neg (by rw [this]; decide)]
    | true =>
      rw [List.filter_cons_of_pos hc, List.map_cons, firstL, ih]
      have : ((k : Int).toNat) = k := by omega
      rw [this, List.getElem?_eq_getElem hk]
      rfl
theorem okS_had {versions : Bool} {name ver : List UInt8} : ∀ s, okS versions name ver s = true → had s = true ∧ s.Name = name := fun s h => by
  simp [okS] at h
  exact ⟨h.1, h.2.1⟩
theorem own_ix {H : Heap} {blk tag : Nat} {L : List Int} (h : H[blk]? = some (oe (intE .i64) tag L)) {i : Nat} (hi : i < L.length) :
    ixaI H 1 (own blk tag L.length) (.int .i64 i) = some (.pointer (some ⟨blk, i, spotOf tag⟩), H) ∧ loadI H (.pointer (some ⟨blk, i, spotOf tag⟩)) = some (.int .i64 L[i], H) := by
  have hlk : lk H ⟨blk, i, spotOf tag⟩ = some ⟨tag, .cells false 1 ((intE .i64).cs L)⟩ := own_lk (tag := tag) (o := .cells false 1 ((intE .i64).cs L)) h
  refine ⟨?_, ?_⟩
  · simp only [ixaI, own]
    rw [if_pos ⟨by omega, by omega⟩]
    simp
  · rw [loadI_ptr]
    simp only [cellsAt, hlk]
    have h2 := cs_drop (E := intE .i64) L i
    rw [intE_u, Nat.mul_one] at h2
    rw [h2, List.drop_eq_getElem_cons hi, cs_cons, intE_e]
    rfl
theorem sleI_immN1 {α : Type} {E : Enc α} {l : List α} {n : Nat} (hn : n = E.u) {i : Nat} (hi : i < l.length) (k : IntKind) (H : Heap) :
    sleI H n (immN E l) (some (.int k i)) (some (.int k (i + 1 : Nat))) (some (.int k (i + 1 : Nat))) = some (imm E [l[i]], H) := by
  have hne : l ≠ [] := fun h => by subst h; simp at hi
  rw [immN_ne hne]
  exact sleI_sl1 (o := some l) hn hi k H
theorem ixs_mem {l : List S_api_Sym} {n : Nat} {k : List UInt8} {j : Int} (h : j ∈ ixs l n k) : ∃ m : Nat, j = m ∧ m < n := by
  unfold ixs at h
  simp at h
  obtain ⟨m, ⟨h1, _⟩, rfl⟩ := h
  exact ⟨m, rfl, h1⟩
theorem loop_Index_Find {T : Tab} (hE : T 33 = some F_syms_Exported) (hF : T 22 = some F_syms_Find) (l : List S_api_Sym) (hl : l.length ≤ 1000) (versions : Bool) (a b : Nat) (name ver : List UInt8) (L : List Int) (hLl : L.length ≤ 1000) (hL : ∀ j ∈ L, ∃ m : Nat, j = m ∧ m < l.length) (H : Heap) (ha : H[a]? = some (ixE l versions b)) (v : Value) (hv : ∀ (i : Nat) (h : i < L.length), ∃ q, ixaI H 1 v (.int .i64 i) = some (q, H) ∧ loadI H q = some (.int .i64 L[i], H)) :
    ∀ (m i : Nat) (env : Env), i + m = L.length → env 0 = .pointer (some ⟨a, 0, none⟩) → env 1 = strV name → env 2 = strV ver → env 14 = v → env 15 = .int .i64 L.length → env 16 = .int .i64 i →
    W T (.loop F_syms_Index_Findl0) env H fun x e h => h = H ∧ ((x = .ret ∧ e 6 = .int .i64 (firstL (okS versions name ver) l (L.drop i))) ∨ (x = .exit 0 ∧ firstL (okS versions name ver) l (L.drop i) = -1)) := by
  intro m
  induction m with
  | zero =>
    intro i env hi v0 v1 v2 v14 v15 v16
    have h1 : ¬ ((i : Int) < L.length) := by omega
    rw [w_loop, List.drop_of_length_le (by omega)]
    simp only [fws, cond_true, cond_false, if_true, if_false, unV, isNil, optI, iV, stepI, evalR, reduceIte, reduceCtorEq, Nat.reduceEqDiff, Int.reduceLT, Int.reduceLE, Int.reduceToNat, Nat.reduceLT, Nat.reduceLeDiff, Int.reduceEq, Int.reduceNeg, IntKind.bits, Nat.reduceAdd, Nat.reduceMul, Nat.reducePow, Int.reducePow, ini, F_syms_Index_Findr0_W, F_syms_Index_Findr1_W, F_syms_Index_Findr2_W, F_syms_Index_Findr3_W, F_syms_Index_Findr4_W, F_syms_Index_Findr5_W, F_syms_Index_Findr6_W, F_syms_Index_Findl0_W, F_syms_Index_Findr7_W, F_syms_Index_Findc_W, v0, v14, v15, v16, h1]
    exact ⟨trivial, .inr ⟨trivial, rfl⟩⟩
  | succ m ih =>
    intro i env hi v0 v1 v2 v14 v15 v16
    have h1 : ((i : Int) < L.length) := by omega
    have hix : i < L.length := by omega
    obtain ⟨q, x1, x2⟩ := hv i hix
    obtain ⟨j, hj, hjl⟩ := hL _ (List.getElem_mem hix)
    rw [hj] at x2
    have w2 : IntKind.i64.wrap ((i : Int) + 1) = ((i + 1 : Nat) : Int) := by rw [wrapI64 (by omega) (by omega)]; rfl
    have w3 : IntKind.i64.wrap ((j : Int) + 1) = ((j + 1 : Nat) : Int) := by rw [wrapI64 (by omega) (by omega)]; rfl
    have hs := fun H => sleI_immN1 (E := S_api_SymE) (n := 7) rfl hjl .i64 H
    have c1 := f_syms_Find (T := T) hE hF [l[j]] (by simp) (imm S_api_SymE [l[j]]) Src_imm (pure_imm rfl) versions name ver
    have d1 := findI_one (okS versions name ver) l[j]
    have hfz : ∀ H, [imm S_api_SymE [l[j]], .bool versions, strV name, strV ver].mapM (frz 8 H) = some [imm S_api_SymE [l[j]], .bool versions, strV name, strV ver] := fun H =>
      mapM_pure (by simp [pure_bool, pure_string, pure_imm (E := S_api_SymE) (l := [l[j]]) (k := 8) rfl])
    have hd : L.drop i = L[i] :: L.drop (i + 1) := List.drop_eq_getElem_cons hix
    have hany : (l[(L[i]).toNat]?).any (okS versions name ver) = okS versions name ver l[j] := by
      rw [hj]
      have : ((j : Int).toNat) = j := by omega
      rw [this, List.getElem?_eq_getElem hjl]; rfl
    rw [hd, firstL, hany, w_loop]
    cases hk : okS versions name ver l[j] with
    | true =>
      rw [hk] at d1
      simp only [fws, cond_true, cond_false, if_true, if_false, unV, isNil, optI, iV, stepI, evalR, reduceIte, reduceCtorEq, Nat.reduceEqDiff, Int.reduceLT, Int.reduceLE, Int.reduceToNat, Nat.reduceLT, Nat.reduceLeDiff, Int.reduceEq, Int.reduceNeg, IntKind.bits, Nat.reduceAdd, Nat.reduceMul, Nat.reducePow, Int.reducePow, ini, fwh, lk, cellsAt, tagOf, spotOf, rdN, spl, fillL, zr, fwi, F_syms_Index_Findr0_W, F_syms_Index_Findr1_W, F_syms_Index_Findr2_W, F_syms_Index_Findr3_W, F_syms_Index_Findr4_W, F_syms_Index_Findr5_W, F_syms_Index_Findr6_W, F_syms_Index_Findl0_W, F_syms_Index_Findr7_W, F_syms_Index_Findc_W, v0, v1, v2, v14, v15, v16, h1, x1, x2, ha, w2, w3, hs, hfz, CL_of c1 rfl, d1]
      exact ⟨trivial, .inl ⟨trivial, by rw [hj]⟩⟩
    | false =>
      rw [hk] at d1
      simp only [fws, cond_true, cond_false, if_true, if_false, unV, isNil, optI, iV, stepI, evalR, reduceIte, reduceCtorEq, Nat.reduceEqDiff, Int.reduceLT, Int.reduceLE, Int.reduceToNat, Nat.reduceLT, Nat.reduceLeDiff, Int.reduceEq, Int.reduceNeg, IntKind.bits, Nat.reduceAdd, Nat.reduceMul, Nat.reducePow, Int.reducePow, ini, fwh, lk, cellsAt, tagOf, spotOf, rdN, spl, fillL, zr, fwi, F_syms_Index_Findr0_W, F_syms_Index_Findr1_W, F_syms_Index_Findr2_W, F_syms_Index_Findr3_W, F_syms_Index_Findr4_W, F_syms_Index_Findr5_W, F_syms_Index_Findr6_W, F_syms_Index_Findl0_W, F_syms_Index_Findr7_W, F_syms_Index_Findc_W, v0, v1, v2, v14, v15, v16, h1, x1, x2, ha, w2, w3, hs, hfz, CL_of c1 rfl, d1]
      refine ih (i + 1) _ (by omega) ?_ ?_ ?_ ?_ ?_ ?_
      all_goals (first | (simp only [fws, cond_true, cond_false, if_true, if_false, unV, isNil, optI, iV, stepI, evalR, reduceIte, reduceCtorEq, Nat.reduceEqDiff, Int.reduceLT, Int.reduceLE, Int.reduceToNat, Nat.reduceLT, Nat.reduceLeDiff, Int.reduceEq, Int.reduceNeg, IntKind.bits, Nat.reduceAdd, Nat.reduceMul, Nat.reducePow, Int.reducePow, ini, *]; done) | (simp only [fws, cond_true, cond_false, if_true, if_false, unV, isNil, optI, iV, stepI, evalR, reduceIte, reduceCtorEq, Nat.reduceEqDiff, Int.reduceLT, Int.reduceLE, Int.reduceToNat, Nat.reduceLT, Nat.reduceLeDiff, Int.reduceEq, Int.reduceNeg, IntKind.bits, Nat.reduceAdd, Nat.reduceMul, Nat.reducePow, Int.reducePow, ini]; rfl))
theorem ev_Index_Find {T : Tab} (hE : T 33 = some F_syms_Exported) (hF : T 22 = some F_syms_Find) (h : T 30 = some F_syms_Index_Find) (l : List S_api_Sym) (hl : l.length ≤ 1000) (versions : Bool) (a b : Nat) (name ver : List UInt8) (H : Heap) (keep : List Nat) (hm : MM H b (ixs l l.length) keep) (ha : H[a]? = some (ixE l versions b)) :
    Ev T 30 [.pointer (some ⟨a, 0, none⟩), strV name, strV ver] H fun u h => u = .int .i64 (findI (okS versions name ver) l 0) ∧ h = H := by
  obtain ⟨v, h1, h2⟩ := hm.get name
  have hlen : lenI H 1 v = some (.int .i64 (ixs l l.length name).length, H) := by
    rcases h2 with ⟨h2, rfl⟩ | ⟨_, blk, tag, rfl, _⟩
    · rw [h2]; rfl
    · rfl
  have hix : ∀ (i : Nat) (h : i < (ixs l l.length name).length), ∃ q, ixaI H 1 v (.int .i64 i) = some (q, H) ∧ loadI H q = some (.int .i64 (ixs l l.length name)[i], H) := fun i hi => by
    rcases h2 with ⟨h2, rfl⟩ | ⟨_, blk, tag, rfl, hb⟩
    · simp only [h2] at hi; simp at hi
    · exact ⟨_, own_ix hb hi⟩
  have heq : firstL (okS versions name ver) l (ixs l l.length name) = findI (okS versions name ver) l 0 := by
    have := firstL_eq (l := l) (name := name) (p := okS versions name ver) okS_had l.length 0 (Nat.zero_add _)
    rw [List.drop_zero] at this
    rw [← this]
    unfold ixs
    rw [List.range_eq_range']
  rw [Ev_fn h rfl]
  simp only [F_syms_Index_Find, fws, cond_true, cond_false, if_true, if_false, unV, isNil, optI, iV, stepI, evalR, reduceIte, reduceCtorEq, Nat.reduceEqDiff, Int.reduceLT, Int.reduceLE, Int.reduceToNat, Nat.reduceLT, Nat.reduceLeDiff, Int.reduceEq, Int.reduceNeg, IntKind.bits, Nat.reduceAdd, Nat.reduceMul, Nat.reducePow, Int.reducePow, ini, fwh, lk, cellsAt, tagOf, spotOf, rdN, spl, fillL, zr, fwi, F_syms_Index_Findr0_W, F_syms_Index_Findr1_W, F_syms_Index_Findr2_W, F_syms_Index_Findr3_W, F_syms_Index_Findr4_W, F_syms_Index_Findr5_W, F_syms_Index_Findr6_W, F_syms_Index_Findl0_W, F_syms_Index_Findr7_W, F_syms_Index_Findc_W, ha, h1, hlen]
  refine W.mono (loop_Index_Find hE hF l hl versions a b name ver (ixs l l.length name) (Nat.le_trans (ixs_len _ _ _) hl) (fun j hj => ixs_mem hj) H ha v hix _ 0 _ (Nat.zero_add _) ?_ ?_ ?_ ?_ ?_ ?_) fun x e h ⟨g1, g2⟩ => ?_
  all_goals try (first | (simp only [fws, cond_true, cond_false, if_true, if_false, unV, isNil, optI, iV, stepI, evalR, reduceIte, reduceCtorEq, Nat.reduceEqDiff, Int.reduceLT, Int.reduceLE, Int.reduceToNat, Nat.reduceLT, Nat.reduceLeDiff, Int.reduceEq, Int.reduceNeg, IntKind.bits, Nat.reduceAdd, Nat.reduceMul, Nat.reducePow, Int.reducePow, ini, *]; done) | (simp only [fws, cond_true, cond_false, if_true, if_false, unV, isNil, optI, iV, stepI, evalR, reduceIte, reduceCtorEq, Nat.reduceEqDiff, Int.reduceLT, Int.reduceLE, Int.reduceToNat, Nat.reduceLT, Nat.reduceLeDiff, Int.reduceEq, Int.reduceNeg, IntKind.bits, Nat.reduceAdd, Nat.reduceMul, Nat.reducePow, Int.reducePow, ini]; rfl))
  subst g1
  rw [List.drop_zero, heq] at g2
  rcases g2 with ⟨rfl, g⟩ | ⟨rfl, g⟩
  · simp only [fws, cond_true, cond_false, if_true, if_false, unV, isNil, optI, iV, stepI, evalR, reduceIte, reduceCtorEq, Nat.reduceEqDiff, Int.reduceLT, Int.reduceLE, Int.reduceToNat, Nat.reduceLT, Nat.reduceLeDiff, Int.reduceEq, Int.reduceNeg, IntKind.bits, Nat.reduceAdd, Nat.reduceMul, Nat.reducePow, Int.reducePow, ini, F_syms_Index_Findr0_W, F_syms_Index_Findr1_W, F_syms_Index_Findr2_W, F_syms_Index_Findr3_W, F_syms_Index_Findr4_W, F_syms_Index_Findr5_W, F_syms_Index_Findr6_W, F_syms_Index_Findl0_W, F_syms_Index_Findr7_W, F_syms_Index_Findc_W, g, and_self]
  · simp only [fws, cond_true, cond_false, if_true, if_false, unV, isNil, optI, iV, stepI, evalR, reduceIte, reduceCtorEq, Nat.reduceEqDiff, Int.reduceLT, Int.reduceLE, Int.reduceToNat, Nat.reduceLT, Nat.reduceLeDiff, Int.reduceEq, Int.reduceNeg, IntKind.bits, Nat.reduceAdd, Nat.reduceMul, Nat.reducePow, Int.reducePow, ini, F_syms_Index_Findr0_W, F_syms_Index_Findr1_W, F_syms_Index_Findr2_W, F_syms_Index_Findr3_W, F_syms_Index_Findr4_W, F_syms_Index_Findr5_W, F_syms_Index_Findr6_W, F_syms_Index_Findl0_W, F_syms_Index_Findr7_W, F_syms_Index_Findc_W, g, and_self]
theorem loop_SymsFinds (o : Option (List S_api_Sym)) (hl : (lst o).length ≤ 1000) : ∀ (m i : Nat) (H : Heap) (env : Env), i + m = (lst o).length → env 0 = slV S_api_SymE o → env 7 = .int .i64 i →
    W TSyms (.loop F_law10_SymsFindsl0) env H fun x e h => x = .exit 0 := by
  intro m
  induction m with
  | zero =>
    intro i H env hi v0 v7
    have h1 : ¬ ((i : Int) < (lst o).length) := by omega
    rw [w_loop]
    simp only [fws, cond_true, cond_false, if_true, if_false, unV, isNil, optI, iV, stepI, evalR, reduceIte, reduceCtorEq, Nat.reduceEqDiff, Int.reduceLT, Int.reduceLE, Int.reduceToNat, Nat.reduceLT, Nat.reduceLeDiff, Int.reduceEq, Int.reduceNeg, IntKind.bits, Nat.reduceAdd, Nat.reduceMul, Nat.reducePow, Int.reducePow, ini, F_law10_SymsFindsr0_W, F_law10_SymsFindsr1_W, F_law10_SymsFindsr2_W, F_law10_SymsFindsr3_W, F_law10_SymsFindsr4_W, F_law10_SymsFindsr5_g2, F_law10_SymsFindsr5_g14, F_law10_SymsFindsr5_g24, F_law10_SymsFindsr5_W, F_law10_SymsFindsr6_W, F_law10_SymsFindsr7_W, F_law10_SymsFindsr8_W, F_law10_SymsFindsr10_W, F_law10_SymsFindsr11_W, F_law10_SymsFindsr9_W, F_law10_SymsFindsl0_W, F_law10_SymsFindsr12_W, F_law10_SymsFindsc_W, v0, v7, lenI_sl, h1]
  | succ m ih =>
    intro i H env hi v0 v7
    have h1 : ((i : Int) < (lst o).length) := by omega
    have hix : i < (lst o).length := by omega
    have w2 : IntKind.i64.wrap ((i : Int) + 1) = ((i + 1 : Nat) : Int) := by rw [wrapI64 (by omega) (by omega)]; rfl
    have hx := fun H => ix_sl (E := S_api_SymE) (n := 7) rfl hix .i64 H
    have hld : ∀ H, loadNI H 7 (atI S_api_SymE (lst o) i) = some (symA (lst o)[i], H) := fun H => loadNI_at rfl hix
    have c1 := f_syms_Exported (T := TSyms) rfl (lst o)[i]
    have c2 := f_ref10_Had (T := TSyms) rfl (lst o)[i]
    rw [w_loop]
    cases hh : had (lst o)[i] with
    | true =>
      simp only [fws, cond_true, cond_false, if_true, if_false, unV, isNil, optI, iV, stepI, evalR, reduceIte, reduceCtorEq, Nat.reduceEqDiff, Int.reduceLT, Int.reduceLE, Int.reduceToNat, Nat.reduceLT, Nat.reduceLeDiff, Int.reduceEq, Int.reduceNeg, IntKind.bits, Nat.reduceAdd, Nat.reduceMul, Nat.reducePow, Int.reducePow, ini, fwi, F_law10_SymsFindsr0_W, F_law10_SymsFindsr1_W, F_law10_SymsFindsr2_W, F_law10_SymsFindsr3_W, F_law10_SymsFindsr4_W, F_law10_SymsFindsr5_g2, F_law10_SymsFindsr5_g14, F_law10_SymsFindsr5_g24, F_law10_SymsFindsr5_W, F_law10_SymsFindsr6_W, F_law10_SymsFindsr7_W, F_law10_SymsFindsr8_W, F_law10_SymsFindsr10_W, F_law10_SymsFindsr11_W, F_law10_SymsFindsr9_W, F_law10_SymsFindsl0_W, F_law10_SymsFindsr12_W, F_law10_SymsFindsc_W, v0, v7, lenI_sl, h1, hx, hld, CC_of c1, CC_of c2, hh, w2]
      refine ih (i + 1) H _ (by omega) ?_ ?_
      all_goals (first | (simp only [fws, cond_true, cond_false, if_true, if_false, unV, isNil, optI, iV, stepI, evalR, reduceIte, reduceCtorEq, Nat.reduceEqDiff, Int.reduceLT, Int.reduceLE, Int.reduceToNat, Nat.reduceLT, Nat.reduceLeDiff, Int.reduceEq, Int.reduceNeg, IntKind.bits, Nat.reduceAdd, Nat.reduceMul, Nat.reducePow, Int.reducePow, ini, *]; done) | (simp only [fws, cond_true, cond_false, if_true, if_false, unV, isNil, optI, iV, stepI, evalR, reduceIte, reduceCtorEq, Nat.reduceEqDiff, Int.reduceLT, Int.reduceLE, Int.reduceToNat, Nat.reduceLT, Nat.reduceLeDiff, Int.reduceEq, Int.reduceNeg, IntKind.bits, Nat.reduceAdd, Nat.reduceMul, Nat.reducePow, Int.reducePow, ini]; rfl))
    | false =>
      simp only [fws, cond_true, cond_false, if_true, if_false, unV, isNil, optI, iV, stepI, evalR, reduceIte, reduceCtorEq, Nat.reduceEqDiff, Int.reduceLT, Int.reduceLE, Int.reduceToNat, Nat.reduceLT, Nat.reduceLeDiff, Int.reduceEq, Int.reduceNeg, IntKind.bits, Nat.reduceAdd, Nat.reduceMul, Nat.reducePow, Int.reducePow, ini, fwi, F_law10_SymsFindsr0_W, F_law10_SymsFindsr1_W, F_law10_SymsFindsr2_W, F_law10_SymsFindsr3_W, F_law10_SymsFindsr4_W, F_law10_SymsFindsr5_g2, F_law10_SymsFindsr5_g14, F_law10_SymsFindsr5_g24, F_law10_SymsFindsr5_W, F_law10_SymsFindsr6_W, F_law10_SymsFindsr7_W, F_law10_SymsFindsr8_W, F_law10_SymsFindsr10_W, F_law10_SymsFindsr11_W, F_law10_SymsFindsr9_W, F_law10_SymsFindsl0_W, F_law10_SymsFindsr12_W, F_law10_SymsFindsc_W, v0, v7, lenI_sl, h1, hx, hld, CC_of c1, CC_of c2, hh, w2]
      refine ih (i + 1) H _ (by omega) ?_ ?_
      all_goals (first | (simp only [fws, cond_true, cond_false, if_true, if_false, unV, isNil, optI, iV, stepI, evalR, reduceIte, reduceCtorEq, Nat.reduceEqDiff, Int.reduceLT, Int.reduceLE, Int.reduceToNat, Nat.reduceLT, Nat.reduceLeDiff, Int.reduceEq, Int.reduceNeg, IntKind.bits, Nat.reduceAdd, Nat.reduceMul, Nat.reducePow, Int.reducePow, ini, *]; done) | (simp only [fws, cond_true, cond_false, if_true, if_false, unV, isNil, optI, iV, stepI, evalR, reduceIte, reduceCtorEq, Nat.reduceEqDiff, Int.reduceLT, Int.reduceLE, Int.reduceToNat, Nat.reduceLT, Nat.reduceLeDiff, Int.reduceEq, Int.reduceNeg, IntKind.bits, Nat.reduceAdd, Nat.reduceMul, Nat.reducePow, Int.reducePow, ini]; rfl))
theorem u64_of {n : Int} (h : (Lit.int .u64 n).wf = true) : isU64 n := by
  simp [Lit.wf, IntKind.min, IntKind.max, IntKind.bits, IntKind.signed] at h
  unfold isU64
  omega
theorem okN_of {l : List S_api_Sym} (h : ∀ s ∈ l, S_api_Sym.wf s) : okN l := fun s hs => ⟨u64_of (h s hs).2.2.2.2.2.1, u64_of (h s hs).2.2.2.2.2.2⟩
theorem law_SymsFinds (o : Option (List S_api_Sym)) (hw : okN (lst o)) (versions : Bool) (name ver : List UInt8) (at_ : Int) (hat : isU64 at_) :
    Ev TSyms 8 [slV S_api_SymE o, .agg #[.bool versions, strV name, strV ver, .int .u64 at_]] [] fun v _ => v = .bool true := by
  rw [Ev_fn rfl rfl]
  by_cases hl : (lst o).length ≤ 1000
  · have q1 : ¬ ((1000 : Int) < (lst o).length) := by omega
    have c1 := f_syms_Find (T := TSyms) rfl rfl (lst o) hl (slV S_api_SymE o) Src_sl (pure_sl rfl) versions name ver
    have c2 := f_ref10_Find (T := TSyms) rfl rfl (lst o) hl (slV S_api_SymE o) Src_sl (pure_sl rfl) versions name ver
    obtain ⟨n1, b1, c3⟩ := f_syms_Near (T := TSyms) rfl rfl (lst o) hl hw (slV S_api_SymE o) Src_sl (pure_sl rfl) at_ hat
    obtain ⟨n2, b2, c4⟩ := f_ref10_Near (T := TSyms) rfl rfl (lst o) hl hw (slV S_api_SymE o) Src_sl (pure_sl rfl) at_ hat
    obtain rfl := b1.unique b2
    have c5 := ev_NewIndex (T := TSyms) rfl rfl (lst o) hl (slV S_api_SymE o) Src_sl (fun H => srcOf_sl rfl) versions [askE versions name ver at_]
    simp only [F_law10_SymsFinds, fws, cond_true, cond_false, if_true, if_false, unV, isNil, optI, iV, stepI, evalR, reduceIte, reduceCtorEq, Nat.reduceEqDiff, Int.reduceLT, Int.reduceLE, Int.reduceToNat, Nat.reduceLT, Nat.reduceLeDiff, Int.reduceEq, Int.reduceNeg, IntKind.bits, Nat.reduceAdd, Nat.reduceMul, Nat.reducePow, Int.reducePow, ini, fwh, lk, cellsAt, tagOf, spotOf, rdN, spl, fillL, zr, fwi, F_law10_SymsFindsr0_W, F_law10_SymsFindsr1_W, F_law10_SymsFindsr2_W, F_law10_SymsFindsr3_W, F_law10_SymsFindsr4_W, F_law10_SymsFindsr5_g2, F_law10_SymsFindsr5_g14, F_law10_SymsFindsr5_g24, F_law10_SymsFindsr5_W, F_law10_SymsFindsr6_W, F_law10_SymsFindsr7_W, F_law10_SymsFindsr8_W, F_law10_SymsFindsr10_W, F_law10_SymsFindsr11_W, F_law10_SymsFindsr9_W, F_law10_SymsFindsl0_W, F_law10_SymsFindsr12_W, F_law10_SymsFindsc_W, lenI_sl, q1, CC_of c1]
    refine c5.mono fun u h ⟨g1, g2, g3, g4⟩ => ?_
    subst g1
    have g0 := g4 0 (by simp)
    simp only [List.getElem?_cons_zero] at g0
    have c6 := ev_Index_Find (T := TSyms) rfl rfl rfl (lst o) hl versions _ _ name ver h _ g2 g3
    simp only [List.length_cons, List.length_nil, Nat.zero_add, Nat.reduceAdd] at c6
    simp only [fws, cond_true, cond_false, if_true, if_false, unV, isNil, optI, iV, stepI, evalR, reduceIte, reduceCtorEq, Nat.reduceEqDiff, Int.reduceLT, Int.reduceLE, Int.reduceToNat, Nat.reduceLT, Nat.reduceLeDiff, Int.reduceEq, Int.reduceNeg, IntKind.bits, Nat.reduceAdd, Nat.reduceMul, Nat.reducePow, Int.reducePow, ini, fwh, lk, cellsAt, tagOf, spotOf, rdN, spl, fillL, zr, fwi, F_law10_SymsFindsr0_W, F_law10_SymsFindsr1_W, F_law10_SymsFindsr2_W, F_law10_SymsFindsr3_W, F_law10_SymsFindsr4_W, F_law10_SymsFindsr5_g2, F_law10_SymsFindsr5_g14, F_law10_SymsFindsr5_g24, F_law10_SymsFindsr5_W, F_law10_SymsFindsr6_W, F_law10_SymsFindsr7_W, F_law10_SymsFindsr8_W, F_law10_SymsFindsr10_W, F_law10_SymsFindsr11_W, F_law10_SymsFindsr9_W, F_law10_SymsFindsl0_W, F_law10_SymsFindsr12_W, F_law10_SymsFindsc_W, g0, CC_of c2, CC_of c3, CC_of c4, Ev_det c6]
    refine W.mono (loop_SymsFinds o hl (lst o).length 0 _ _ (Nat.zero_add _) ?_ ?_) fun x e h hq => ?_
    · (first | (simp only [fws, cond_true, cond_false, if_true, if_false, unV, isNil, optI, iV, stepI, evalR, reduceIte, reduceCtorEq, Nat.reduceEqDiff, Int.reduceLT, Int.reduceLE, Int.reduceToNat, Nat.reduceLT, Nat.reduceLeDiff, Int.reduceEq, Int.reduceNeg, IntKind.bits, Nat.reduceAdd, Nat.reduceMul, Nat.reducePow, Int.reducePow, ini, *]; done) | (simp only [fws, cond_true, cond_false, if_true, if_false, unV, isNil, optI, iV, stepI, evalR, reduceIte, reduceCtorEq, Nat.reduceEqDiff, Int.reduceLT, Int.reduceLE, Int.reduceToNat, Nat.reduceLT, Nat.reduceLeDiff, Int.reduceEq, Int.reduceNeg, IntKind.bits, Nat.reduceAdd, Nat.reduceMul, Nat.reducePow, Int.reducePow, ini]; rfl))
    · (first | (simp only [fws, cond_true, cond_false, if_true, if_false, unV, isNil, optI, iV, stepI, evalR, reduceIte, reduceCtorEq, Nat.reduceEqDiff, Int.reduceLT, Int.reduceLE, Int.reduceToNat, Nat.reduceLT, Nat.reduceLeDiff, Int.reduceEq, Int.reduceNeg, IntKind.bits, Nat.reduceAdd, Nat.reduceMul, Nat.reducePow, Int.reducePow, ini, *]; done) | (simp only [fws, cond_true, cond_false, if_true, if_false, unV, isNil, optI, iV, stepI, evalR, reduceIte, reduceCtorEq, Nat.reduceEqDiff, Int.reduceLT, Int.reduceLE, Int.reduceToNat, Nat.reduceLT, Nat.reduceLeDiff, Int.reduceEq, Int.reduceNeg, IntKind.bits, Nat.reduceAdd, Nat.reduceMul, Nat.reducePow, Int.reducePow, ini]; rfl))
    subst hq
    simp only [fws, cond_true, cond_false, if_true, if_false, unV, isNil, optI, iV, stepI, evalR, reduceIte, reduceCtorEq, Nat.reduceEqDiff, Int.reduceLT, Int.reduceLE, Int.reduceToNat, Nat.reduceLT, Nat.reduceLeDiff, Int.reduceEq, Int.reduceNeg, IntKind.bits, Nat.reduceAdd, Nat.reduceMul, Nat.reducePow, Int.reducePow, ini, fwh, lk, cellsAt, tagOf, spotOf, rdN, spl, fillL, zr, fwi, F_law10_SymsFindsr0_W, F_law10_SymsFindsr1_W, F_law10_SymsFindsr2_W, F_law10_SymsFindsr3_W, F_law10_SymsFindsr4_W, F_law10_SymsFindsr5_g2, F_law10_SymsFindsr5_g14, F_law10_SymsFindsr5_g24, F_law10_SymsFindsr5_W, F_law10_SymsFindsr6_W, F_law10_SymsFindsr7_W, F_law10_SymsFindsr8_W, F_law10_SymsFindsr10_W, F_law10_SymsFindsr11_W, F_law10_SymsFindsr9_W, F_law10_SymsFindsl0_W, F_law10_SymsFindsr12_W, F_law10_SymsFindsc_W, CC_of syms_alive]
  · have q1 : ((1000 : Int) < (lst o).length) := by omega
    simp only [F_law10_SymsFinds, fws, cond_true, cond_false, if_true, if_false, unV, isNil, optI, iV, stepI, evalR, reduceIte, reduceCtorEq, Nat.reduceEqDiff, Int.reduceLT, Int.reduceLE, Int.reduceToNat, Nat.reduceLT, Nat.reduceLeDiff, Int.reduceEq, Int.reduceNeg, IntKind.bits, Nat.reduceAdd, Nat.reduceMul, Nat.reducePow, Int.reducePow, ini, fwh, lk, cellsAt, tagOf, spotOf, rdN, spl, fillL, zr, fwi, F_law10_SymsFindsr0_W, F_law10_SymsFindsr1_W, F_law10_SymsFindsr2_W, F_law10_SymsFindsr3_W, F_law10_SymsFindsr4_W, F_law10_SymsFindsr5_g2, F_law10_SymsFindsr5_g14, F_law10_SymsFindsr5_g24, F_law10_SymsFindsr5_W, F_law10_SymsFindsr6_W, F_law10_SymsFindsr7_W, F_law10_SymsFindsr8_W, F_law10_SymsFindsr10_W, F_law10_SymsFindsr11_W, F_law10_SymsFindsr9_W, F_law10_SymsFindsl0_W, F_law10_SymsFindsr12_W, F_law10_SymsFindsc_W, lenI_sl, q1]
end Go.Proofs.Ytkhojkdcejmgpaa
