/- An index of symbols, and what it finds. -/
import Derived.Test.YtkhojkdcejmgpaaSymsE
namespace Go.Proofs.Ytkhojkdcejmgpaa
open Go Fw
set_option linter.unusedSimpArgs false
set_option linter.unusedVariables false

def cnm (l : List S_api_Sym) (k : List UInt8) (j : Nat) : Bool := (l[j]?).any fun s => had s && decide (s.Name = k)
def ixs (l : List S_api_Sym) (i : Nat) : Idx := fun k => ((List.range i).filter (cnm l k)).map fun (j : Nat) => (j : Int)
theorem ixs_len (l : List S_api_Sym) (i : Nat) (k : List UInt8) : (ixs l i k).length ≤ i := by
  unfold ixs
  rw [List.length_map]
  exact Nat.le_trans (List.length_filter_le _ _) (by simp)
theorem ixs_push {l : List S_api_Sym} {i : Nat} (h : i < l.length) (hh : had l[i] = true) : ixs l (i + 1) = (ixs l i).push l[i].Name i := by
  funext k
  unfold ixs Idx.push
  rw [List.range_succ, List.filter_append, List.map_append]
  by_cases hk : k = l[i].Name
  · subst hk
    have : cnm l l[i].Name i = true := by unfold cnm; rw [List.getElem?_eq_getElem h]; simp [hh]
    simp [this]
  · have : cnm l k i = false := by unfold cnm; rw [List.getElem?_eq_getElem h]; simp [hh]; exact fun h => hk h.symm
    simp [this, hk]
theorem ixs_skip {l : List S_api_Sym} {i : Nat} (h : i < l.length) (hh : had l[i] = false) : ixs l (i + 1) = ixs l i := by
  funext k
  unfold ixs
  rw [List.range_succ, List.filter_append, List.map_append]
  have : cnm l k i = false := by unfold cnm; rw [List.getElem?_eq_getElem h]; simp [hh]
  simp [this]
abbrev ixE (l : List S_api_Sym) (versions : Bool) (b : Nat) : Entry := ⟨0, .cells false 3 [immN S_api_SymE l, .bool versions, .map (some b)]⟩

theorem loop_NewIndex {T : Tab} (hE : T 33 = some F_syms_Exported) (l : List S_api_Sym) (hl : l.length ≤ 1000) (v : Value) (hv : Src S_api_SymE v l) (versions : Bool) (a b : Nat) (hab : a ≠ b) (keep : List Nat) (hka : a ∈ keep) (hkb : b ∉ keep) (G : Heap) :
    ∀ (m i : Nat) (H : Heap) (env : Env), i + m = l.length → MM H b (ixs l i) keep → (∀ q ∈ keep, q < H.length) → H[a]? = some (ixE l versions b) → (∀ q ∈ keep, H[q]? = G[q]?) → env 5 = .pointer (some ⟨a, 0, none⟩) → env 14 = v → env 15 = .int .i64 l.length → env 16 = .int .i64 i →
    W T (.loop F_syms_NewIndexl0) env H fun x e h => x = .exit 0 ∧ e 5 = .pointer (some ⟨a, 0, none⟩) ∧ MM h b (ixs l l.length) keep ∧ (∀ q ∈ keep, q < h.length) ∧ ∀ q ∈ keep, h[q]? = G[q]? := by
  intro m
  induction m with
  | zero =>
    intro i H env hi hm hk ha hg v5 v14 v15 v16
    have h1 : ¬ ((i : Int) < l.length) := by omega
    have : i = l.length := by omega
    subst this
    rw [w_loop]
    simp only [fws, cond_true, cond_false, if_true, if_false, unV, isNil, optI, iV, stepI, evalR, reduceIte, reduceCtorEq, Nat.reduceEqDiff, Int.reduceLT, Int.reduceLE, Int.reduceToNat, Nat.reduceLT, Nat.reduceLeDiff, Int.reduceEq, Int.reduceNeg, IntKind.bits, Nat.reduceAdd, Nat.reduceMul, Nat.reducePow, Int.reducePow, ini, F_syms_NewIndexr0_W, F_syms_NewIndexr1_W, F_syms_NewIndexr2_W, F_syms_NewIndexr3_W, F_syms_NewIndexr4_W, F_syms_NewIndexr5_W, F_syms_NewIndexr6_W, F_syms_NewIndexr6_len, F_syms_NewIndexr6_i3, F_syms_NewIndexr6_i5, F_syms_NewIndexr7_W, F_syms_NewIndexl0_W, F_syms_NewIndexr8_W, F_syms_NewIndexc_W, v5, v14, v15, v16, h1]
    exact ⟨trivial, trivial, hm, hk, hg⟩
  | succ m ih =>
    intro i H env hi hm hk ha hg v5 v14 v15 v16
    have h1 : ((i : Int) < l.length) := by omega
    have hix : i < l.length := by omega
    have hx : ∀ H, ixaI H 7 v (.int .i64 i) = some (atI S_api_SymE l i, H) := fun H => hv.2 i hix .i64 H
    have hld : ∀ H, loadNI H 7 (atI S_api_SymE l i) = some (symA l[i], H) := fun H => loadNI_at rfl hix
    have w2 : IntKind.i64.wrap ((i : Int) + 1) = ((i + 1 : Nat) : Int) := by rw [wrapI64 (by omega) (by omega)]; rfl
    have hex := f_syms_Exported hE l[i]
    have hpush := fun h => ixs_push hix h
    have hskip := fun h => ixs_skip hix h
    have hlt := hk a hka
    rcases hs : l[i] with ⟨nm, vr, hid, bd, df, vl, sz⟩
    rw [hs] at hld hex hpush hskip
    rw [w_loop]
    cases hh : had ⟨nm, vr, hid, bd, df, vl, sz⟩ with
    | false =>
      simp only [fws, cond_true, cond_false, if_true, if_false, unV, isNil, optI, iV, stepI, evalR, reduceIte, reduceCtorEq, Nat.reduceEqDiff, Int.reduceLT, Int.reduceLE, Int.reduceToNat, Nat.reduceLT, Nat.reduceLeDiff, Int.reduceEq, Int.reduceNeg, IntKind.bits, Nat.reduceAdd, Nat.reduceMul, Nat.reducePow, Int.reducePow, ini, fwh, lk, cellsAt, tagOf, spotOf, rdN, spl, fillL, zr, fwi, F_syms_NewIndexr0_W, F_syms_NewIndexr1_W, F_syms_NewIndexr2_W, F_syms_NewIndexr3_W, F_syms_NewIndexr4_W, F_syms_NewIndexr5_W, F_syms_NewIndexr6_W, F_syms_NewIndexr6_len, F_syms_NewIndexr6_i3, F_syms_NewIndexr6_i5, F_syms_NewIndexr7_W, F_syms_NewIndexl0_W, F_syms_NewIndexr8_W, F_syms_NewIndexc_W, v5, v14, v15, v16, h1, hx, hld, CC_of hex, hh, w2]
      refine ih (i + 1) _ _ (by omega) (by rw [hskip hh]; exact hm.mono _) (fun q hq => by have := hk q hq; simp; omega) (by rw [List.getElem?_append_left hlt]; exact ha) (fun q hq => by rw [List.getElem?_append_left (hk q hq)]; exact hg q hq) ?_ ?_ ?_ ?_
      all_goals (first | (simp only [fws, cond_true, cond_false, if_true, if_false, unV, isNil, optI, iV, stepI, evalR, reduceIte, reduceCtorEq, Nat.reduceEqDiff, Int.reduceLT, Int.reduceLE, Int.reduceToNat, Nat.reduceLT, Nat.reduceLeDiff, Int.reduceEq, Int.reduceNeg, IntKind.bits, Nat.reduceAdd, Nat.reduceMul, Nat.reducePow, Int.reducePow, ini, *]; done) | (simp only [fws, cond_true, cond_false, if_true, if_false, unV, isNil, optI, iV, stepI, evalR, reduceIte, reduceCtorEq, Nat.reduceEqDiff, Int.reduceLT, Int.reduceLE, Int.reduceToNat, Nat.reduceLT, Nat.reduceLeDiff, Int.reduceEq, Int.reduceNeg, IntKind.bits, Nat.reduceAdd, Nat.reduceMul, Nat.reducePow, Int.reducePow, ini]; rfl))
    | true =>
      have hm' := hm.keep [⟨0, .cells false 7 [strV nm, strV vr, .bool hid, .int .i64 bd, .bool df, .int .u64 vl, .int .u64 sz]⟩] [H.length] (fun q hq => by simp at hq; omega)
      obtain ⟨u, u', H1, H2, c1, c2, c3, c4, c5, c6, c7⟩ := hm'.push (fun q hq => by
        simp at hq ⊢
        rcases hq with rfl | hq
        · omega
        · have := hk q hq; omega) nm i (Nat.lt_of_le_of_lt (ixs_len l i nm) (by omega))
      have hga : (H ++ [⟨0, .cells false 7 [strV nm, strV vr, .bool hid, .int .i64 bd, .bool df, .int .u64 vl, .int .u64 sz]⟩])[a]? = some (ixE l versions b) := by rw [List.getElem?_append_left hlt]; exact ha
      have hga1 : H1[a]? = some (ixE l versions b) := by rw [c7 a (by simp [hka])]; exact hga
      have hgl1 : H1[H.length]? = some ⟨0, .cells false 7 [strV nm, strV vr, .bool hid, .int .i64 bd, .bool df, .int .u64 vl, .int .u64 sz]⟩ := by rw [c7 _ (by simp)]; simp
      simp only [fws, cond_true, cond_false, if_true, if_false, unV, isNil, optI, iV, stepI, evalR, reduceIte, reduceCtorEq, Nat.reduceEqDiff, Int.reduceLT, Int.reduceLE, Int.reduceToNat, Nat.reduceLT, Nat.reduceLeDiff, Int.reduceEq, Int.reduceNeg, IntKind.bits, Nat.reduceAdd, Nat.reduceMul, Nat.reducePow, Int.reducePow, ini, fwh, lk, cellsAt, tagOf, spotOf, rdN, spl, fillL, zr, fwi, F_syms_NewIndexr0_W, F_syms_NewIndexr1_W, F_syms_NewIndexr2_W, F_syms_NewIndexr3_W, F_syms_NewIndexr4_W, F_syms_NewIndexr5_W, F_syms_NewIndexr6_W, F_syms_NewIndexr6_len, F_syms_NewIndexr6_i3, F_syms_NewIndexr6_i5, F_syms_NewIndexr7_W, F_syms_NewIndexl0_W, F_syms_NewIndexr8_W, F_syms_NewIndexc_W, v5, v14, v15, v16, h1, hx, hld, CC_of hex, hh, w2, hga, c1, srcOf_immV, c2, c3]
      refine WR_nilT rfl (by decide) ⟨fun c hc => ?_, ?_⟩
      · simp only [List.mem_cons, List.not_mem_nil, or_false] at hc
        rcases hc with rfl | rfl
        · intro hy
          simp only [fws, cond_true, cond_false, if_true, if_false, unV, isNil, optI, iV, stepI, evalR, reduceIte, reduceCtorEq, Nat.reduceEqDiff, Int.reduceLT, Int.reduceLE, Int.reduceToNat, Nat.reduceLT, Nat.reduceLeDiff, Int.reduceEq, Int.reduceNeg, IntKind.bits, Nat.reduceAdd, Nat.reduceMul, Nat.reducePow, Int.reducePow, ini, fwh, lk, cellsAt, tagOf, spotOf, rdN, spl, fillL, zr, fwi, F_syms_NewIndexr0_W, F_syms_NewIndexr1_W, F_syms_NewIndexr2_W, F_syms_NewIndexr3_W, F_syms_NewIndexr4_W, F_syms_NewIndexr5_W, F_syms_NewIndexr6_W, F_syms_NewIndexr6_len, F_syms_NewIndexr6_i3, F_syms_NewIndexr6_i5, F_syms_NewIndexr7_W, F_syms_NewIndexl0_W, F_syms_NewIndexr8_W, F_syms_NewIndexc_W, hga1, hga, hgl1]
        · intro hy
          simp only [fws, cond_true, cond_false, if_true, if_false, unV, isNil, optI, iV, stepI, evalR, reduceIte, reduceCtorEq, Nat.reduceEqDiff, Int.reduceLT, Int.reduceLE, Int.reduceToNat, Nat.reduceLT, Nat.reduceLeDiff, Int.reduceEq, Int.reduceNeg, IntKind.bits, Nat.reduceAdd, Nat.reduceMul, Nat.reducePow, Int.reducePow, ini, fwh, lk, cellsAt, tagOf, spotOf, rdN, spl, fillL, zr, fwi, F_syms_NewIndexr0_W, F_syms_NewIndexr1_W, F_syms_NewIndexr2_W, F_syms_NewIndexr3_W, F_syms_NewIndexr4_W, F_syms_NewIndexr5_W, F_syms_NewIndexr6_W, F_syms_NewIndexr6_len, F_syms_NewIndexr6_i3, F_syms_NewIndexr6_i5, F_syms_NewIndexr7_W, F_syms_NewIndexl0_W, F_syms_NewIndexr8_W, F_syms_NewIndexc_W, hga1, hga, hgl1]
      · simp only [fws, cond_true, cond_false, if_true, if_false, unV, isNil, optI, iV, stepI, evalR, reduceIte, reduceCtorEq, Nat.reduceEqDiff, Int.reduceLT, Int.reduceLE, Int.reduceToNat, Nat.reduceLT, Nat.reduceLeDiff, Int.reduceEq, Int.reduceNeg, IntKind.bits, Nat.reduceAdd, Nat.reduceMul, Nat.reducePow, Int.reducePow, ini, fwh, lk, cellsAt, tagOf, spotOf, rdN, spl, fillL, zr, fwi, F_syms_NewIndexr0_W, F_syms_NewIndexr1_W, F_syms_NewIndexr2_W, F_syms_NewIndexr3_W, F_syms_NewIndexr4_W, F_syms_NewIndexr5_W, F_syms_NewIndexr6_W, F_syms_NewIndexr6_len, F_syms_NewIndexr6_i3, F_syms_NewIndexr6_i5, F_syms_NewIndexr7_W, F_syms_NewIndexl0_W, F_syms_NewIndexr8_W, F_syms_NewIndexc_W, v16, w2]
        have hne : ∀ q ∈ keep, q ≠ b := fun q hq h => hkb (by rw [← h]; exact hq)
        have hkeep2 : ∀ q ∈ keep, H2[q]? = H[q]? := fun q hq => by
          rw [c6 q (by simp [hq]) (hne q hq), List.getElem?_append_left (hk q hq)]
        refine ih (i + 1) H2 _ (by omega) (by rw [hpush hh]; exact c4.less (fun q hq => by simp [hq])) (fun q hq => by have := hk q hq; simp at c5; omega) (by rw [hkeep2 a hka]; exact ha) (fun q hq => by rw [hkeep2 q hq]; exact hg q hq) ?_ ?_ ?_ ?_
        all_goals (first | (simp only [fws, cond_true, cond_false, if_true, if_false, unV, isNil, optI, iV, stepI, evalR, reduceIte, reduceCtorEq, Nat.reduceEqDiff, Int.reduceLT, Int.reduceLE, Int.reduceToNat, Nat.reduceLT, Nat.reduceLeDiff, Int.reduceEq, Int.reduceNeg, IntKind.bits, Nat.reduceAdd, Nat.reduceMul, Nat.reducePow, Int.reducePow, ini, *]; done) | (simp only [fws, cond_true, cond_false, if_true, if_false, unV, isNil, optI, iV, stepI, evalR, reduceIte, reduceCtorEq, Nat.reduceEqDiff, Int.reduceLT, Int.reduceLE, Int.reduceToNat, Nat.reduceLT, Nat.reduceLeDiff, Int.reduceEq, Int.reduceNeg, IntKind.bits, Nat.reduceAdd, Nat.reduceMul, Nat.reducePow, Int.reducePow, ini]; rfl))

theorem ev_NewIndex {T : Tab} (hE : T 33 = some F_syms_Exported) (h : T 28 = some F_syms_NewIndex) (l : List S_api_Sym) (hl : l.length ≤ 1000) (v : Value) (hv : Src S_api_SymE v l) (hsrc : ∀ H, srcOf H 7 v = some (S_api_SymE.cs l, l.length)) (versions : Bool) (G : Heap) :
    Ev T 28 [v, .bool versions] G fun u h => u = .pointer (some ⟨G.length + 1, 0, none⟩) ∧ MM h G.length (ixs l l.length) [G.length + 1] ∧ h[G.length + 1]? = some (ixE l versions G.length) ∧ ∀ q, q < G.length → h[q]? = G[q]? := by
  rw [Ev_fn h rfl]
  have hcp : ∀ H, cpyI H 7 72 v = some (immN S_api_SymE l, H) := fun H => cpyI_N (E := S_api_SymE) (l := l) (n := 7) (eb := 72) rfl (by omega) (hsrc H)
  simp only [F_syms_NewIndex, fws, cond_true, cond_false, if_true, if_false, unV, isNil, optI, iV, stepI, evalR, reduceIte, reduceCtorEq, Nat.reduceEqDiff, Int.reduceLT, Int.reduceLE, Int.reduceToNat, Nat.reduceLT, Nat.reduceLeDiff, Int.reduceEq, Int.reduceNeg, IntKind.bits, Nat.reduceAdd, Nat.reduceMul, Nat.reducePow, Int.reducePow, ini, fwh, lk, cellsAt, tagOf, spotOf, rdN, spl, fillL, zr, fwi, F_syms_NewIndexr0_W, F_syms_NewIndexr1_W, F_syms_NewIndexr2_W, F_syms_NewIndexr3_W, F_syms_NewIndexr4_W, F_syms_NewIndexr5_W, F_syms_NewIndexr6_W, F_syms_NewIndexr6_len, F_syms_NewIndexr6_i3, F_syms_NewIndexr6_i5, F_syms_NewIndexr7_W, F_syms_NewIndexl0_W, F_syms_NewIndexr8_W, F_syms_NewIndexc_W, hv.1, hcp]
  have hnil : ixs l 0 = fun _ => [] := rfl
  refine W.mono (loop_NewIndex hE l hl v hv versions (G.length + 1) G.length (by omega) ((G.length + 1) :: List.range G.length) (by simp) (by simp) (G ++ [⟨0, .map []⟩, ixE l versions G.length]) l.length 0 _ _ (Nat.zero_add _) (by rw [hnil]; exact MM.new G [_] _) (fun q hq => by
    simp at hq ⊢
    omega) (by rw [List.getElem?_append_right (by omega)]; simp) (fun q hq => rfl) ?_ ?_ ?_ ?_) fun x e h ⟨g1, g2, g3, g4, g5⟩ => ?_
  all_goals try (first | (simp only [fws, cond_true, cond_false, if_true, if_false, unV, isNil, optI, iV, stepI, evalR, reduceIte, reduceCtorEq, Nat.reduceEqDiff, Int.reduceLT, Int.reduceLE, Int.reduceToNat, Nat.reduceLT, Nat.reduceLeDiff, Int.reduceEq, Int.reduceNeg, IntKind.bits, Nat.reduceAdd, Nat.reduceMul, Nat.reducePow, Int.reducePow, ini, *]; done) | (simp only [fws, cond_true, cond_false, if_true, if_false, unV, isNil, optI, iV, stepI, evalR, reduceIte, reduceCtorEq, Nat.reduceEqDiff, Int.reduceLT, Int.reduceLE, Int.reduceToNat, Nat.reduceLT, Nat.reduceLeDiff, Int.reduceEq, Int.reduceNeg, IntKind.bits, Nat.reduceAdd, Nat.reduceMul, Nat.reducePow, Int.reducePow, ini]; rfl))
  subst g1
  simp only [fws, cond_true, cond_false, if_true, if_false, unV, isNil, optI, iV, stepI, evalR, reduceIte, reduceCtorEq, Nat.reduceEqDiff, Int.reduceLT, Int.reduceLE, Int.reduceToNat, Nat.reduceLT, Nat.reduceLeDiff, Int.reduceEq, Int.reduceNeg, IntKind.bits, Nat.reduceAdd, Nat.reduceMul, Nat.reducePow, Int.reducePow, ini, fwh, lk, cellsAt, tagOf, spotOf, rdN, spl, fillL, zr, fwi, F_syms_NewIndexr0_W, F_syms_NewIndexr1_W, F_syms_NewIndexr2_W, F_syms_NewIndexr3_W, F_syms_NewIndexr4_W, F_syms_NewIndexr5_W, F_syms_NewIndexr6_W, F_syms_NewIndexr6_len, F_syms_NewIndexr6_i3, F_syms_NewIndexr6_i5, F_syms_NewIndexr7_W, F_syms_NewIndexl0_W, F_syms_NewIndexr8_W, F_syms_NewIndexc_W, g2]
  refine ⟨trivial, g3.less (fun q hq => by simp at hq; simp [hq]), ?_, fun q hq => ?_⟩
  · rw [g5 _ (by simp), List.getElem?_append_right (by omega)]; simp
  · rw [g5 q (by simp; omega), List.getElem?_append_left hq]
end Go.Proofs.Ytkhojkdcejmgpaa
