/- The laws of lists of relocations. -/
import Derived.Test.YtleogcfmlpmbiaaRelsE
namespace Go.Proofs.Ytleogcfmlpmbiaa
open Go Fw
set_option linter.unusedSimpArgs false
set_option linter.unusedVariables false

theorem rels_alive : FnV TRels 32 [] (.bool true) := FnV_run 80 rfl (by kernel_rfl)
theorem src_of {α : Type} {E : Enc α} {o : Option (List α)} {l : List α} (h : lst o = l) : Src E (slV E o) l := by subst h; exact Src_sl
theorem pure_by {o : Option (List UInt8)} : pureV 6 (slV byteE o) = true := pure_sl (E := byteE) (o := o) (k := 6) rfl
theorem pure_rl {o : Option (List S_api_Rel)} : pureV 6 (slV RelE o) = true := pure_sl (E := RelE) (o := o) (k := 6) rfl
theorem law_RelsReads (o : Option (List UInt8)) (rela : Bool) : Ev TRels 9 [slV byteE o, .bool rela] [] fun v _ => v = .bool true := by
  rw [Ev_fn rfl rfl]
  by_cases hl : (lst o).length ≤ 20000
  · have q : ¬ ((20000 : Int) < (lst o).length) := by omega
    obtain ⟨o1, p1, c1⟩ := f_rels_Decode (T := TRels) rfl rfl rfl rfl rfl (lst o) (slV byteE o) Src_sl pure_by hl rfl rfl rela
    obtain ⟨o2, p2, c2⟩ := f_ref12_Decode (T := TRels) rfl rfl (lst o) (slV byteE o) Src_sl pure_by hl rfl rela
    have hn : (decs rela (lst o)).length ≤ 10000 := by
      unfold decs
      split
      · rename_i h; rw [decN_len]; have := h.2; omega
      · simp
    have c3 := f_ref12_Same (T := TRels) (decs rela (lst o)) (decs rela (lst o)) (slV RelE o1) (slV RelE o2) (src_of p1) (src_of p2) hn rfl pure_rl pure_rl
    have c4 := f_rels_Same (T := TRels) (decs rela (lst o)) (decs rela (lst o)) (slV RelE o1) (slV RelE o2) (src_of p1) (src_of p2) hn rfl pure_rl pure_rl
    rw [decide_eq_true rfl] at c3 c4
    simp only [F_law12_RelsReads, fws, cond_true, cond_false, if_true, if_false, unV, isNil, optI, iV, stepI, evalR, reduceIte, reduceCtorEq, Nat.reduceEqDiff, Int.reduceLT, Int.reduceLE, Int.reduceToNat, Nat.reduceLT, Nat.reduceLeDiff, Int.reduceEq, Int.reduceNeg, IntKind.bits, Nat.reduceAdd, Nat.reduceMul, Nat.reducePow, Int.reducePow, ini, fwi, F_law12_RelsReadsr0_W, F_law12_RelsReadsr1_W, F_law12_RelsReadsr2_W, F_law12_RelsReadsr3_W, F_law12_RelsReadsr4_W, F_law12_RelsReadsr5_W, F_law12_RelsReadsr5_g3, F_law12_RelsReadsr5_g8, F_law12_RelsReadsr5_g13, F_law12_RelsReadsc_W, lenI_sl, q, CC_of c1, CC_of c2, CC_of c3, CC_of c4, CC_of rels_alive, List.getElem?_cons_zero, List.getElem?_cons_succ, List.getElem?_toArray]
  · have q : ((20000 : Int) < (lst o).length) := by omega
    simp only [F_law12_RelsReads, fws, cond_true, cond_false, if_true, if_false, unV, isNil, optI, iV, stepI, evalR, reduceIte, reduceCtorEq, Nat.reduceEqDiff, Int.reduceLT, Int.reduceLE, Int.reduceToNat, Nat.reduceLT, Nat.reduceLeDiff, Int.reduceEq, Int.reduceNeg, IntKind.bits, Nat.reduceAdd, Nat.reduceMul, Nat.reducePow, Int.reducePow, ini, fwi, F_law12_RelsReadsr0_W, F_law12_RelsReadsr1_W, F_law12_RelsReadsr2_W, F_law12_RelsReadsr3_W, F_law12_RelsReadsr4_W, F_law12_RelsReadsr5_W, F_law12_RelsReadsr5_g3, F_law12_RelsReadsr5_g8, F_law12_RelsReadsr5_g13, F_law12_RelsReadsc_W, lenI_sl, q]
def okRels (l : List S_api_Rel) : Prop := ∀ r ∈ l, okRel r
theorem f_rels_Enc (l : List S_api_Rel) (v : Value) (hv : Src RelE v l) (hp : pureV 6 v = true) (hw : okRels l) (rela : Bool) :
    (∃ o, lst o = encB rela l ∧ FnV TRels 29 [v, .bool rela] (.tuple #[slV byteE o, .int .i64 (encC rela l)])) ∧ ∃ o, lst o = encB rela l ∧ FnV TRels 45 [v, .bool rela] (.tuple #[slV byteE o, .int .i64 (encC rela l)]) := by
  by_cases hl : l.length ≤ 512
  · exact ⟨f_rels_Encode (T := TRels) rfl rfl rfl l v hv hl hw rfl rfl hp rfl rela, f_ref12_Encode (T := TRels) rfl l v hv hl hw hp rfl rela⟩
  · exact ⟨f_rels_Encode_gt (T := TRels) l v hv hp hl rfl rela, f_ref12_Encode_gt (T := TRels) l v hv hp hl rfl rela⟩
theorem law_RelsWrites (o1 o2 : Option (List S_api_Rel)) (hw : okRels (lst o1)) (rela : Bool) : Ev TRels 10 [slV RelE o1, slV RelE o2, .bool rela] [] fun v _ => v = .bool true := by
  rw [Ev_fn rfl rfl]
  by_cases hl : (lst o1).length ≤ 1000
  · have q : ¬ ((1000 : Int) < (lst o1).length) := by omega
    by_cases hl2 : (lst o2).length ≤ 1000
    · have q2 : ¬ ((1000 : Int) < (lst o2).length) := by omega
      obtain ⟨⟨x, px, cx⟩, ⟨y, py, cy⟩⟩ := f_rels_Enc (lst o1) (slV RelE o1) Src_sl pure_rl hw rela
      have c3 := f_ref12_Same (T := TRels) (lst o1) (lst o2) (slV RelE o1) (slV RelE o2) Src_sl Src_sl (by omega) rfl pure_rl pure_rl
      have c4 := f_rels_Same (T := TRels) (lst o1) (lst o2) (slV RelE o1) (slV RelE o2) Src_sl Src_sl (by omega) rfl pure_rl pure_rl
      have c5 := f_rels_Same (T := TRels) (lst o1) (lst o1) (slV RelE o1) (slV RelE o1) Src_sl Src_sl (by omega) rfl pure_rl pure_rl
      rw [decide_eq_true rfl] at c5
      have bx : ∀ H, b2sI H (slV byteE x) = some (strV (encB rela (lst o1)), H) := fun H => by have := b2sI_sl (o := x) (H := H); rwa [px] at this
      have by_ : ∀ H, b2sI H (slV byteE y) = some (strV (encB rela (lst o1)), H) := fun H => by have := b2sI_sl (o := y) (H := H); rwa [py] at this
      simp only [F_law12_RelsWrites, fws, cond_true, cond_false, if_true, if_false, unV, isNil, optI, iV, stepI, evalR, reduceIte, reduceCtorEq, Nat.reduceEqDiff, Int.reduceLT, Int.reduceLE, Int.reduceToNat, Nat.reduceLT, Nat.reduceLeDiff, Int.reduceEq, Int.reduceNeg, IntKind.bits, Nat.reduceAdd, Nat.reduceMul, Nat.reducePow, Int.reducePow, ini, fwi, F_law12_RelsWritesr0_W, F_law12_RelsWritesr1_W, F_law12_RelsWritesr1_g3, F_law12_RelsWritesr2_W, F_law12_RelsWritesr3_W, F_law12_RelsWritesr4_W, F_law12_RelsWritesr5_W, F_law12_RelsWritesr5_g5, F_law12_RelsWritesr5_g10, F_law12_RelsWritesr5_g19, F_law12_RelsWritesr5_g24, F_law12_RelsWritesc_W, lenI_sl, q, q2, CC_of cx, CC_of cy, CC_of c3, CC_of c4, CC_of c5, CC_of rels_alive, bx, by_, strEq_self, List.getElem?_cons_zero, List.getElem?_cons_succ, List.getElem?_toArray, beq_self_eq_true]
    · have q2 : ((1000 : Int) < (lst o2).length) := by omega
      simp only [F_law12_RelsWrites, fws, cond_true, cond_false, if_true, if_false, unV, isNil, optI, iV, stepI, evalR, reduceIte, reduceCtorEq, Nat.reduceEqDiff, Int.reduceLT, Int.reduceLE, Int.reduceToNat, Nat.reduceLT, Nat.reduceLeDiff, Int.reduceEq, Int.reduceNeg, IntKind.bits, Nat.reduceAdd, Nat.reduceMul, Nat.reducePow, Int.reducePow, ini, fwi, F_law12_RelsWritesr0_W, F_law12_RelsWritesr1_W, F_law12_RelsWritesr1_g3, F_law12_RelsWritesr2_W, F_law12_RelsWritesr3_W, F_law12_RelsWritesr4_W, F_law12_RelsWritesr5_W, F_law12_RelsWritesr5_g5, F_law12_RelsWritesr5_g10, F_law12_RelsWritesr5_g19, F_law12_RelsWritesr5_g24, F_law12_RelsWritesc_W, lenI_sl, q, q2]
  · have q : ((1000 : Int) < (lst o1).length) := by omega
    simp only [F_law12_RelsWrites, fws, cond_true, cond_false, if_true, if_false, unV, isNil, optI, iV, stepI, evalR, reduceIte, reduceCtorEq, Nat.reduceEqDiff, Int.reduceLT, Int.reduceLE, Int.reduceToNat, Nat.reduceLT, Nat.reduceLeDiff, Int.reduceEq, Int.reduceNeg, IntKind.bits, Nat.reduceAdd, Nat.reduceMul, Nat.reducePow, Int.reducePow, ini, fwi, F_law12_RelsWritesr0_W, F_law12_RelsWritesr1_W, F_law12_RelsWritesr1_g3, F_law12_RelsWritesr2_W, F_law12_RelsWritesr3_W, F_law12_RelsWritesr4_W, F_law12_RelsWritesr5_W, F_law12_RelsWritesr5_g5, F_law12_RelsWritesr5_g10, F_law12_RelsWritesr5_g19, F_law12_RelsWritesr5_g24, F_law12_RelsWritesc_W, lenI_sl, q]
end Go.Proofs.Ytleogcfmlpmbiaa
