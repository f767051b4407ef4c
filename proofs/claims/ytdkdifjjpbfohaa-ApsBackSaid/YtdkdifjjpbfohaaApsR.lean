/- ApsWrites. -/
import Derived.Test.YtdkdifjjpbfohaaApsQ
import Derived.Test.YtdkdifjjpbfohaaApsS
namespace Go.Proofs.Ytdkdifjjpbfohaa
open Go Fw
set_option linter.unusedSimpArgs false
set_option linter.unusedVariables false
set_option linter.unusedSectionVars false

theorem aps_Enc (o : Option (List S_api_Rel)) (hw : okRels (lst o)) (rela : Bool) :
    (∃ x, lst x = apsB rela (lst o) ∧ FnV TAps 29 [slV RelE o, .bool rela] (.tuple #[slV byteE x, .int .i64 (apsE rela (lst o))])) ∧ ∃ x, lst x = apsB rela (lst o) ∧ FnV TAps 30 [slV RelE o, .bool rela] (.tuple #[slV byteE x, .int .i64 (apsE rela (lst o))]) := by
  by_cases hl : (lst o).length ≤ 512
  · exact ⟨f_aps_Encode (T := TAps) rfl rfl rfl o hl hw rela rfl, f_ref14_Encode (T := TAps) rfl o hl hw rela rfl⟩
  · exact ⟨f_aps_Encode_gt (T := TAps) o hl rela rfl, f_ref14_Encode_gt (T := TAps) o hl rela rfl⟩
theorem strEq_self {a : List UInt8} : strEq ⟨a.toArray⟩ ⟨a.toArray⟩ = true := by rw [strEq_str]; simp
theorem law_ApsWrites (o : Option (List S_api_Rel)) (hw : okRels (lst o)) (rela : Bool) : Ev TAps 9 [slV RelE o, .bool rela] [] fun v _ => v = .bool true := by
  rw [Ev_fn rfl rfl]
  by_cases hl : (lst o).length ≤ 1000
  · have q : ¬ ((1000 : Int) < (lst o).length) := by omega
    obtain ⟨⟨x, px, cx⟩, ⟨y, py, cy⟩⟩ := aps_Enc o hw rela
    have bx : ∀ H, b2sI H (slV byteE x) = some (strV (apsB rela (lst o)), H) := fun H => by have := b2sI_sl (o := x) (H := H); rwa [px] at this
    have by_ : ∀ H, b2sI H (slV byteE y) = some (strV (apsB rela (lst o)), H) := fun H => by have := b2sI_sl (o := y) (H := H); rwa [py] at this
    simp only [F_law14_ApsWrites, fws, cond_true, cond_false, if_true, if_false, unV, isNil, optI, iV, stepI, evalR, reduceIte, reduceCtorEq, Nat.reduceEqDiff, Int.reduceLT, Int.reduceLE, Int.reduceToNat, Nat.reduceLT, Nat.reduceLeDiff, Int.reduceEq, Int.reduceNeg, IntKind.bits, Nat.reduceAdd, Nat.reduceMul, Nat.reducePow, Int.reducePow, ini, fwi, F_law14_ApsWritesr0_W, F_law14_ApsWritesr1_W, F_law14_ApsWritesr2_W, F_law14_ApsWritesr3_W, F_law14_ApsWritesr4_W, F_law14_ApsWritesr5_W, F_law14_ApsWritesr5_g5, F_law14_ApsWritesr5_g10, F_law14_ApsWritesc_W, F_law14_ApsWritesr0_W, F_law14_ApsWritesr1_W, F_law14_ApsWritesr2_W, F_law14_ApsWritesr3_W, F_law14_ApsWritesr4_W, F_law14_ApsWritesr5_W, F_law14_ApsWritesr5_g5, F_law14_ApsWritesr5_g10, F_law14_ApsWritesc_W, lenI_sl, q, CC_of cx, CC_of cy, CC_of aps_alive, bx, by_, strEq_self, List.getElem?_cons_zero, List.getElem?_cons_succ, List.getElem?_toArray]
  · have q : ((1000 : Int) < (lst o).length) := by omega
    simp only [F_law14_ApsWrites, fws, cond_true, cond_false, if_true, if_false, unV, isNil, optI, iV, stepI, evalR, reduceIte, reduceCtorEq, Nat.reduceEqDiff, Int.reduceLT, Int.reduceLE, Int.reduceToNat, Nat.reduceLT, Nat.reduceLeDiff, Int.reduceEq, Int.reduceNeg, IntKind.bits, Nat.reduceAdd, Nat.reduceMul, Nat.reducePow, Int.reducePow, ini, fwi, F_law14_ApsWritesr0_W, F_law14_ApsWritesr1_W, F_law14_ApsWritesr2_W, F_law14_ApsWritesr3_W, F_law14_ApsWritesr4_W, F_law14_ApsWritesr5_W, F_law14_ApsWritesr5_g5, F_law14_ApsWritesr5_g10, F_law14_ApsWritesc_W, F_law14_ApsWritesr0_W, F_law14_ApsWritesr1_W, F_law14_ApsWritesr2_W, F_law14_ApsWritesr3_W, F_law14_ApsWritesr4_W, F_law14_ApsWritesr5_W, F_law14_ApsWritesr5_g5, F_law14_ApsWritesr5_g10, F_law14_ApsWritesc_W, lenI_sl, q]
theorem u64r_of {n : Int} (h : (Lit.int .u64 n).wf = true) : 0 ≤ n ∧ n < 18446744073709551616 := by
  simp [Lit.wf, IntKind.min, IntKind.max, IntKind.bits, IntKind.signed] at h
  omega
theorem i64r_of {n : Int} (h : (Lit.int .i64 n).wf = true) : isI64r n := by
  simp [Lit.wf, IntKind.min, IntKind.max, IntKind.bits, IntKind.signed] at h
  unfold isI64r
  omega
theorem u32r_of {n : Int} (h : (Lit.int .u32 n).wf = true) : 0 ≤ n ∧ n < 4294967296 := by
  simp [Lit.wf, IntKind.min, IntKind.max, IntKind.bits, IntKind.signed] at h
  omega
theorem okRels_of {l : List S_api_Rel} (h : ∀ s ∈ l, S_api_Rel.wf s) : okRels l := fun s hs => ⟨u64r_of (h s hs).1, u32r_of (h s hs).2.1, u32r_of (h s hs).2.2.1, i64r_of (h s hs).2.2.2.1⟩
end Go.Proofs.Ytdkdifjjpbfohaa
