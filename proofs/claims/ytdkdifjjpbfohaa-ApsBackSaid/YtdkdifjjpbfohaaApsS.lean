/- Groups of relocations: the same lists; the example. -/
import Derived.Test.YtdkdifjjpbfohaaApsO
namespace Go.Proofs.Ytdkdifjjpbfohaa
open Go Fw
set_option linter.unusedSimpArgs false
set_option linter.unusedVariables false
set_option linter.unusedSectionVars false

theorem rel_eq {a b : S_api_Rel} : cellsEq [0, 0, 0, 0, 1] [.int .u64 a.At, .int .u32 a.Typ, .int .u32 a.Sym, .int .i64 a.Add, .bool a.Has] [.int .u64 b.At, .int .u32 b.Typ, .int .u32 b.Sym, .int .i64 b.Add, .bool b.Has] = some (decide (a = b)) := by
  rcases a with ⟨a1, a2, a3, a4, a5⟩
  rcases b with ⟨b1, b2, b3, b4, b5⟩
  show some _ = some _
  congr 1
  simp only [S_api_Rel.mk.injEq]
  by_cases h1 : a1 = b1 <;> by_cases h2 : a2 = b2 <;> by_cases h3 : a3 = b3 <;> by_cases h4 : a4 = b4 <;> by_cases h5 : a5 = b5 <;> simp [h1, h2, h3, h4, h5]
/-- A value that is a list, in whatever frozen form. -/
def Src {α : Type} (E : Enc α) (v : Value) (l : List α) : Prop :=
  (∀ H, lenI H 1 v = some (.int .i64 l.length, H)) ∧ ∀ (i : Nat) (_ : i < l.length) (k : IntKind) (H : Heap), ixaI H E.u v (.int k i) = some (atI E l i, H)
theorem Src_sl {α : Type} {E : Enc α} {o : Option (List α)} : Src E (slV E o) (lst o) := ⟨fun _ => lenI_sl, fun i h k H => ix_sl rfl h k H⟩
theorem src_of {α : Type} {E : Enc α} {o : Option (List α)} {l : List α} (h : lst o = l) : Src E (slV E o) l := by subst h; exact Src_sl
section
variable {T : Tab} (l m : List S_api_Rel) (v w : Value) (hv : Src RelE v l) (hw : Src RelE w m) (hpv : pureV 6 v = true) (hpw : pureV 6 w = true) (hl : l.length ≤ 10000)
include hv hw hl
theorem loop_ref12_Same (hlm : l.length = m.length) : ∀ (k i : Nat) (H : Heap) (env : Env), i + k = l.length → l.take i = m.take i → env 0 = v → env 1 = w → env 5 = .int .i64 i →
    W T (.loop F_ref12_Samel0) env H fun x e _ => (x = .ret ∧ e 4 = .bool false ∧ l ≠ m) ∨ (x = .exit 0 ∧ l = m) := by
  intro k
  induction k with
  | zero =>
    intro i H env hi ht e0 e1 e5
    have : i = l.length := by omega
    subst this
    have q : ¬ ((l.length : Int) < l.length) := by omega
    rw [w_loop]
    simp only [fws, cond_true, cond_false, if_true, if_false, unV, isNil, optI, iV, stepI, evalR, reduceIte, reduceCtorEq, Nat.reduceEqDiff, Int.reduceLT, Int.reduceLE, Int.reduceToNat, Nat.reduceLT, Nat.reduceLeDiff, Int.reduceEq, Int.reduceNeg, IntKind.bits, Nat.reduceAdd, Nat.reduceMul, Nat.reducePow, Int.reducePow, ini, fwi, F_ref12_Samer0_W, F_ref12_Samer1_W, F_ref12_Samer2_W, F_ref12_Samer3_W, F_ref12_Samer4_W, F_ref12_Samer6_W, F_ref12_Samer7_W, F_ref12_Samer5_W, F_ref12_Samel0_W, F_ref12_Samer8_W, F_ref12_Samec_W, F_ref12_Samer0_W, F_ref12_Samer1_W, F_ref12_Samer2_W, F_ref12_Samer3_W, F_ref12_Samer4_W, F_ref12_Samer6_W, F_ref12_Samer7_W, F_ref12_Samer5_W, F_ref12_Samel0_W, F_ref12_Samer8_W, F_ref12_Samec_W, F_ref12_Samer0_W, F_ref12_Samer1_W, F_ref12_Samer2_W, F_ref12_Samer3_W, F_ref12_Samer4_W, F_ref12_Samer6_W, F_ref12_Samer7_W, F_ref12_Samer5_W, F_ref12_Samel0_W, F_ref12_Samer8_W, F_ref12_Samec_W, e0, e1, e5, hv.1, q]
    rw [List.take_length, hlm, List.take_length] at ht
    exact .inr ⟨trivial, ht⟩
  | succ k ih =>
    intro i H env hi ht e0 e1 e5
    have q : ((i : Int) < l.length) := by omega
    have hix : i < l.length := by omega
    have him : i < m.length := by omega
    have hx1 : ∀ H, ixaI H 5 v (.int .i64 i) = some (atI RelE l i, H) := fun H => hv.2 i hix .i64 H
    have hx2 : ∀ H, ixaI H 5 w (.int .i64 i) = some (atI RelE m i, H) := fun H => hw.2 i him .i64 H
    have hld1 : ∀ H, loadNI H 5 (atI RelE l i) = some (relA l[i], H) := fun H => loadNI_at rfl hix
    have hld2 : ∀ H, loadNI H 5 (atI RelE m i) = some (relA m[i], H) := fun H => loadNI_at rfl him
    have w2 : IntKind.i64.wrap ((i : Int) + 1) = ((i + 1 : Nat) : Int) := by rw [wrapI64 (by omega) (by omega)]; rfl
    have heq := rel_eq (a := l[i]) (b := m[i])
    by_cases he : l[i] = m[i]
    · rw [decide_eq_true he] at heq
      rw [w_loop]
      simp only [fws, cond_true, cond_false, if_true, if_false, unV, isNil, optI, iV, stepI, evalR, reduceIte, reduceCtorEq, Nat.reduceEqDiff, Int.reduceLT, Int.reduceLE, Int.reduceToNat, Nat.reduceLT, Nat.reduceLeDiff, Int.reduceEq, Int.reduceNeg, IntKind.bits, Nat.reduceAdd, Nat.reduceMul, Nat.reducePow, Int.reducePow, ini, fwh, lk, cellsAt, tagOf, spotOf, rdN, spl, fillL, zr, fwi, F_ref12_Samer0_W, F_ref12_Samer1_W, F_ref12_Samer2_W, F_ref12_Samer3_W, F_ref12_Samer4_W, F_ref12_Samer6_W, F_ref12_Samer7_W, F_ref12_Samer5_W, F_ref12_Samel0_W, F_ref12_Samer8_W, F_ref12_Samec_W, F_ref12_Samer0_W, F_ref12_Samer1_W, F_ref12_Samer2_W, F_ref12_Samer3_W, F_ref12_Samer4_W, F_ref12_Samer6_W, F_ref12_Samer7_W, F_ref12_Samer5_W, F_ref12_Samel0_W, F_ref12_Samer8_W, F_ref12_Samec_W, F_ref12_Samer0_W, F_ref12_Samer1_W, F_ref12_Samer2_W, F_ref12_Samer3_W, F_ref12_Samer4_W, F_ref12_Samer6_W, F_ref12_Samer7_W, F_ref12_Samer5_W, F_ref12_Samel0_W, F_ref12_Samer8_W, F_ref12_Samec_W, e0, e1, e5, hv.1, q, hx1, hx2, hld1, hld2, heq, w2]
      refine ih (i + 1) _ _ (by omega) ?_ ?_ ?_ ?_
      · rw [List.take_add_one, List.take_add_one, ht, List.getElem?_eq_getElem hix, List.getElem?_eq_getElem him, he]
      all_goals (first | assumption | rfl)
    · rw [decide_eq_false he] at heq
      rw [w_loop]
      simp only [fws, cond_true, cond_false, if_true, if_false, unV, isNil, optI, iV, stepI, evalR, reduceIte, reduceCtorEq, Nat.reduceEqDiff, Int.reduceLT, Int.reduceLE, Int.reduceToNat, Nat.reduceLT, Nat.reduceLeDiff, Int.reduceEq, Int.reduceNeg, IntKind.bits, Nat.reduceAdd, Nat.reduceMul, Nat.reducePow, Int.reducePow, ini, fwh, lk, cellsAt, tagOf, spotOf, rdN, spl, fillL, zr, fwi, F_ref12_Samer0_W, F_ref12_Samer1_W, F_ref12_Samer2_W, F_ref12_Samer3_W, F_ref12_Samer4_W, F_ref12_Samer6_W, F_ref12_Samer7_W, F_ref12_Samer5_W, F_ref12_Samel0_W, F_ref12_Samer8_W, F_ref12_Samec_W, F_ref12_Samer0_W, F_ref12_Samer1_W, F_ref12_Samer2_W, F_ref12_Samer3_W, F_ref12_Samer4_W, F_ref12_Samer6_W, F_ref12_Samer7_W, F_ref12_Samer5_W, F_ref12_Samel0_W, F_ref12_Samer8_W, F_ref12_Samec_W, F_ref12_Samer0_W, F_ref12_Samer1_W, F_ref12_Samer2_W, F_ref12_Samer3_W, F_ref12_Samer4_W, F_ref12_Samer6_W, F_ref12_Samer7_W, F_ref12_Samer5_W, F_ref12_Samel0_W, F_ref12_Samer8_W, F_ref12_Samec_W, e0, e1, e5, hv.1, q, hx1, hx2, hld1, hld2, heq, w2]
      refine .inl ⟨trivial, trivial, fun h => he ?_⟩
      subst h; rfl
theorem f_ref12_Same (h : T 27 = some F_ref12_Same) (hpv : pureV 6 v = true) (hpw : pureV 6 w = true) : FnV T 27 [v, w] (.bool (decide (l = m))) := by
  refine FnV_of (by simp [hpv, hpw]) ?_
  rw [Ev_fn h rfl]
  by_cases hlm : l.length = m.length
  · have q : ((l.length : Int) = m.length) := by omega
    simp only [F_ref12_Same, fws, cond_true, cond_false, if_true, if_false, unV, isNil, optI, iV, stepI, evalR, reduceIte, reduceCtorEq, Nat.reduceEqDiff, Int.reduceLT, Int.reduceLE, Int.reduceToNat, Nat.reduceLT, Nat.reduceLeDiff, Int.reduceEq, Int.reduceNeg, IntKind.bits, Nat.reduceAdd, Nat.reduceMul, Nat.reducePow, Int.reducePow, ini, fwi, F_ref12_Samer0_W, F_ref12_Samer1_W, F_ref12_Samer2_W, F_ref12_Samer3_W, F_ref12_Samer4_W, F_ref12_Samer6_W, F_ref12_Samer7_W, F_ref12_Samer5_W, F_ref12_Samel0_W, F_ref12_Samer8_W, F_ref12_Samec_W, F_ref12_Samer0_W, F_ref12_Samer1_W, F_ref12_Samer2_W, F_ref12_Samer3_W, F_ref12_Samer4_W, F_ref12_Samer6_W, F_ref12_Samer7_W, F_ref12_Samer5_W, F_ref12_Samel0_W, F_ref12_Samer8_W, F_ref12_Samec_W, F_ref12_Samer0_W, F_ref12_Samer1_W, F_ref12_Samer2_W, F_ref12_Samer3_W, F_ref12_Samer4_W, F_ref12_Samer6_W, F_ref12_Samer7_W, F_ref12_Samer5_W, F_ref12_Samel0_W, F_ref12_Samer8_W, F_ref12_Samec_W, hv.1, hw.1, q]
    refine W.mono (loop_ref12_Same l m v w hv hw hl hlm l.length 0 [] _ (Nat.zero_add _) rfl ?_ ?_ ?_) fun x e h hq => ?_
    · (first | assumption | rfl)
    · (first | assumption | rfl)
    · (first | assumption | rfl)
    rcases hq with ⟨rfl, g1, g2⟩ | ⟨rfl, g1⟩
    · simp only [fws, cond_true, cond_false, if_true, if_false, unV, isNil, optI, iV, stepI, evalR, reduceIte, reduceCtorEq, Nat.reduceEqDiff, Int.reduceLT, Int.reduceLE, Int.reduceToNat, Nat.reduceLT, Nat.reduceLeDiff, Int.reduceEq, Int.reduceNeg, IntKind.bits, Nat.reduceAdd, Nat.reduceMul, Nat.reducePow, Int.reducePow, ini, F_ref12_Samer0_W, F_ref12_Samer1_W, F_ref12_Samer2_W, F_ref12_Samer3_W, F_ref12_Samer4_W, F_ref12_Samer6_W, F_ref12_Samer7_W, F_ref12_Samer5_W, F_ref12_Samel0_W, F_ref12_Samer8_W, F_ref12_Samec_W, F_ref12_Samer0_W, F_ref12_Samer1_W, F_ref12_Samer2_W, F_ref12_Samer3_W, F_ref12_Samer4_W, F_ref12_Samer6_W, F_ref12_Samer7_W, F_ref12_Samer5_W, F_ref12_Samel0_W, F_ref12_Samer8_W, F_ref12_Samec_W, F_ref12_Samer0_W, F_ref12_Samer1_W, F_ref12_Samer2_W, F_ref12_Samer3_W, F_ref12_Samer4_W, F_ref12_Samer6_W, F_ref12_Samer7_W, F_ref12_Samer5_W, F_ref12_Samel0_W, F_ref12_Samer8_W, F_ref12_Samec_W, g1, decide_eq_false g2]
      rfl
    · simp only [fws, cond_true, cond_false, if_true, if_false, unV, isNil, optI, iV, stepI, evalR, reduceIte, reduceCtorEq, Nat.reduceEqDiff, Int.reduceLT, Int.reduceLE, Int.reduceToNat, Nat.reduceLT, Nat.reduceLeDiff, Int.reduceEq, Int.reduceNeg, IntKind.bits, Nat.reduceAdd, Nat.reduceMul, Nat.reducePow, Int.reducePow, ini, F_ref12_Samer0_W, F_ref12_Samer1_W, F_ref12_Samer2_W, F_ref12_Samer3_W, F_ref12_Samer4_W, F_ref12_Samer6_W, F_ref12_Samer7_W, F_ref12_Samer5_W, F_ref12_Samel0_W, F_ref12_Samer8_W, F_ref12_Samec_W, F_ref12_Samer0_W, F_ref12_Samer1_W, F_ref12_Samer2_W, F_ref12_Samer3_W, F_ref12_Samer4_W, F_ref12_Samer6_W, F_ref12_Samer7_W, F_ref12_Samer5_W, F_ref12_Samel0_W, F_ref12_Samer8_W, F_ref12_Samec_W, F_ref12_Samer0_W, F_ref12_Samer1_W, F_ref12_Samer2_W, F_ref12_Samer3_W, F_ref12_Samer4_W, F_ref12_Samer6_W, F_ref12_Samer7_W, F_ref12_Samer5_W, F_ref12_Samel0_W, F_ref12_Samer8_W, F_ref12_Samec_W, decide_eq_true g1]
      rfl
  · have q : ¬ ((l.length : Int) = m.length) := by omega
    have hne : ¬ l = m := fun h => hlm (by rw [h])
    simp only [F_ref12_Same, fws, cond_true, cond_false, if_true, if_false, unV, isNil, optI, iV, stepI, evalR, reduceIte, reduceCtorEq, Nat.reduceEqDiff, Int.reduceLT, Int.reduceLE, Int.reduceToNat, Nat.reduceLT, Nat.reduceLeDiff, Int.reduceEq, Int.reduceNeg, IntKind.bits, Nat.reduceAdd, Nat.reduceMul, Nat.reducePow, Int.reducePow, ini, fwi, F_ref12_Samer0_W, F_ref12_Samer1_W, F_ref12_Samer2_W, F_ref12_Samer3_W, F_ref12_Samer4_W, F_ref12_Samer6_W, F_ref12_Samer7_W, F_ref12_Samer5_W, F_ref12_Samel0_W, F_ref12_Samer8_W, F_ref12_Samec_W, F_ref12_Samer0_W, F_ref12_Samer1_W, F_ref12_Samer2_W, F_ref12_Samer3_W, F_ref12_Samer4_W, F_ref12_Samer6_W, F_ref12_Samer7_W, F_ref12_Samer5_W, F_ref12_Samel0_W, F_ref12_Samer8_W, F_ref12_Samec_W, F_ref12_Samer0_W, F_ref12_Samer1_W, F_ref12_Samer2_W, F_ref12_Samer3_W, F_ref12_Samer4_W, F_ref12_Samer6_W, F_ref12_Samer7_W, F_ref12_Samer5_W, F_ref12_Samel0_W, F_ref12_Samer8_W, F_ref12_Samec_W, hv.1, hw.1, q, decide_eq_false hne]
    rfl
end

theorem aps_enc1 : FnV TAps 29 [immV 1 [.int .u64 16, .int .u32 8, .int .u32 0, .int .i64 3, .bool true], .bool true] (.tuple #[immV 11 [.int .u8 65, .int .u8 80, .int .u8 83, .int .u8 50, .int .u8 1, .int .u8 0, .int .u8 1, .int .u8 9, .int .u8 8, .int .u8 16, .int .u8 3], .int .i64 0]) := FnV_run 400 rfl (by kernel_rfl)
theorem apsC1 : apsC false [65, 80, 83, 50, 2, 0, 2, 3, 8, 6, 0] = 140 := by kernel_rfl
theorem apsL1 : apsL false [65, 80, 83, 50, 2, 0, 2, 3, 8, 6, 0] = [] := by kernel_rfl
theorem aps_alive : FnV TAps 28 [] (.bool true) := by
  refine FnV_of rfl ?_
  rw [Ev_fn rfl rfl]
  obtain ⟨x, px, cx⟩ := f_aps_Decode (T := TAps) rfl rfl rfl rfl rfl rfl rfl rfl (some [65, 80, 83, 50, 2, 0, 2, 3, 8, 6, 0]) (by decide) false
  obtain ⟨y, py, cy⟩ := f_aps_Decode (T := TAps) rfl rfl rfl rfl rfl rfl rfl rfl none (by decide) true
  have px : lst x = [] := px.trans apsL1
  have hc : apsC false (lst (some [65, 80, 83, 50, 2, 0, 2, 3, 8, 6, 0])) = 140 := apsC1
  rw [hc] at cx
  have cx : FnV TAps 25 [immV 11 [.int .u8 65, .int .u8 80, .int .u8 83, .int .u8 50, .int .u8 2, .int .u8 0, .int .u8 2, .int .u8 3, .int .u8 8, .int .u8 6, .int .u8 0], .bool false] (.tuple #[slV RelE x, .int .i64 140]) := cx
  have cy : FnV TAps 25 [.slice none 0 0, .bool true] (.tuple #[slV RelE y, .int .i64 140]) := cy
  have lx : ∀ H, lenI H 1 (slV RelE x) = some (.int .i64 0, H) := fun H => by have := lenI_sl (E := RelE) (o := x) (H := H); rwa [px] at this
  have ce := aps_enc1
  obtain ⟨H', hcv⟩ : ∃ H', (cvslI [⟨0, .cells false 1 [.int .u8 65, .int .u8 80, .int .u8 83, .int .u8 50, .int .u8 2, .int .u8 0, .int .u8 2, .int .u8 3, .int .u8 8, .int .u8 6, .int .u8 0]⟩] (.slice (some ⟨0, 0, none⟩) 11 11)).bind (fun r => fzV r.2 r.1) = some (immV 11 [.int .u8 65, .int .u8 80, .int .u8 83, .int .u8 50, .int .u8 2, .int .u8 0, .int .u8 2, .int .u8 3, .int .u8 8, .int .u8 6, .int .u8 0], H') := ⟨_, rfl⟩
  have hb : ∀ H, b2sI H (immV 11 [.int .u8 65, .int .u8 80, .int .u8 83, .int .u8 50, .int .u8 1, .int .u8 0, .int .u8 1, .int .u8 9, .int .u8 8, .int .u8 16, .int .u8 3]) = some (.string ⟨#[65, 80, 83, 50, 1, 0, 1, 9, 8, 16, 3]⟩, H) := fun H => rfl
  have hq : strEq ⟨#[65, 80, 83, 50, 1, 0, 1, 9, 8, 16, 3]⟩ ⟨#[65, 80, 83, 50, 1, 0, 1, 9, 8, 16, 3]⟩ = true := rfl
  simp only [F_law14_alive, fws, cond_true, cond_false, if_true, if_false, unV, isNil, optI, iV, stepI, evalR, reduceIte, reduceCtorEq, Nat.reduceEqDiff, Int.reduceLT, Int.reduceLE, Int.reduceToNat, Nat.reduceLT, Nat.reduceLeDiff, Int.reduceEq, Int.reduceNeg, IntKind.bits, Nat.reduceAdd, Nat.reduceMul, Nat.reducePow, Int.reducePow, ini, fwh, lk, cellsAt, tagOf, spotOf, rdN, spl, fillL, zr, fwi, F_law14_aliver0_W, F_law14_aliver1_W, F_law14_aliver2_W, F_law14_aliver3_W, F_law14_aliver4_W, F_law14_aliver4_g2, F_law14_aliver4_g7, F_law14_aliver4_g11, F_law14_aliver4_g16, F_law14_alivec_W, F_law14_aliver0_W, F_law14_aliver1_W, F_law14_aliver2_W, F_law14_aliver3_W, F_law14_aliver4_W, F_law14_aliver4_g2, F_law14_aliver4_g7, F_law14_aliver4_g11, F_law14_aliver4_g16, F_law14_alivec_W, CC_of ce, CC_of cx, CC_of cy, lx, hcv, hb, hq, List.getElem?_toArray]
  rfl
theorem allS_len {rela : Bool} {many : Nat} : ∀ (n : Nat) (g g' : GS), g.out.length ≤ many → allS rela many n g = some g' → g'.out.length ≤ many
  | 0, g, g', hg, h => by cases h; exact hg
  | n + 1, g, g', hg, h => by
    rw [allS] at h
    split at h
    · cases hgr : grpS rela ((many : Int) - g.out.length) g with
      | none => rw [hgr] at h; cases h
      | some g2 =>
        rw [hgr] at h
        obtain ⟨_, h2, _⟩ := grpS_len hgr
        exact allS_len n g2 g' (by omega) h
    · cases h; exact hg
theorem apsL_len (rela : Bool) (b : List UInt8) : (apsL rela b).length ≤ 512 := by
  unfold apsL
  cases h : apsD rela b with
  | none => simp
  | some l =>
    show l.length ≤ 512
    unfold apsD at h
    split at h
    · cases h
    · simp only at h
      split at h
      · cases h
      · rename_i hb
        cases ha : allS rela (tk ⟨(nums (b.drop 4).length (b.drop 4)).1, false⟩).2.toNat 513 ⟨(tk (tk ⟨(nums (b.drop 4).length (b.drop 4)).1, false⟩).1).1, (tk (tk ⟨(nums (b.drop 4).length (b.drop 4)).1, false⟩).1).2, 0, []⟩ with
        | none => rw [ha] at h; cases h
        | some g =>
          rw [ha] at h
          have hl := allS_len _ _ _ (Nat.zero_le _) ha
          have h : (if g.s.N = [] ∧ (nums (b.drop 4).length (b.drop 4)).2 = true then some g.out else none) = some l := h
          split at h
          · cases h; omega
          · cases h
end Go.Proofs.Ytdkdifjjpbfohaa
