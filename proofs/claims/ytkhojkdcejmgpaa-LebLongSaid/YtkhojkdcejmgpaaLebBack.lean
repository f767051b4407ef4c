/- LebBack and LebLong: what is put is read; in more groups too. -/
import Derived.Test.YtkhojkdcejmgpaaFw25
import Derived.Test.YtkhojkdcejmgpaaLebPure
namespace Go.Proofs.Ytkhojkdcejmgpaa
open Go Fw
set_option linter.unusedSimpArgs false
set_option linter.unusedVariables false

def u64N (n : Int) : Nat := (n % 18446744073709551616).toNat
theorem u64N_lt (n : Int) : u64N n < 18446744073709551616 := by unfold u64N; omega
theorem u64N_wrap (n : Int) : IntKind.u64.wrap n = (u64N n : Int) := by rw [wrap_u64]; unfold u64N; omega
/-- All numbers, each with a sign and without. -/
def putAll (l : List Int) : List UInt8 := l.flatMap fun n => putS 10 n ++ putU 10 (u64N n)
theorem putAll_len (l : List Int) : (putAll l).length ≤ 20 * l.length := by
  induction l with
  | nil => simp [putAll]
  | cons n l ih =>
    have h1 := putS_len 10 n
    have h2 := putU_len 10 (u64N n)
    simp only [putAll, List.flatMap_cons, List.length_append, List.length_cons] at ih ⊢
    omega
theorem putAll_app (a b : List Int) : putAll (a ++ b) = putAll a ++ putAll b := by unfold putAll; exact List.flatMap_append
theorem putAll_one (n : Int) (l : List Int) : putAll (n :: l) = putS 10 n ++ (putU 10 (u64N n) ++ putAll l) := by simp only [putAll, List.flatMap_cons, List.append_assoc]
theorem putAll_take {l : List Int} {i : Nat} (h : i < l.length) : putAll (l.take (i + 1)) = putAll (l.take i) ++ putS 10 l[i] ++ putU 10 (u64N l[i]) := by
  rw [List.take_add_one, List.getElem?_eq_getElem h, putAll_app]
  show _ ++ putAll [l[i]] = _
  rw [putAll_one, List.append_assoc]
  simp only [putAll, List.flatMap_nil, List.append_nil]
theorem putAll_split {l : List Int} {i : Nat} (h : i < l.length) : (putAll l).drop (putAll (l.take i)).length = putS 10 l[i] ++ (putU 10 (u64N l[i]) ++ putAll (l.drop (i + 1))) := by
  have e : putAll l = putAll (l.take i) ++ (putS 10 l[i] ++ (putU 10 (u64N l[i]) ++ putAll (l.drop (i + 1)))) := by
    rw [← putAll_one, ← List.drop_eq_getElem_cons h, ← putAll_app, List.take_append_drop]
  conv => lhs; rw [e]
  rw [List.drop_left]
theorem putAll_split' {l : List Int} {i : Nat} (h : i < l.length) : (putAll l).drop ((putAll (l.take i)).length + (putS 10 l[i]).length) = putU 10 (u64N l[i]) ++ putAll (l.drop (i + 1)) := by
  rw [← List.drop_drop, putAll_split h, List.drop_left]

/-- A reader that lies behind all others. -/
theorem ev_S_end (G : Heap) (l : List UInt8) (hl : l.length < 9223372036854775000) {at_ : Nat} (ha : at_ ≤ l.length) {n : Int} {m : Nat} (hx : sR (l.drop at_) = (n, m, 0)) :
    Ev TLeb 37 [.pointer (some ⟨G.length, 0, none⟩)] (G ++ [ro l at_ 0]) fun v h' => v = .int .i64 n ∧ h' = G ++ [ro l (at_ + m) 0] := by
  have h := ev_leb_S (T := TLeb) rfl rfl (G ++ [ro l at_ 0]) G.length (by simp) l hl ha 0
  simp only [ne_eq, not_true_eq_false, if_false, List.set_append_right _ _ (Nat.le_refl _), Nat.sub_self, List.set_cons_zero, hx] at h
  exact h
theorem ev_U_end (G : Heap) (l : List UInt8) (hl : l.length < 9223372036854775000) {at_ : Nat} (ha : at_ ≤ l.length) {n : Nat} {m : Nat} (hx : uR (l.drop at_) = (n, m, 0)) :
    Ev TLeb 39 [.pointer (some ⟨G.length, 0, none⟩)] (G ++ [ro l at_ 0]) fun v h' => v = .int .u64 n ∧ h' = G ++ [ro l (at_ + m) 0] := by
  have h := ev_leb_U (T := TLeb) rfl rfl (G ++ [ro l at_ 0]) G.length (by simp) l hl ha 0
  simp only [ne_eq, not_true_eq_false, if_false, List.set_append_right _ _ (Nat.le_refl _), Nat.sub_self, List.set_cons_zero, hx] at h
  exact h
theorem ev_Fail_end (G : Heap) (l : List UInt8) (at_ : Nat) :
    Ev TLeb 40 [.pointer (some ⟨G.length, 0, none⟩)] (G ++ [ro l at_ 0]) fun v h' => v = .int .i64 0 ∧ h' = G ++ [ro l at_ 0] := by
  have h := ev_leb_Fail (T := TLeb) rfl (G ++ [ro l at_ 0]) G.length (by simp) l at_ 0
  simp only [List.set_append_right _ _ (Nat.le_refl _), Nat.sub_self, List.set_cons_zero] at h
  exact h
theorem ev_Left_end (G : Heap) (l : List UInt8) (hl : l.length < 9223372036854775000) :
    Ev TLeb 41 [.pointer (some ⟨G.length, 0, none⟩)] (G ++ [ro l l.length 0]) fun v h' => v = .int .i64 0 ∧ h' = G ++ [ro l l.length 0] := by
  have h := ev_leb_Left (T := TLeb) rfl (G ++ [ro l l.length 0]) G.length (by simp) l hl (Nat.le_refl _) 0
  simp only [List.set_append_right _ _ (Nat.le_refl _), Nat.sub_self, List.set_cons_zero, ne_eq, not_true_eq_false, if_false] at h
  exact h

theorem loop_LebBack0 (o : Option (List Int)) (hl : (lst o).length ≤ 200) (hw : ∀ n ∈ lst o, isI64 n) : ∀ (m i : Nat) (v : Value) (H : Heap) (env : Env), i + m = (lst o).length → env 0 = slV (intE .i64) o → env 4 = .int .i64 i → env 3 = v → Acc byteE [] v H (putAll ((lst o).take i)) →
    W TLeb (.loop F_law03_LebBackl0) env H fun x e h => x = .exit 0 ∧ e 0 = slV (intE .i64) o ∧ Acc byteE [] (e 3) h (putAll (lst o)) := by
  intro m
  induction m with
  | zero =>
    intro i v H env hi v0 v4 v3 ha
    have h1 : ¬ ((i : Int) < (lst o).length) := by omega
    rw [List.take_of_length_le (by omega)] at ha
    rw [w_loop]
    simp only [fws, cond_true, cond_false, if_true, if_false, unV, isNil, optI, iV, stepI, evalR, reduceIte, reduceCtorEq, Nat.reduceEqDiff, Int.reduceLT, Int.reduceLE, Int.reduceToNat, Nat.reduceLT, Nat.reduceLeDiff, Int.reduceEq, Int.reduceNeg, IntKind.bits, Nat.reduceAdd, Nat.reduceMul, Nat.reducePow, Int.reducePow, ini, F_law03_LebBackr0_W, F_law03_LebBackr1_W, F_law03_LebBackr2_W, F_law03_LebBackr3_W, F_law03_LebBackr4_W, F_law03_LebBackr5_W, F_law03_LebBackr7_W, F_law03_LebBackr8_W, F_law03_LebBackr6_W, F_law03_LebBackl0_W, F_law03_LebBackr9_W, F_law03_LebBackr10_W, F_law03_LebBackr11_W, F_law03_LebBackr12_W, F_law03_LebBackr13_W, F_law03_LebBackr15_g7, F_law03_LebBackr15_W, F_law03_LebBackr15_len, F_law03_LebBackr15_i5, F_law03_LebBackr15_i13, F_law03_LebBackr16_W, F_law03_LebBackr14_W, F_law03_LebBackl1_W, F_law03_LebBackr17_W, F_law03_LebBackr17_g3, F_law03_LebBackr17_g8, F_law03_LebBackc_W, v0, v4, v3, lenI_sl, h1]
    exact ⟨trivial, trivial, ha⟩
  | succ m ih =>
    intro i v H env hi v0 v4 v3 ha
    have h1 : ((i : Int) < (lst o).length) := by omega
    have hix : i < (lst o).length := by omega
    have hx := fun H => ix_sl (E := intE .i64) (n := 1) rfl hix .i64 H
    have w2 : IntKind.i64.wrap ((i : Int) + 1) = ((i + 1 : Nat) : Int) := by rw [wrapI64 (by omega) (by omega)]; rfl
    have hn := hw _ (List.getElem_mem hix)
    have hlen := putAll_len ((lst o).take i)
    rw [List.length_take] at hlen
    have hm : min i (lst o).length ≤ 200 := by omega
    have s1 := putS_len 10 (lst o)[i]
    have s2 := putU_len 10 (u64N (lst o)[i])
    obtain ⟨v1, H1, a1, a2⟩ := ha.app (m := putS 10 (lst o)[i]) (n := 1) (eb := 1) rfl rfl (by omega)
    obtain ⟨v2, H2, a3, a4⟩ := a2.app (m := putU 10 (u64N (lst o)[i])) (n := 1) (eb := 1) rfl rfl (by rw [List.length_append]; omega)
    rw [w_loop]
    simp only [fws, cond_true, cond_false, if_true, if_false, unV, isNil, optI, iV, stepI, evalR, reduceIte, reduceCtorEq, Nat.reduceEqDiff, Int.reduceLT, Int.reduceLE, Int.reduceToNat, Nat.reduceLT, Nat.reduceLeDiff, Int.reduceEq, Int.reduceNeg, IntKind.bits, Nat.reduceAdd, Nat.reduceMul, Nat.reducePow, Int.reducePow, ini, fwh, lk, cellsAt, tagOf, spotOf, rdN, spl, fillL, zr, fwi, F_law03_LebBackr0_W, F_law03_LebBackr1_W, F_law03_LebBackr2_W, F_law03_LebBackr3_W, F_law03_LebBackr4_W, F_law03_LebBackr5_W, F_law03_LebBackr7_W, F_law03_LebBackr8_W, F_law03_LebBackr6_W, F_law03_LebBackl0_W, F_law03_LebBackr9_W, F_law03_LebBackr10_W, F_law03_LebBackr11_W, F_law03_LebBackr12_W, F_law03_LebBackr13_W, F_law03_LebBackr15_g7, F_law03_LebBackr15_W, F_law03_LebBackr15_len, F_law03_LebBackr15_i5, F_law03_LebBackr15_i13, F_law03_LebBackr16_W, F_law03_LebBackr14_W, F_law03_LebBackl1_W, F_law03_LebBackr17_W, F_law03_LebBackr17_g3, F_law03_LebBackr17_g8, F_law03_LebBackc_W, v0, v4, v3, lenI_sl, h1, hx, at_cons hix, CC_of (f_leb_PutS (T := TLeb) rfl hn.1 hn.2), a1, srcOf_imm, u64N_wrap, CC_of (f_leb_PutU (T := TLeb) rfl (u64N_lt _)), a3, w2]
    refine W.mono (ih (i + 1) v2 H2 _ (by omega) ?_ ?_ ?_ ?_) fun _ _ _ h => h
    · (first | (simp only [fws, cond_true, cond_false, if_true, if_false, unV, isNil, optI, iV, stepI, evalR, reduceIte, reduceCtorEq, Nat.reduceEqDiff, Int.reduceLT, Int.reduceLE, Int.reduceToNat, Nat.reduceLT, Nat.reduceLeDiff, Int.reduceEq, Int.reduceNeg, IntKind.bits, Nat.reduceAdd, Nat.reduceMul, Nat.reducePow, Int.reducePow, ini, *]; done) | (simp only [fws, cond_true, cond_false, if_true, if_false, unV, isNil, optI, iV, stepI, evalR, reduceIte, reduceCtorEq, Nat.reduceEqDiff, Int.reduceLT, Int.reduceLE, Int.reduceToNat, Nat.reduceLT, Nat.reduceLeDiff, Int.reduceEq, Int.reduceNeg, IntKind.bits, Nat.reduceAdd, Nat.reduceMul, Nat.reducePow, Int.reducePow, ini]; rfl))
    · (first | (simp only [fws, cond_true, cond_false, if_true, if_false, unV, isNil, optI, iV, stepI, evalR, reduceIte, reduceCtorEq, Nat.reduceEqDiff, Int.reduceLT, Int.reduceLE, Int.reduceToNat, Nat.reduceLT, Nat.reduceLeDiff, Int.reduceEq, Int.reduceNeg, IntKind.bits, Nat.reduceAdd, Nat.reduceMul, Nat.reducePow, Int.reducePow, ini, *]; done) | (simp only [fws, cond_true, cond_false, if_true, if_false, unV, isNil, optI, iV, stepI, evalR, reduceIte, reduceCtorEq, Nat.reduceEqDiff, Int.reduceLT, Int.reduceLE, Int.reduceToNat, Nat.reduceLT, Nat.reduceLeDiff, Int.reduceEq, Int.reduceNeg, IntKind.bits, Nat.reduceAdd, Nat.reduceMul, Nat.reducePow, Int.reducePow, ini]; rfl))
    · (first | (simp only [fws, cond_true, cond_false, if_true, if_false, unV, isNil, optI, iV, stepI, evalR, reduceIte, reduceCtorEq, Nat.reduceEqDiff, Int.reduceLT, Int.reduceLE, Int.reduceToNat, Nat.reduceLT, Nat.reduceLeDiff, Int.reduceEq, Int.reduceNeg, IntKind.bits, Nat.reduceAdd, Nat.reduceMul, Nat.reducePow, Int.reducePow, ini, *]; done) | (simp only [fws, cond_true, cond_false, if_true, if_false, unV, isNil, optI, iV, stepI, evalR, reduceIte, reduceCtorEq, Nat.reduceEqDiff, Int.reduceLT, Int.reduceLE, Int.reduceToNat, Nat.reduceLT, Nat.reduceLeDiff, Int.reduceEq, Int.reduceNeg, IntKind.bits, Nat.reduceAdd, Nat.reduceMul, Nat.reducePow, Int.reducePow, ini]; rfl))
    · rw [putAll_take hix]; exact a4

theorem loop_LebBack1 (o : Option (List Int)) (hl : (lst o).length ≤ 200) (hw : ∀ n ∈ lst o, isI64 n) (G : Heap) : ∀ (m i : Nat) (env : Env), i + m = (lst o).length → env 0 = slV (intE .i64) o → env 5 = .pointer (some ⟨G.length, 0, none⟩) → env 6 = .int .i64 i →
    W TLeb (.loop F_law03_LebBackl1) env (G ++ [ro (putAll (lst o)) (putAll ((lst o).take i)).length 0]) fun x e h => x = .exit 2 ∧ e 5 = .pointer (some ⟨G.length, 0, none⟩) ∧ h = G ++ [ro (putAll (lst o)) (putAll (lst o)).length 0] := by
  intro m
  induction m with
  | zero =>
    intro i env hi v0 v5 v6
    have h1 : ¬ ((i : Int) < (lst o).length) := by omega
    rw [List.take_of_length_le (by omega), w_loop]
    simp only [fws, cond_true, cond_false, if_true, if_false, unV, isNil, optI, iV, stepI, evalR, reduceIte, reduceCtorEq, Nat.reduceEqDiff, Int.reduceLT, Int.reduceLE, Int.reduceToNat, Nat.reduceLT, Nat.reduceLeDiff, Int.reduceEq, Int.reduceNeg, IntKind.bits, Nat.reduceAdd, Nat.reduceMul, Nat.reducePow, Int.reducePow, ini, F_law03_LebBackr0_W, F_law03_LebBackr1_W, F_law03_LebBackr2_W, F_law03_LebBackr3_W, F_law03_LebBackr4_W, F_law03_LebBackr5_W, F_law03_LebBackr7_W, F_law03_LebBackr8_W, F_law03_LebBackr6_W, F_law03_LebBackl0_W, F_law03_LebBackr9_W, F_law03_LebBackr10_W, F_law03_LebBackr11_W, F_law03_LebBackr12_W, F_law03_LebBackr13_W, F_law03_LebBackr15_g7, F_law03_LebBackr15_W, F_law03_LebBackr15_len, F_law03_LebBackr15_i5, F_law03_LebBackr15_i13, F_law03_LebBackr16_W, F_law03_LebBackr14_W, F_law03_LebBackl1_W, F_law03_LebBackr17_W, F_law03_LebBackr17_g3, F_law03_LebBackr17_g8, F_law03_LebBackc_W, v0, v5, v6, lenI_sl, h1, and_self]
  | succ m ih =>
    intro i env hi v0 v5 v6
    have h1 : ((i : Int) < (lst o).length) := by omega
    have hix : i < (lst o).length := by omega
    have hx := fun H => ix_sl (E := intE .i64) (n := 1) rfl hix .i64 H
    have w2 : IntKind.i64.wrap ((i : Int) + 1) = ((i + 1 : Nat) : Int) := by rw [wrapI64 (by omega) (by omega)]; rfl
    have hn := hw _ (List.getElem_mem hix)
    have hlen := putAll_len (lst o)
    have e1 := putAll_split hix
    have e2 := putAll_split' hix
    have e3 : (putAll ((lst o).take (i + 1))).length = (putAll ((lst o).take i)).length + (putS 10 (lst o)[i]).length + (putU 10 (u64N (lst o)[i])).length := by rw [putAll_take hix, List.length_append, List.length_append]
    have e4 : (putAll ((lst o).take (i + 1))).length + (putAll ((lst o).drop (i + 1))).length = (putAll (lst o)).length := by
      rw [← List.length_append, ← putAll_app, List.take_append_drop]
    have c1 := ev_S_end G (putAll (lst o)) (by omega) (at_ := (putAll ((lst o).take i)).length) (by omega) (by rw [e1]; exact sR_put hn _)
    have c2 := ev_U_end G (putAll (lst o)) (by omega) (at_ := (putAll ((lst o).take i)).length + (putS 10 (lst o)[i]).length) (by omega) (by rw [e2]; exact uR_put (u64N_lt _) _)
    rw [w_loop]
    simp only [fws, cond_true, cond_false, if_true, if_false, unV, isNil, optI, iV, stepI, evalR, reduceIte, reduceCtorEq, Nat.reduceEqDiff, Int.reduceLT, Int.reduceLE, Int.reduceToNat, Nat.reduceLT, Nat.reduceLeDiff, Int.reduceEq, Int.reduceNeg, IntKind.bits, Nat.reduceAdd, Nat.reduceMul, Nat.reducePow, Int.reducePow, ini, fwh, lk, cellsAt, tagOf, spotOf, rdN, spl, fillL, zr, fwi, F_law03_LebBackr0_W, F_law03_LebBackr1_W, F_law03_LebBackr2_W, F_law03_LebBackr3_W, F_law03_LebBackr4_W, F_law03_LebBackr5_W, F_law03_LebBackr7_W, F_law03_LebBackr8_W, F_law03_LebBackr6_W, F_law03_LebBackl0_W, F_law03_LebBackr9_W, F_law03_LebBackr10_W, F_law03_LebBackr11_W, F_law03_LebBackr12_W, F_law03_LebBackr13_W, F_law03_LebBackr15_g7, F_law03_LebBackr15_W, F_law03_LebBackr15_len, F_law03_LebBackr15_i5, F_law03_LebBackr15_i13, F_law03_LebBackr16_W, F_law03_LebBackr14_W, F_law03_LebBackl1_W, F_law03_LebBackr17_W, F_law03_LebBackr17_g3, F_law03_LebBackr17_g8, F_law03_LebBackc_W, v0, v5, v6, lenI_sl, h1, Ev_det c1, hx, at_cons hix, Ev_det c2, u64N_wrap, w2]
    refine WR_nilT rfl (by decide) ⟨fun c hc => ?_, ?_⟩
    · simp only [List.mem_cons, List.not_mem_nil, or_false] at hc
      rcases hc with rfl | rfl <;> exact fun _ => rfl
    · simp only [fws, cond_true, cond_false, if_true, if_false, unV, isNil, optI, iV, stepI, evalR, reduceIte, reduceCtorEq, Nat.reduceEqDiff, Int.reduceLT, Int.reduceLE, Int.reduceToNat, Nat.reduceLT, Nat.reduceLeDiff, Int.reduceEq, Int.reduceNeg, IntKind.bits, Nat.reduceAdd, Nat.reduceMul, Nat.reducePow, Int.reducePow, ini, fwh, lk, cellsAt, tagOf, spotOf, rdN, spl, fillL, zr, fwi, F_law03_LebBackr0_W, F_law03_LebBackr1_W, F_law03_LebBackr2_W, F_law03_LebBackr3_W, F_law03_LebBackr4_W, F_law03_LebBackr5_W, F_law03_LebBackr7_W, F_law03_LebBackr8_W, F_law03_LebBackr6_W, F_law03_LebBackl0_W, F_law03_LebBackr9_W, F_law03_LebBackr10_W, F_law03_LebBackr11_W, F_law03_LebBackr12_W, F_law03_LebBackr13_W, F_law03_LebBackr15_g7, F_law03_LebBackr15_W, F_law03_LebBackr15_len, F_law03_LebBackr15_i5, F_law03_LebBackr15_i13, F_law03_LebBackr16_W, F_law03_LebBackr14_W, F_law03_LebBackl1_W, F_law03_LebBackr17_W, F_law03_LebBackr17_g3, F_law03_LebBackr17_g8, F_law03_LebBackc_W, v0, v5, v6, w2]
      rw [← e3]
      refine W.mono (ih (i + 1) _ (by omega) ?_ ?_ ?_) fun _ _ _ h => h
      · (first | (simp only [fws, cond_true, cond_false, if_true, if_false, unV, isNil, optI, iV, stepI, evalR, reduceIte, reduceCtorEq, Nat.reduceEqDiff, Int.reduceLT, Int.reduceLE, Int.reduceToNat, Nat.reduceLT, Nat.reduceLeDiff, Int.reduceEq, Int.reduceNeg, IntKind.bits, Nat.reduceAdd, Nat.reduceMul, Nat.reducePow, Int.reducePow, ini, *]; done) | (simp only [fws, cond_true, cond_false, if_true, if_false, unV, isNil, optI, iV, stepI, evalR, reduceIte, reduceCtorEq, Nat.reduceEqDiff, Int.reduceLT, Int.reduceLE, Int.reduceToNat, Nat.reduceLT, Nat.reduceLeDiff, Int.reduceEq, Int.reduceNeg, IntKind.bits, Nat.reduceAdd, Nat.reduceMul, Nat.reducePow, Int.reducePow, ini]; rfl))
      · (first | (simp only [fws, cond_true, cond_false, if_true, if_false, unV, isNil, optI, iV, stepI, evalR, reduceIte, reduceCtorEq, Nat.reduceEqDiff, Int.reduceLT, Int.reduceLE, Int.reduceToNat, Nat.reduceLT, Nat.reduceLeDiff, Int.reduceEq, Int.reduceNeg, IntKind.bits, Nat.reduceAdd, Nat.reduceMul, Nat.reducePow, Int.reducePow, ini, *]; done) | (simp only [fws, cond_true, cond_false, if_true, if_false, unV, isNil, optI, iV, stepI, evalR, reduceIte, reduceCtorEq, Nat.reduceEqDiff, Int.reduceLT, Int.reduceLE, Int.reduceToNat, Nat.reduceLT, Nat.reduceLeDiff, Int.reduceEq, Int.reduceNeg, IntKind.bits, Nat.reduceAdd, Nat.reduceMul, Nat.reducePow, Int.reducePow, ini]; rfl))
      · (first | (simp only [fws, cond_true, cond_false, if_true, if_false, unV, isNil, optI, iV, stepI, evalR, reduceIte, reduceCtorEq, Nat.reduceEqDiff, Int.reduceLT, Int.reduceLE, Int.reduceToNat, Nat.reduceLT, Nat.reduceLeDiff, Int.reduceEq, Int.reduceNeg, IntKind.bits, Nat.reduceAdd, Nat.reduceMul, Nat.reducePow, Int.reducePow, ini, *]; done) | (simp only [fws, cond_true, cond_false, if_true, if_false, unV, isNil, optI, iV, stepI, evalR, reduceIte, reduceCtorEq, Nat.reduceEqDiff, Int.reduceLT, Int.reduceLE, Int.reduceToNat, Nat.reduceLT, Nat.reduceLeDiff, Int.reduceEq, Int.reduceNeg, IntKind.bits, Nat.reduceAdd, Nat.reduceMul, Nat.reducePow, Int.reducePow, ini]; rfl))

theorem law_LebBack (o : Option (List Int)) (hw : ∀ n ∈ lst o, isI64 n) : Ev TLeb 11 [slV (intE .i64) o] [] fun v _ => v = .bool true := by
  rw [Ev_fn rfl rfl]
  by_cases hl : (lst o).length ≤ 200
  · have q1 : ¬ ((200 : Int) < (lst o).length) := by omega
    have hlen := putAll_len (lst o)
    simp only [F_law03_LebBack, fws, cond_true, cond_false, if_true, if_false, unV, isNil, optI, iV, stepI, evalR, reduceIte, reduceCtorEq, Nat.reduceEqDiff, Int.reduceLT, Int.reduceLE, Int.reduceToNat, Nat.reduceLT, Nat.reduceLeDiff, Int.reduceEq, Int.reduceNeg, IntKind.bits, Nat.reduceAdd, Nat.reduceMul, Nat.reducePow, Int.reducePow, ini, fwh, lk, cellsAt, tagOf, spotOf, rdN, spl, fillL, zr, fwi, F_law03_LebBackr0_W, F_law03_LebBackr1_W, F_law03_LebBackr2_W, F_law03_LebBackr3_W, F_law03_LebBackr4_W, F_law03_LebBackr5_W, F_law03_LebBackr7_W, F_law03_LebBackr8_W, F_law03_LebBackr6_W, F_law03_LebBackl0_W, F_law03_LebBackr9_W, F_law03_LebBackr10_W, F_law03_LebBackr11_W, F_law03_LebBackr12_W, F_law03_LebBackr13_W, F_law03_LebBackr15_g7, F_law03_LebBackr15_W, F_law03_LebBackr15_len, F_law03_LebBackr15_i5, F_law03_LebBackr15_i13, F_law03_LebBackr16_W, F_law03_LebBackr14_W, F_law03_LebBackl1_W, F_law03_LebBackr17_W, F_law03_LebBackr17_g3, F_law03_LebBackr17_g8, F_law03_LebBackc_W, lenI_sl, q1]
    refine W.mono (loop_LebBack0 o hl hw _ 0 (.slice none 0 0) [] _ (Nat.zero_add _) ?_ ?_ ?_ Acc.nil) fun x e h ⟨g1, g2, g3⟩ => ?_
    · (first | (simp only [fws, cond_true, cond_false, if_true, if_false, unV, isNil, optI, iV, stepI, evalR, reduceIte, reduceCtorEq, Nat.reduceEqDiff, Int.reduceLT, Int.reduceLE, Int.reduceToNat, Nat.reduceLT, Nat.reduceLeDiff, Int.reduceEq, Int.reduceNeg, IntKind.bits, Nat.reduceAdd, Nat.reduceMul, Nat.reducePow, Int.reducePow, ini, *]; done) | (simp only [fws, cond_true, cond_false, if_true, if_false, unV, isNil, optI, iV, stepI, evalR, reduceIte, reduceCtorEq, Nat.reduceEqDiff, Int.reduceLT, Int.reduceLE, Int.reduceToNat, Nat.reduceLT, Nat.reduceLeDiff, Int.reduceEq, Int.reduceNeg, IntKind.bits, Nat.reduceAdd, Nat.reduceMul, Nat.reducePow, Int.reducePow, ini]; rfl))
    · (first | (simp only [fws, cond_true, cond_false, if_true, if_false, unV, isNil, optI, iV, stepI, evalR, reduceIte, reduceCtorEq, Nat.reduceEqDiff, Int.reduceLT, Int.reduceLE, Int.reduceToNat, Nat.reduceLT, Nat.reduceLeDiff, Int.reduceEq, Int.reduceNeg, IntKind.bits, Nat.reduceAdd, Nat.reduceMul, Nat.reducePow, Int.reducePow, ini, *]; done) | (simp only [fws, cond_true, cond_false, if_true, if_false, unV, isNil, optI, iV, stepI, evalR, reduceIte, reduceCtorEq, Nat.reduceEqDiff, Int.reduceLT, Int.reduceLE, Int.reduceToNat, Nat.reduceLT, Nat.reduceLeDiff, Int.reduceEq, Int.reduceNeg, IntKind.bits, Nat.reduceAdd, Nat.reduceMul, Nat.reducePow, Int.reducePow, ini]; rfl))
    · (first | (simp only [fws, cond_true, cond_false, if_true, if_false, unV, isNil, optI, iV, stepI, evalR, reduceIte, reduceCtorEq, Nat.reduceEqDiff, Int.reduceLT, Int.reduceLE, Int.reduceToNat, Nat.reduceLT, Nat.reduceLeDiff, Int.reduceEq, Int.reduceNeg, IntKind.bits, Nat.reduceAdd, Nat.reduceMul, Nat.reducePow, Int.reducePow, ini, *]; done) | (simp only [fws, cond_true, cond_false, if_true, if_false, unV, isNil, optI, iV, stepI, evalR, reduceIte, reduceCtorEq, Nat.reduceEqDiff, Int.reduceLT, Int.reduceLE, Int.reduceToNat, Nat.reduceLT, Nat.reduceLeDiff, Int.reduceEq, Int.reduceNeg, IntKind.bits, Nat.reduceAdd, Nat.reduceMul, Nat.reducePow, Int.reducePow, ini]; rfl))
    subst g1
    have c1 := ev_leb_Read (T := TLeb) rfl h (putAll (lst o)) (by omega) (e 3) (g3.src rfl)
    have hlp := loop_LebBack1 o hl hw h (lst o).length 0
    rw [List.take_zero] at hlp
    simp only [fws, cond_true, cond_false, if_true, if_false, unV, isNil, optI, iV, stepI, evalR, reduceIte, reduceCtorEq, Nat.reduceEqDiff, Int.reduceLT, Int.reduceLE, Int.reduceToNat, Nat.reduceLT, Nat.reduceLeDiff, Int.reduceEq, Int.reduceNeg, IntKind.bits, Nat.reduceAdd, Nat.reduceMul, Nat.reducePow, Int.reducePow, ini, fwh, lk, cellsAt, tagOf, spotOf, rdN, spl, fillL, zr, fwi, F_law03_LebBackr0_W, F_law03_LebBackr1_W, F_law03_LebBackr2_W, F_law03_LebBackr3_W, F_law03_LebBackr4_W, F_law03_LebBackr5_W, F_law03_LebBackr7_W, F_law03_LebBackr8_W, F_law03_LebBackr6_W, F_law03_LebBackl0_W, F_law03_LebBackr9_W, F_law03_LebBackr10_W, F_law03_LebBackr11_W, F_law03_LebBackr12_W, F_law03_LebBackr13_W, F_law03_LebBackr15_g7, F_law03_LebBackr15_W, F_law03_LebBackr15_len, F_law03_LebBackr15_i5, F_law03_LebBackr15_i13, F_law03_LebBackr16_W, F_law03_LebBackr14_W, F_law03_LebBackl1_W, F_law03_LebBackr17_W, F_law03_LebBackr17_g3, F_law03_LebBackr17_g8, F_law03_LebBackc_W, Ev_det c1]
    refine W.mono (hlp _ (Nat.zero_add _) ?_ ?_ ?_) fun x e h2 ⟨k1, k2, k3⟩ => ?_
    · (first | (simp only [fws, cond_true, cond_false, if_true, if_false, unV, isNil, optI, iV, stepI, evalR, reduceIte, reduceCtorEq, Nat.reduceEqDiff, Int.reduceLT, Int.reduceLE, Int.reduceToNat, Nat.reduceLT, Nat.reduceLeDiff, Int.reduceEq, Int.reduceNeg, IntKind.bits, Nat.reduceAdd, Nat.reduceMul, Nat.reducePow, Int.reducePow, ini, *]; done) | (simp only [fws, cond_true, cond_false, if_true, if_false, unV, isNil, optI, iV, stepI, evalR, reduceIte, reduceCtorEq, Nat.reduceEqDiff, Int.reduceLT, Int.reduceLE, Int.reduceToNat, Nat.reduceLT, Nat.reduceLeDiff, Int.reduceEq, Int.reduceNeg, IntKind.bits, Nat.reduceAdd, Nat.reduceMul, Nat.reducePow, Int.reducePow, ini]; rfl))
    · (first | (simp only [fws, cond_true, cond_false, if_true, if_false, unV, isNil, optI, iV, stepI, evalR, reduceIte, reduceCtorEq, Nat.reduceEqDiff, Int.reduceLT, Int.reduceLE, Int.reduceToNat, Nat.reduceLT, Nat.reduceLeDiff, Int.reduceEq, Int.reduceNeg, IntKind.bits, Nat.reduceAdd, Nat.reduceMul, Nat.reducePow, Int.reducePow, ini, *]; done) | (simp only [fws, cond_true, cond_false, if_true, if_false, unV, isNil, optI, iV, stepI, evalR, reduceIte, reduceCtorEq, Nat.reduceEqDiff, Int.reduceLT, Int.reduceLE, Int.reduceToNat, Nat.reduceLT, Nat.reduceLeDiff, Int.reduceEq, Int.reduceNeg, IntKind.bits, Nat.reduceAdd, Nat.reduceMul, Nat.reducePow, Int.reducePow, ini]; rfl))
    · (first | (simp only [fws, cond_true, cond_false, if_true, if_false, unV, isNil, optI, iV, stepI, evalR, reduceIte, reduceCtorEq, Nat.reduceEqDiff, Int.reduceLT, Int.reduceLE, Int.reduceToNat, Nat.reduceLT, Nat.reduceLeDiff, Int.reduceEq, Int.reduceNeg, IntKind.bits, Nat.reduceAdd, Nat.reduceMul, Nat.reducePow, Int.reducePow, ini, *]; done) | (simp only [fws, cond_true, cond_false, if_true, if_false, unV, isNil, optI, iV, stepI, evalR, reduceIte, reduceCtorEq, Nat.reduceEqDiff, Int.reduceLT, Int.reduceLE, Int.reduceToNat, Nat.reduceLT, Nat.reduceLeDiff, Int.reduceEq, Int.reduceNeg, IntKind.bits, Nat.reduceAdd, Nat.reduceMul, Nat.reducePow, Int.reducePow, ini]; rfl))
    subst k1; subst k3
    have c2 := ev_Fail_end h (putAll (lst o)) (putAll (lst o)).length
    have c3 := ev_Left_end h (putAll (lst o)) (by omega)
    simp only [fws, cond_true, cond_false, if_true, if_false, unV, isNil, optI, iV, stepI, evalR, reduceIte, reduceCtorEq, Nat.reduceEqDiff, Int.reduceLT, Int.reduceLE, Int.reduceToNat, Nat.reduceLT, Nat.reduceLeDiff, Int.reduceEq, Int.reduceNeg, IntKind.bits, Nat.reduceAdd, Nat.reduceMul, Nat.reducePow, Int.reducePow, ini, fwh, lk, cellsAt, tagOf, spotOf, rdN, spl, fillL, zr, fwi, F_law03_LebBackr0_W, F_law03_LebBackr1_W, F_law03_LebBackr2_W, F_law03_LebBackr3_W, F_law03_LebBackr4_W, F_law03_LebBackr5_W, F_law03_LebBackr7_W, F_law03_LebBackr8_W, F_law03_LebBackr6_W, F_law03_LebBackl0_W, F_law03_LebBackr9_W, F_law03_LebBackr10_W, F_law03_LebBackr11_W, F_law03_LebBackr12_W, F_law03_LebBackr13_W, F_law03_LebBackr15_g7, F_law03_LebBackr15_W, F_law03_LebBackr15_len, F_law03_LebBackr15_i5, F_law03_LebBackr15_i13, F_law03_LebBackr16_W, F_law03_LebBackr14_W, F_law03_LebBackl1_W, F_law03_LebBackr17_W, F_law03_LebBackr17_g3, F_law03_LebBackr17_g8, F_law03_LebBackc_W, k2, Ev_det c2, Ev_det c3, CC_of leb_alive]
  · have q1 : ((200 : Int) < (lst o).length) := by omega
    simp only [F_law03_LebBack, fws, cond_true, cond_false, if_true, if_false, unV, isNil, optI, iV, stepI, evalR, reduceIte, reduceCtorEq, Nat.reduceEqDiff, Int.reduceLT, Int.reduceLE, Int.reduceToNat, Nat.reduceLT, Nat.reduceLeDiff, Int.reduceEq, Int.reduceNeg, IntKind.bits, Nat.reduceAdd, Nat.reduceMul, Nat.reducePow, Int.reducePow, ini, fwh, lk, cellsAt, tagOf, spotOf, rdN, spl, fillL, zr, fwi, F_law03_LebBackr0_W, F_law03_LebBackr1_W, F_law03_LebBackr2_W, F_law03_LebBackr3_W, F_law03_LebBackr4_W, F_law03_LebBackr5_W, F_law03_LebBackr7_W, F_law03_LebBackr8_W, F_law03_LebBackr6_W, F_law03_LebBackl0_W, F_law03_LebBackr9_W, F_law03_LebBackr10_W, F_law03_LebBackr11_W, F_law03_LebBackr12_W, F_law03_LebBackr13_W, F_law03_LebBackr15_g7, F_law03_LebBackr15_W, F_law03_LebBackr15_len, F_law03_LebBackr15_i5, F_law03_LebBackr15_i13, F_law03_LebBackr16_W, F_law03_LebBackr14_W, F_law03_LebBackl1_W, F_law03_LebBackr17_W, F_law03_LebBackr17_g3, F_law03_LebBackr17_g8, F_law03_LebBackc_W, lenI_sl, q1]
end Go.Proofs.Ytkhojkdcejmgpaa
