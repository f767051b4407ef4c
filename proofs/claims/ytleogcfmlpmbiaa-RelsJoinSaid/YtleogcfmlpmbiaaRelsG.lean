/- The laws of lists of relocations, without the document. -/
import Derived.Test.YtleogcfmlpmbiaaRelsF
namespace Go.Proofs.Ytleogcfmlpmbiaa
open Go Fw
set_option linter.unusedSimpArgs false
set_option linter.unusedVariables false

theorem i64r_of {n : Int} (h : (Lit.int .i64 n).wf = true) : isI64r n := by
  simp [Lit.wf, IntKind.min, IntKind.max, IntKind.bits, IntKind.signed] at h
  unfold isI64r
  omega
theorem u32r_of {n : Int} (h : (Lit.int .u32 n).wf = true) : 0 ≤ n ∧ n < 4294967296 := by
  simp [Lit.wf, IntKind.min, IntKind.max, IntKind.bits, IntKind.signed] at h
  omega
theorem okRels_of {l : List S_api_Rel} (h : ∀ s ∈ l, S_api_Rel.wf s) : okRels l := fun s hs => ⟨u64_of (h s hs).1, u32r_of (h s hs).2.1, u32r_of (h s hs).2.2.1, i64r_of (h s hs).2.2.2.1⟩
theorem encB_len (rela : Bool) (l : List S_api_Rel) : (encB rela l).length ≤ 20000 := by
  unfold encB
  split
  · rename_i h
    unfold encOk at h
    rw [Bool.and_eq_true, decide_eq_true_eq] at h
    have h24 : oneN rela ≤ 24 := by unfold oneN; cases rela <;> decide
    have hmul : l.length * oneN rela ≤ 512 * 24 := Nat.mul_le_mul h.1 h24
    rw [flat_len]; omega
  · simp
theorem decs_len (rela : Bool) (l : List UInt8) : (decs rela l).length ≤ 512 := by
  unfold decs
  split
  · rename_i h; rw [decN_len]; exact h.2
  · simp
set_option maxRecDepth 100000 in
set_option maxHeartbeats 1000000 in
theorem law_RelsBack (o1 : Option (List S_api_Rel)) (o2 : Option (List UInt8)) (hw : okRels (lst o1)) (rela : Bool) : Ev TRels 5 [slV RelE o1, slV byteE o2, .bool rela] [] fun v _ => v = .bool true := by
  rw [Ev_fn rfl rfl]
  by_cases hl : (lst o1).length ≤ 1000
  · have q : ¬ ((1000 : Int) < (lst o1).length) := by omega
    by_cases hl2 : (lst o2).length ≤ 20000
    · have q2 : ¬ ((20000 : Int) < (lst o2).length) := by omega
      obtain ⟨⟨x, px, cx⟩, _⟩ := f_rels_Enc (lst o1) (slV RelE o1) Src_sl pure_rl hw rela
      have hxl := encB_len rela (lst o1)
      obtain ⟨y, py, cy⟩ := f_rels_Decode (T := TRels) rfl rfl rfl rfl rfl (encB rela (lst o1)) (slV byteE x) (src_of px) pure_by hxl rfl rfl rela
      obtain ⟨z, pz, cz⟩ := f_rels_Decode (T := TRels) rfl rfl rfl rfl rfl (lst o2) (slV byteE o2) Src_sl pure_by hl2 rfl rfl rela
      have hdl := decs_len rela (encB rela (lst o1))
      have c3 := f_ref12_Same (T := TRels) (decs rela (encB rela (lst o1))) (lst o1) (slV RelE y) (slV RelE o1) (src_of py) Src_sl (by omega) rfl pure_rl pure_rl
      obtain ⟨⟨c, pc, cc⟩, _⟩ := f_rels_Enc (decs rela (lst o2)) (slV RelE z) (src_of pz) pure_rl (okRel_decs rela (lst o2)) rela
      have lx : ∀ H, lenI H 1 (slV byteE x) = some (.int .i64 (encB rela (lst o1)).length, H) := (src_of px).1
      have lz : ∀ H, lenI H 1 (slV RelE z) = some (.int .i64 (decs rela (lst o2)).length, H) := (src_of pz).1
      have part2 : ∀ (env : Env) (H : Heap), env 1 = slV byteE o2 → env 2 = .bool rela → W TRels (.reg F_law12_RelsBackr7) env H (seqQ TRels (.seq (.seq (.reg F_law12_RelsBackr8) (.cond (.t 63) (.seq (.reg F_law12_RelsBackr9) .ret) .skip)) (.seq (.reg F_law12_RelsBackr10) (.seq (.reg F_law12_RelsBackr11) .ret))) (retQ [.tmp 6] fun v _ => v = .bool true)) := by
        intro env H e1 e2
        by_cases hok : decOk rela (lst o2)
        · have hC : decC rela (lst o2) = 0 := by unfold decC; rw [if_pos hok]
          rw [hC] at cz
          obtain ⟨ok2, hB⟩ := enc_dec rela (lst o2) hok
          have hE : encC rela (decs rela (lst o2)) = 0 := by unfold encC; rw [ok2]; rfl
          rw [hE] at cc
          have bc : ∀ H, b2sI H (slV byteE c) = some (strV (lst o2), H) := fun H => by have := b2sI_sl (o := c) (H := H); rwa [pc, hB] at this
          simp only [fws, cond_true, cond_false, if_true, if_false, unV, isNil, optI, iV, stepI, evalR, reduceIte, reduceCtorEq, Nat.reduceEqDiff, Int.reduceLT, Int.reduceLE, Int.reduceToNat, Nat.reduceLT, Nat.reduceLeDiff, Int.reduceEq, Int.reduceNeg, IntKind.bits, Nat.reduceAdd, Nat.reduceMul, Nat.reducePow, Int.reducePow, ini, fwi, F_law12_RelsBackr0_W, F_law12_RelsBackr1_W, F_law12_RelsBackr1_g3, F_law12_RelsBackr2_W, F_law12_RelsBackr3_W, F_law12_RelsBackr4_W, F_law12_RelsBackr5_W, F_law12_RelsBackr5_g2, F_law12_RelsBackr5_g5, F_law12_RelsBackr5_g12, F_law12_RelsBackr5_g15, F_law12_RelsBackr6_W, F_law12_RelsBackr7_W, F_law12_RelsBackr8_W, F_law12_RelsBackr9_W, F_law12_RelsBackr9_g3, F_law12_RelsBackr10_W, F_law12_RelsBackr11_W, F_law12_RelsBackr11_g2, F_law12_RelsBackr11_g9, F_law12_RelsBackc_W, e1, e2, CC_of cz, CC_of cc, CC_of rels_alive, bc, b2sI_sl, strEq_self, List.getElem?_cons_zero, List.getElem?_cons_succ, List.getElem?_toArray]
        · have hC : decC rela (lst o2) = 120 := by unfold decC; rw [if_neg hok]
          have hD : decs rela (lst o2) = [] := by unfold decs; rw [if_neg hok]
          rw [hC] at cz
          rw [hD] at lz
          simp only [fws, cond_true, cond_false, if_true, if_false, unV, isNil, optI, iV, stepI, evalR, reduceIte, reduceCtorEq, Nat.reduceEqDiff, Int.reduceLT, Int.reduceLE, Int.reduceToNat, Nat.reduceLT, Nat.reduceLeDiff, Int.reduceEq, Int.reduceNeg, IntKind.bits, Nat.reduceAdd, Nat.reduceMul, Nat.reducePow, Int.reducePow, ini, fwi, F_law12_RelsBackr0_W, F_law12_RelsBackr1_W, F_law12_RelsBackr1_g3, F_law12_RelsBackr2_W, F_law12_RelsBackr3_W, F_law12_RelsBackr4_W, F_law12_RelsBackr5_W, F_law12_RelsBackr5_g2, F_law12_RelsBackr5_g5, F_law12_RelsBackr5_g12, F_law12_RelsBackr5_g15, F_law12_RelsBackr6_W, F_law12_RelsBackr7_W, F_law12_RelsBackr8_W, F_law12_RelsBackr9_W, F_law12_RelsBackr9_g3, F_law12_RelsBackr10_W, F_law12_RelsBackr11_W, F_law12_RelsBackr11_g2, F_law12_RelsBackr11_g9, F_law12_RelsBackc_W, e1, e2, CC_of cz, lz, CC_of rels_alive, List.length_nil, List.getElem?_cons_zero, List.getElem?_cons_succ, List.getElem?_toArray]
      cases hok : encOk rela (lst o1) with
      | true =>
        have hE : encC rela (lst o1) = 0 := by unfold encC; rw [hok]; rfl
        obtain ⟨hd1, hd2⟩ := dec_enc rela (lst o1) hw hok
        rw [hE] at cx
        rw [hd2] at cy
        rw [hd1, decide_eq_true rfl] at c3
        simp only [F_law12_RelsBack, fws, cond_true, cond_false, if_true, if_false, unV, isNil, optI, iV, stepI, evalR, reduceIte, reduceCtorEq, Nat.reduceEqDiff, Int.reduceLT, Int.reduceLE, Int.reduceToNat, Nat.reduceLT, Nat.reduceLeDiff, Int.reduceEq, Int.reduceNeg, IntKind.bits, Nat.reduceAdd, Nat.reduceMul, Nat.reducePow, Int.reducePow, ini, fwi, F_law12_RelsBackr0_W, F_law12_RelsBackr1_W, F_law12_RelsBackr1_g3, F_law12_RelsBackr2_W, F_law12_RelsBackr3_W, F_law12_RelsBackr4_W, F_law12_RelsBackr5_W, F_law12_RelsBackr5_g2, F_law12_RelsBackr5_g5, F_law12_RelsBackr5_g12, F_law12_RelsBackr5_g15, F_law12_RelsBackr6_W, F_law12_RelsBackr8_W, F_law12_RelsBackr9_W, F_law12_RelsBackr9_g3, F_law12_RelsBackr10_W, F_law12_RelsBackr11_W, F_law12_RelsBackr11_g2, F_law12_RelsBackr11_g9, F_law12_RelsBackc_W, lenI_sl, q, q2, CC_of cx, CC_of cy, CC_of c3, List.getElem?_cons_zero, List.getElem?_cons_succ, List.getElem?_toArray]
        refine part2 _ _ ?_ ?_
        all_goals (first | (simp only [fws, cond_true, cond_false, if_true, if_false, unV, isNil, optI, iV, stepI, evalR, reduceIte, reduceCtorEq, Nat.reduceEqDiff, Int.reduceLT, Int.reduceLE, Int.reduceToNat, Nat.reduceLT, Nat.reduceLeDiff, Int.reduceEq, Int.reduceNeg, IntKind.bits, Nat.reduceAdd, Nat.reduceMul, Nat.reducePow, Int.reducePow, ini, *]; done) | (simp only [fws, cond_true, cond_false, if_true, if_false, unV, isNil, optI, iV, stepI, evalR, reduceIte, reduceCtorEq, Nat.reduceEqDiff, Int.reduceLT, Int.reduceLE, Int.reduceToNat, Nat.reduceLT, Nat.reduceLeDiff, Int.reduceEq, Int.reduceNeg, IntKind.bits, Nat.reduceAdd, Nat.reduceMul, Nat.reducePow, Int.reducePow, ini]; rfl))
      | false =>
        have hE : encC rela (lst o1) = 120 := by unfold encC; rw [hok]; rfl
        have hB : encB rela (lst o1) = [] := by unfold encB; rw [hok]; rfl
        rw [hE] at cx
        rw [hB] at lx
        simp only [F_law12_RelsBack, fws, cond_true, cond_false, if_true, if_false, unV, isNil, optI, iV, stepI, evalR, reduceIte, reduceCtorEq, Nat.reduceEqDiff, Int.reduceLT, Int.reduceLE, Int.reduceToNat, Nat.reduceLT, Nat.reduceLeDiff, Int.reduceEq, Int.reduceNeg, IntKind.bits, Nat.reduceAdd, Nat.reduceMul, Nat.reducePow, Int.reducePow, ini, fwi, F_law12_RelsBackr0_W, F_law12_RelsBackr1_W, F_law12_RelsBackr1_g3, F_law12_RelsBackr2_W, F_law12_RelsBackr3_W, F_law12_RelsBackr4_W, F_law12_RelsBackr5_W, F_law12_RelsBackr5_g2, F_law12_RelsBackr5_g5, F_law12_RelsBackr5_g12, F_law12_RelsBackr5_g15, F_law12_RelsBackr6_W, F_law12_RelsBackr8_W, F_law12_RelsBackr9_W, F_law12_RelsBackr9_g3, F_law12_RelsBackr10_W, F_law12_RelsBackr11_W, F_law12_RelsBackr11_g2, F_law12_RelsBackr11_g9, F_law12_RelsBackc_W, lenI_sl, q, q2, CC_of cx, CC_of cy, lx, List.length_nil, List.getElem?_cons_zero, List.getElem?_cons_succ, List.getElem?_toArray]
        refine part2 _ _ ?_ ?_
        all_goals (first | (simp only [fws, cond_true, cond_false, if_true, if_false, unV, isNil, optI, iV, stepI, evalR, reduceIte, reduceCtorEq, Nat.reduceEqDiff, Int.reduceLT, Int.reduceLE, Int.reduceToNat, Nat.reduceLT, Nat.reduceLeDiff, Int.reduceEq, Int.reduceNeg, IntKind.bits, Nat.reduceAdd, Nat.reduceMul, Nat.reducePow, Int.reducePow, ini, *]; done) | (simp only [fws, cond_true, cond_false, if_true, if_false, unV, isNil, optI, iV, stepI, evalR, reduceIte, reduceCtorEq, Nat.reduceEqDiff, Int.reduceLT, Int.reduceLE, Int.reduceToNat, Nat.reduceLT, Nat.reduceLeDiff, Int.reduceEq, Int.reduceNeg, IntKind.bits, Nat.reduceAdd, Nat.reduceMul, Nat.reducePow, Int.reducePow, ini]; rfl))
    · have q2 : ((20000 : Int) < (lst o2).length) := by omega
      simp only [F_law12_RelsBack, fws, cond_true, cond_false, if_true, if_false, unV, isNil, optI, iV, stepI, evalR, reduceIte, reduceCtorEq, Nat.reduceEqDiff, Int.reduceLT, Int.reduceLE, Int.reduceToNat, Nat.reduceLT, Nat.reduceLeDiff, Int.reduceEq, Int.reduceNeg, IntKind.bits, Nat.reduceAdd, Nat.reduceMul, Nat.reducePow, Int.reducePow, ini, fwi, F_law12_RelsBackr0_W, F_law12_RelsBackr1_W, F_law12_RelsBackr1_g3, F_law12_RelsBackr2_W, F_law12_RelsBackr3_W, F_law12_RelsBackr4_W, F_law12_RelsBackr5_W, F_law12_RelsBackr5_g2, F_law12_RelsBackr5_g5, F_law12_RelsBackr5_g12, F_law12_RelsBackr5_g15, F_law12_RelsBackr6_W, F_law12_RelsBackr7_W, F_law12_RelsBackr8_W, F_law12_RelsBackr9_W, F_law12_RelsBackr9_g3, F_law12_RelsBackr10_W, F_law12_RelsBackr11_W, F_law12_RelsBackr11_g2, F_law12_RelsBackr11_g9, F_law12_RelsBackc_W, lenI_sl, q, q2]
  · have q : ((1000 : Int) < (lst o1).length) := by omega
    simp only [F_law12_RelsBack, fws, cond_true, cond_false, if_true, if_false, unV, isNil, optI, iV, stepI, evalR, reduceIte, reduceCtorEq, Nat.reduceEqDiff, Int.reduceLT, Int.reduceLE, Int.reduceToNat, Nat.reduceLT, Nat.reduceLeDiff, Int.reduceEq, Int.reduceNeg, IntKind.bits, Nat.reduceAdd, Nat.reduceMul, Nat.reducePow, Int.reducePow, ini, fwi, F_law12_RelsBackr0_W, F_law12_RelsBackr1_W, F_law12_RelsBackr1_g3, F_law12_RelsBackr2_W, F_law12_RelsBackr3_W, F_law12_RelsBackr4_W, F_law12_RelsBackr5_W, F_law12_RelsBackr5_g2, F_law12_RelsBackr5_g5, F_law12_RelsBackr5_g12, F_law12_RelsBackr5_g15, F_law12_RelsBackr6_W, F_law12_RelsBackr7_W, F_law12_RelsBackr8_W, F_law12_RelsBackr9_W, F_law12_RelsBackr9_g3, F_law12_RelsBackr10_W, F_law12_RelsBackr11_W, F_law12_RelsBackr11_g2, F_law12_RelsBackr11_g9, F_law12_RelsBackc_W, lenI_sl, q]
/-- An append to a list of its own, answered for good. -/
theorem Own.appf {α : Type} {E : Enc α} {n eb k : Nat} {H : Heap} {v : Value} {l m : List α} (hd : E.d ≤ 6) (hn : n = E.u) (h : Own E H v l) (hk : k = m.length) (hb : (l.length + m.length) * eb ≤ 140737488355328) :
    ∃ o H', lst o = l ++ m ∧ (appV n eb H v (E.cs m) k).bind (fun r => fzV r.2 r.1) = some (slV E o, H') := by
  obtain ⟨v', H', a1, a2, a3⟩ := h.app hn hk hb
  obtain ⟨o, H2, h1, h2, _⟩ := a2.fz hd
  refine ⟨o, H2, h1, ?_⟩
  rw [a1]
  rcases a2 with ⟨_, rfl⟩ | ⟨b, tag, rfl, _⟩
  · exact h2
  · exact h2
theorem Own.zero {α : Type} {E : Enc α} {n : Nat} (hn : n = E.u) (H : Heap) : Own E (H ++ [⟨0, .cells false n []⟩]) (.slice (some ⟨H.length, 0, none⟩) 0 0) [] := by
  subst hn
  exact .inr ⟨H.length, 0, rfl, by simp [oe, Enc.cs]⟩
set_option maxRecDepth 100000 in
set_option maxHeartbeats 1000000 in
theorem law_RelsJoin (o1 o2 : Option (List UInt8)) (rela : Bool) : Ev TRels 11 [slV byteE o1, slV byteE o2, .bool rela] [] fun v _ => v = .bool true := by
  rw [Ev_fn rfl rfl]
  by_cases hl : (lst o1).length ≤ 10000
  · have q : ¬ ((10000 : Int) < (lst o1).length) := by omega
    by_cases hl2 : (lst o2).length ≤ 10000
    · have q2 : ¬ ((10000 : Int) < (lst o2).length) := by omega
      have h16 : 0 < oneN rela := by unfold oneN; cases rela <;> decide
      obtain ⟨x, px, cx⟩ := f_rels_Decode (T := TRels) rfl rfl rfl rfl rfl (lst o1) (slV byteE o1) Src_sl pure_by (by omega) rfl rfl rela
      obtain ⟨y, py, cy⟩ := f_rels_Decode (T := TRels) rfl rfl rfl rfl rfl (lst o2) (slV byteE o2) Src_sl pure_by (by omega) rfl rfl rela
      have z0 := Own.zero (E := byteE) (n := 1) rfl ([] : Heap)
      obtain ⟨v1, H1, a1, a2, _⟩ := z0.app (m := lst o1) (n := 1) (eb := 1) (k := (lst o1).length) rfl rfl (by simp; omega)
      rw [List.nil_append] at a2
      obtain ⟨o3, H2, p3, a3⟩ := Own.appf (by decide) (n := 1) (eb := 1) (k := (lst o2).length) rfl a2 (m := lst o2) rfl (by omega)
      have a1 : appV 1 1 [⟨0, .cells false 1 []⟩] (.slice (some ⟨0, 0, none⟩) 0 0) (byteE.cs (lst o1)) (lst o1).length = some (v1, H1) := a1
      obtain ⟨z, pz, cz⟩ := f_rels_Decode (T := TRels) rfl rfl rfl rfl rfl (lst o1 ++ lst o2) (slV byteE o3) (src_of p3) pure_by (by rw [List.length_append]; omega) rfl rfl rela
      have s1 : ∀ H, srcOf H 1 (slV byteE o1) = some (byteE.cs (lst o1), (lst o1).length) := fun H => srcOf_slb
      have s2 : ∀ H, srcOf H 1 (slV byteE o2) = some (byteE.cs (lst o2), (lst o2).length) := fun H => srcOf_slb
      have lx : ∀ H, lenI H 1 (slV RelE x) = some (.int .i64 (decs rela (lst o1)).length, H) := (src_of px).1
      have ly : ∀ H, lenI H 1 (slV RelE y) = some (.int .i64 (decs rela (lst o2)).length, H) := (src_of py).1
      have lz : ∀ H, lenI H 1 (slV RelE z) = some (.int .i64 (decs rela (lst o1 ++ lst o2)).length, H) := (src_of pz).1
      by_cases ok1 : decOk rela (lst o1)
      · have hC1 : decC rela (lst o1) = 0 := by unfold decC; rw [if_pos ok1]
        rw [hC1] at cx
        by_cases ok2 : decOk rela (lst o2)
        · have hC2 : decC rela (lst o2) = 0 := by unfold decC; rw [if_pos ok2]
          rw [hC2] at cy
          have d1 : decs rela (lst o1) = decN rela (lst o1) ((lst o1).length / oneN rela) := by unfold decs; rw [if_pos ok1]
          have d2 : decs rela (lst o2) = decN rela (lst o2) ((lst o2).length / oneN rela) := by unfold decs; rw [if_pos ok2]
          have n1 : (lst o1).length = (lst o1).length / oneN rela * oneN rela := by have := Nat.div_add_mod (lst o1).length (oneN rela); rw [ok1.1, Nat.add_zero, Nat.mul_comm] at this; exact this.symm
          have n2 : (lst o2).length = (lst o2).length / oneN rela * oneN rela := by have := Nat.div_add_mod (lst o2).length (oneN rela); rw [ok2.1, Nat.add_zero, Nat.mul_comm] at this; exact this.symm
          have e1 : (decs rela (lst o1)).length = (lst o1).length / oneN rela := by rw [d1, decN_len]
          have e2 : (decs rela (lst o2)).length = (lst o2).length / oneN rela := by rw [d2, decN_len]
          have b1 := ok1.2
          have b2 := ok2.2
          generalize hN : (lst o1).length / oneN rela = N at *
          generalize hM : (lst o2).length / oneN rela = M at *
          have n3 : (lst o1 ++ lst o2).length = (N + M) * oneN rela := by rw [List.length_append, n1, n2, Nat.add_mul]
          have n4 : (lst o1 ++ lst o2).length / oneN rela = N + M := by rw [n3, Nat.mul_div_cancel _ h16]
          have n5 : (lst o1 ++ lst o2).length % oneN rela = 0 := by rw [n3]; exact Nat.mul_mod_left ..
          have wl : IntKind.i64.wrap (((decs rela (lst o1)).length : Int) + (decs rela (lst o2)).length) = ((N + M : Nat) : Int) := by rw [e1, e2, wrapI64 (by omega) (by omega)]; rfl
          by_cases hnm : N + M ≤ 512
          · have ok3 : decOk rela (lst o1 ++ lst o2) := ⟨n5, by omega⟩
            have hC3 : decC rela (lst o1 ++ lst o2) = 0 := by unfold decC; rw [if_pos ok3]
            rw [hC3] at cz
            have d3 : decs rela (lst o1 ++ lst o2) = decs rela (lst o1) ++ decs rela (lst o2) := by
              have : decs rela (lst o1 ++ lst o2) = decN rela (lst o1 ++ lst o2) ((lst o1 ++ lst o2).length / oneN rela) := by unfold decs; rw [if_pos ok3]
              rw [this, n4, d1, d2, decN_join rela _ _ N n1 M]
            have z1 := Own.zero (E := RelE) (n := 5) rfl H2
            obtain ⟨v4, H4, g1, g2, _⟩ := z1.app (m := decs rela (lst o1)) (n := 5) (eb := 32) (k := (decs rela (lst o1)).length) rfl rfl (by rw [List.length_nil]; omega)
            rw [List.nil_append] at g2
            obtain ⟨o5, H5, p5, g3⟩ := Own.appf (by decide) (n := 5) (eb := 32) (k := (decs rela (lst o2)).length) rfl g2 (m := decs rela (lst o2)) rfl (by omega)
            have s3 : ∀ H, srcOf H 5 (slV RelE x) = some (RelE.cs (decs rela (lst o1)), (decs rela (lst o1)).length) := fun H => by have := srcOf_sl (E := RelE) (n := 5) (o := x) (H := H) rfl; rwa [px] at this
            have s4 : ∀ H, srcOf H 5 (slV RelE y) = some (RelE.cs (decs rela (lst o2)), (decs rela (lst o2)).length) := fun H => by have := srcOf_sl (E := RelE) (n := 5) (o := y) (H := H) rfl; rwa [py] at this
            have c5 := f_rels_Same (T := TRels) (decs rela (lst o1 ++ lst o2)) (decs rela (lst o1) ++ decs rela (lst o2)) (slV RelE z) (slV RelE o5) (src_of pz) (src_of p5) (by have := decs_len rela (lst o1 ++ lst o2); omega) rfl pure_rl pure_rl
            rw [d3, decide_eq_true rfl] at c5
            have q5 : ¬ ((512 : Int) < ((N + M : Nat) : Int)) := by omega
            simp only [F_law12_RelsJoin, fws, cond_true, cond_false, if_true, if_false, unV, isNil, optI, iV, stepI, evalR, reduceIte, reduceCtorEq, Nat.reduceEqDiff, Int.reduceLT, Int.reduceLE, Int.reduceToNat, Nat.reduceLT, Nat.reduceLeDiff, Int.reduceEq, Int.reduceNeg, IntKind.bits, Nat.reduceAdd, Nat.reduceMul, Nat.reducePow, Int.reducePow, ini, fwi, F_law12_RelsJoinr0_W, F_law12_RelsJoinr1_W, F_law12_RelsJoinr1_g3, F_law12_RelsJoinr2_W, F_law12_RelsJoinr3_W, F_law12_RelsJoinr4_W, F_law12_RelsJoinr5_W, F_law12_RelsJoinr6_W, F_law12_RelsJoinr6_g2, F_law12_RelsJoinr7_W, F_law12_RelsJoinr8_W, F_law12_RelsJoinr9_W, F_law12_RelsJoinr9_g2, F_law12_RelsJoinr9_g7, F_law12_RelsJoinr10_W, F_law12_RelsJoinr10_g2, F_law12_RelsJoinr10_g11, F_law12_RelsJoinc_W, lenI_sl, q, q2, CC_of cx, CC_of cy, CC_of cz, List.length_nil, List.nil_append, s1, s2, s3, s4, a1, a3, lx, ly, lz, wl, q5, g1, g3, CC_of c5, CC_of rels_alive, List.getElem?_cons_zero, List.getElem?_cons_succ, List.getElem?_toArray]
          · have ok3 : ¬ decOk rela (lst o1 ++ lst o2) := fun h => by have := h.2; omega
            have hC3 : decC rela (lst o1 ++ lst o2) = 120 := by unfold decC; rw [if_neg ok3]
            have hD3 : decs rela (lst o1 ++ lst o2) = [] := by unfold decs; rw [if_neg ok3]
            rw [hC3] at cz
            rw [hD3] at lz
            have q5 : ((512 : Int) < ((N + M : Nat) : Int)) := by omega
            simp only [F_law12_RelsJoin, fws, cond_true, cond_false, if_true, if_false, unV, isNil, optI, iV, stepI, evalR, reduceIte, reduceCtorEq, Nat.reduceEqDiff, Int.reduceLT, Int.reduceLE, Int.reduceToNat, Nat.reduceLT, Nat.reduceLeDiff, Int.reduceEq, Int.reduceNeg, IntKind.bits, Nat.reduceAdd, Nat.reduceMul, Nat.reducePow, Int.reducePow, ini, fwi, F_law12_RelsJoinr0_W, F_law12_RelsJoinr1_W, F_law12_RelsJoinr1_g3, F_law12_RelsJoinr2_W, F_law12_RelsJoinr3_W, F_law12_RelsJoinr4_W, F_law12_RelsJoinr5_W, F_law12_RelsJoinr6_W, F_law12_RelsJoinr6_g2, F_law12_RelsJoinr7_W, F_law12_RelsJoinr8_W, F_law12_RelsJoinr9_W, F_law12_RelsJoinr9_g2, F_law12_RelsJoinr9_g7, F_law12_RelsJoinr10_W, F_law12_RelsJoinr10_g2, F_law12_RelsJoinr10_g11, F_law12_RelsJoinc_W, lenI_sl, q, q2, CC_of cx, CC_of cy, CC_of cz, List.length_nil, List.nil_append, s1, s2, a1, a3, lx, ly, lz, wl, q5, CC_of rels_alive, List.getElem?_cons_zero, List.getElem?_cons_succ, List.getElem?_toArray]
        · have hC2 : decC rela (lst o2) = 120 := by unfold decC; rw [if_neg ok2]
          rw [hC2] at cy
          simp only [F_law12_RelsJoin, fws, cond_true, cond_false, if_true, if_false, unV, isNil, optI, iV, stepI, evalR, reduceIte, reduceCtorEq, Nat.reduceEqDiff, Int.reduceLT, Int.reduceLE, Int.reduceToNat, Nat.reduceLT, Nat.reduceLeDiff, Int.reduceEq, Int.reduceNeg, IntKind.bits, Nat.reduceAdd, Nat.reduceMul, Nat.reducePow, Int.reducePow, ini, fwi, F_law12_RelsJoinr0_W, F_law12_RelsJoinr1_W, F_law12_RelsJoinr1_g3, F_law12_RelsJoinr2_W, F_law12_RelsJoinr3_W, F_law12_RelsJoinr4_W, F_law12_RelsJoinr5_W, F_law12_RelsJoinr6_W, F_law12_RelsJoinr6_g2, F_law12_RelsJoinr7_W, F_law12_RelsJoinr8_W, F_law12_RelsJoinr9_W, F_law12_RelsJoinr9_g2, F_law12_RelsJoinr9_g7, F_law12_RelsJoinr10_W, F_law12_RelsJoinr10_g2, F_law12_RelsJoinr10_g11, F_law12_RelsJoinc_W, lenI_sl, q, q2, CC_of cx, CC_of cy, CC_of cz, List.length_nil, List.nil_append, s1, s2, a1, a3, CC_of rels_alive, List.getElem?_cons_zero, List.getElem?_cons_succ, List.getElem?_toArray]
      · have hC1 : decC rela (lst o1) = 120 := by unfold decC; rw [if_neg ok1]
        rw [hC1] at cx
        simp only [F_law12_RelsJoin, fws, cond_true, cond_false, if_true, if_false, unV, isNil, optI, iV, stepI, evalR, reduceIte, reduceCtorEq, Nat.reduceEqDiff, Int.reduceLT, Int.reduceLE, Int.reduceToNat, Nat.reduceLT, Nat.reduceLeDiff, Int.reduceEq, Int.reduceNeg, IntKind.bits, Nat.reduceAdd, Nat.reduceMul, Nat.reducePow, Int.reducePow, ini, fwi, F_law12_RelsJoinr0_W, F_law12_RelsJoinr1_W, F_law12_RelsJoinr1_g3, F_law12_RelsJoinr2_W, F_law12_RelsJoinr3_W, F_law12_RelsJoinr4_W, F_law12_RelsJoinr5_W, F_law12_RelsJoinr6_W, F_law12_RelsJoinr6_g2, F_law12_RelsJoinr7_W, F_law12_RelsJoinr8_W, F_law12_RelsJoinr9_W, F_law12_RelsJoinr9_g2, F_law12_RelsJoinr9_g7, F_law12_RelsJoinr10_W, F_law12_RelsJoinr10_g2, F_law12_RelsJoinr10_g11, F_law12_RelsJoinc_W, lenI_sl, q, q2, CC_of cx, CC_of cy, CC_of cz, List.length_nil, List.nil_append, s1, s2, a1, a3, CC_of rels_alive, List.getElem?_cons_zero, List.getElem?_cons_succ, List.getElem?_toArray]
    · have q2 : ((10000 : Int) < (lst o2).length) := by omega
      simp only [F_law12_RelsJoin, fws, cond_true, cond_false, if_true, if_false, unV, isNil, optI, iV, stepI, evalR, reduceIte, reduceCtorEq, Nat.reduceEqDiff, Int.reduceLT, Int.reduceLE, Int.reduceToNat, Nat.reduceLT, Nat.reduceLeDiff, Int.reduceEq, Int.reduceNeg, IntKind.bits, Nat.reduceAdd, Nat.reduceMul, Nat.reducePow, Int.reducePow, ini, fwi, F_law12_RelsJoinr0_W, F_law12_RelsJoinr1_W, F_law12_RelsJoinr1_g3, F_law12_RelsJoinr2_W, F_law12_RelsJoinr3_W, F_law12_RelsJoinr4_W, F_law12_RelsJoinr5_W, F_law12_RelsJoinr6_W, F_law12_RelsJoinr6_g2, F_law12_RelsJoinr7_W, F_law12_RelsJoinr8_W, F_law12_RelsJoinr9_W, F_law12_RelsJoinr9_g2, F_law12_RelsJoinr9_g7, F_law12_RelsJoinr10_W, F_law12_RelsJoinr10_g2, F_law12_RelsJoinr10_g11, F_law12_RelsJoinc_W, lenI_sl, q, q2]
  · have q : ((10000 : Int) < (lst o1).length) := by omega
    simp only [F_law12_RelsJoin, fws, cond_true, cond_false, if_true, if_false, unV, isNil, optI, iV, stepI, evalR, reduceIte, reduceCtorEq, Nat.reduceEqDiff, Int.reduceLT, Int.reduceLE, Int.reduceToNat, Nat.reduceLT, Nat.reduceLeDiff, Int.reduceEq, Int.reduceNeg, IntKind.bits, Nat.reduceAdd, Nat.reduceMul, Nat.reducePow, Int.reducePow, ini, fwi, F_law12_RelsJoinr0_W, F_law12_RelsJoinr1_W, F_law12_RelsJoinr1_g3, F_law12_RelsJoinr2_W, F_law12_RelsJoinr3_W, F_law12_RelsJoinr4_W, F_law12_RelsJoinr5_W, F_law12_RelsJoinr6_W, F_law12_RelsJoinr6_g2, F_law12_RelsJoinr7_W, F_law12_RelsJoinr8_W, F_law12_RelsJoinr9_W, F_law12_RelsJoinr9_g2, F_law12_RelsJoinr9_g7, F_law12_RelsJoinr10_W, F_law12_RelsJoinr10_g2, F_law12_RelsJoinr10_g11, F_law12_RelsJoinc_W, lenI_sl, q]
end Go.Proofs.Ytleogcfmlpmbiaa
