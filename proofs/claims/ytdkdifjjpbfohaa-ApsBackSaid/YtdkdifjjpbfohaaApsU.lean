/- ApsBack. -/
import Derived.Test.YtdkdifjjpbfohaaApsT
import Derived.Test.YtdkdifjjpbfohaaApsR
namespace Go.Proofs.Ytdkdifjjpbfohaa
open Go Fw
set_option linter.unusedSimpArgs false
set_option linter.unusedVariables false
set_option linter.unusedSectionVars false

theorem oneF_ok {rela : Bool} {f : Nat} {step info : Int} {g : GS} (h1 : ∀ r ∈ g.out, okRel r ∧ encOkR rela r = true) (h2 : isI64r g.add) : (∀ r ∈ (oneF rela f step info g).out, okRel r ∧ encOkR rela r = true) ∧ isI64r (oneF rela f step info g).add := by
  have hadd : isI64r (oneF rela f step info g).add := by
    unfold oneF oneS
    dsimp only
    split
    · exact i64_is _
    · exact h2
  refine ⟨fun r hr => ?_, hadd⟩
  have key : ∀ (a i d : Int), isI64r d → okRel (relOf rela a i d) ∧ encOkR rela (relOf rela a i d) = true := fun a i d hd => by
    unfold relOf okRel encOkR
    refine ⟨⟨?_, ?_, ?_, ?_⟩, ?_⟩
    · dsimp only; rw [wrap_u64]; exact ⟨by omega, by omega⟩
    · dsimp only; rw [wrap_u32]; exact ⟨by omega, by omega⟩
    · dsimp only; rw [wrap_u32]; exact ⟨by omega, by omega⟩
    · dsimp only
      split
      · exact hd
      · exact ⟨by decide, by decide⟩
    · cases rela <;> rfl
  have hout : ∃ a i, (oneF rela f step info g).out = g.out ++ [relOf rela a i (oneF rela f step info g).add] := ⟨_, _, rfl⟩
  obtain ⟨a, i, he⟩ := hout
  rw [he] at hr
  rcases List.mem_append.1 hr with h | h
  · exact h1 r h
  · rw [List.mem_singleton] at h
    subst h
    exact key _ _ _ hadd
theorem rowsS_ok {rela : Bool} {f : Nat} {step info : Int} : ∀ (n : Nat) (g : GS), (∀ r ∈ g.out, okRel r ∧ encOkR rela r = true) → isI64r g.add → (∀ r ∈ (rowsS rela f step info n g).out, okRel r ∧ encOkR rela r = true) ∧ isI64r (rowsS rela f step info n g).add
  | 0, g, h1, h2 => ⟨h1, h2⟩
  | n + 1, g, h1, h2 => by
    obtain ⟨k1, k2⟩ := oneF_ok (f := f) (step := step) (info := info) h1 h2
    exact rowsS_ok n _ k1 k2
theorem grpS_ok {rela : Bool} {left : Int} {g g' : GS} (h : grpS rela left g = some g') (h1 : ∀ r ∈ g.out, okRel r ∧ encOkR rela r = true) (h2 : isI64r g.add) : (∀ r ∈ g'.out, okRel r ∧ encOkR rela r = true) ∧ isI64r g'.add := by
  have aux : ∀ G : GS, (if G.s.bad then none else some G) = some g' → G = g' := fun G h => by
    cases hb : G.s.bad
    · rw [hb] at h
      exact Option.some.inj h
    · rw [hb] at h; cases h
  by_cases hb : badG (tk (tk g.s).1).1 (tk g.s).2 left (tk (tk g.s).1).2 rela
  · have : grpS rela left g = none := if_pos hb
    rw [this] at h; cases h
  · have h : (if _ then none else _) = some g' := h
    rw [if_neg hb] at h
    have e1 := aux _ h
    rw [← e1]
    refine rowsS_ok _ _ h1 ?_
    dsimp only
    split
    · split
      · exact i64_is _
      · exact h2
    · exact ⟨by decide, by decide⟩
theorem allS_ok {rela : Bool} {many : Nat} : ∀ (n : Nat) (g g' : GS), allS rela many n g = some g' → (∀ r ∈ g.out, okRel r ∧ encOkR rela r = true) → isI64r g.add → ∀ r ∈ g'.out, okRel r ∧ encOkR rela r = true
  | 0, g, g', h, h1, _ => by cases h; exact h1
  | n + 1, g, g', h, h1, h2 => by
    rw [allS] at h
    split at h
    · cases hg : grpS rela ((many : Int) - g.out.length) g with
      | none => rw [hg] at h; cases h
      | some g2 =>
        rw [hg] at h
        obtain ⟨k1, k2⟩ := grpS_ok hg h1 h2
        exact allS_ok n g2 g' h k1 k2
    · cases h; exact h1
/-- What is read can be written. -/
theorem apsD_ok {rela : Bool} {b : List UInt8} {l : List S_api_Rel} (h : apsD rela b = some l) : okRels l ∧ encOk rela l = true := by
  have hl512 := apsL_len rela b
  unfold apsL at hl512
  rw [h] at hl512
  have hl : l.length ≤ 512 := hl512
  unfold apsD at h
  split at h
  · cases h
  · simp only at h
    split at h
    · cases h
    · cases ha : allS rela (tk ⟨(nums (b.drop 4).length (b.drop 4)).1, false⟩).2.toNat 513 ⟨(tk (tk ⟨(nums (b.drop 4).length (b.drop 4)).1, false⟩).1).1, (tk (tk ⟨(nums (b.drop 4).length (b.drop 4)).1, false⟩).1).2, 0, []⟩ with
      | none => rw [ha] at h; cases h
      | some g =>
        rw [ha] at h
        have hk := allS_ok _ _ _ ha (fun r hr => by cases hr) (show isI64r 0 from ⟨by decide, by decide⟩)
        have h : (if g.s.N = [] ∧ (nums (b.drop 4).length (b.drop 4)).2 = true then some g.out else none) = some l := h
        split at h
        · have := Option.some.inj h
          subst this
          refine ⟨fun r hr => (hk r hr).1, ?_⟩
          unfold encOk
          rw [decide_eq_true hl, Bool.true_and, List.all_eq_true]
          exact fun r hr => (hk r hr).2
        · cases h
theorem apsB_len (rela : Bool) (l : List S_api_Rel) : (apsB rela l).length ≤ 30000 := by
  unfold apsB
  split
  · rename_i h
    unfold encOk at h
    rw [Bool.and_eq_true, decide_eq_true_eq] at h
    have := numsE_len rela l l.length
    rw [List.length_append]
    have hm4 : mark.length = 4 := rfl
    omega
  · simp
set_option maxRecDepth 100000 in
set_option maxHeartbeats 1000000 in
theorem law_ApsBack (o1 : Option (List S_api_Rel)) (o2 : Option (List UInt8)) (hw : okRels (lst o1)) (rela : Bool) : Ev TAps 10 [slV RelE o1, slV byteE o2, .bool rela] [] fun v _ => v = .bool true := by
  rw [Ev_fn rfl rfl]
  by_cases hl : (lst o1).length ≤ 1000
  · have q : ¬ ((1000 : Int) < (lst o1).length) := by omega
    by_cases hl2 : (lst o2).length ≤ 20000
    · have q2 : ¬ ((20000 : Int) < (lst o2).length) := by omega
      obtain ⟨⟨x, px, cx⟩, _⟩ := aps_Enc o1 hw rela
      have hxl := apsB_len rela (lst o1)
      obtain ⟨y, py, cy⟩ := f_aps_Decode (T := TAps) rfl rfl rfl rfl rfl rfl rfl rfl x (by rw [px]; omega) rela
      obtain ⟨z, pz, cz⟩ := f_aps_Decode (T := TAps) rfl rfl rfl rfl rfl rfl rfl rfl o2 (by omega) rela
      rw [px] at py cy
      have hdl := apsL_len rela (apsB rela (lst o1))
      have c3 := f_ref12_Same (T := TAps) (apsL rela (apsB rela (lst o1))) (lst o1) (slV RelE y) (slV RelE o1) (src_of py) Src_sl (by omega) rfl pure_rl pure_rl
      have lx : ∀ H, lenI H 1 (slV byteE x) = some (.int .i64 (apsB rela (lst o1)).length, H) := (src_of px).1
      have lz : ∀ H, lenI H 1 (slV RelE z) = some (.int .i64 (apsL rela (lst o2)).length, H) := (src_of pz).1
      have part2 : ∀ (env : Env) (H : Heap), env 1 = slV byteE o2 → env 2 = .bool rela → W TAps (.reg F_law14_ApsBackr7) env H (seqQ TAps (.seq (.seq (.reg F_law14_ApsBackr8) (.cond (.t 65) (.seq (.reg F_law14_ApsBackr9) .ret) .skip)) (.seq (.reg F_law14_ApsBackr10) (.seq (.reg F_law14_ApsBackr11) (.seq (.reg F_law14_ApsBackr12) .ret)))) (retQ [.tmp 6] fun v _ => v = .bool true)) := by
        intro env H e1 e2
        cases hD : apsD rela (lst o2) with
        | none =>
          have hC : apsC rela (lst o2) = 140 := by unfold apsC; rw [hD]; rfl
          have hL : apsL rela (lst o2) = [] := by unfold apsL; rw [hD]; rfl
          rw [hC] at cz
          rw [hL] at lz
          simp only [fws, cond_true, cond_false, if_true, if_false, unV, isNil, optI, iV, stepI, evalR, reduceIte, reduceCtorEq, Nat.reduceEqDiff, Int.reduceLT, Int.reduceLE, Int.reduceToNat, Nat.reduceLT, Nat.reduceLeDiff, Int.reduceEq, Int.reduceNeg, IntKind.bits, Nat.reduceAdd, Nat.reduceMul, Nat.reducePow, Int.reducePow, ini, fwi, F_law14_ApsBackr0_W, F_law14_ApsBackr1_W, F_law14_ApsBackr1_g3, F_law14_ApsBackr2_W, F_law14_ApsBackr3_W, F_law14_ApsBackr4_W, F_law14_ApsBackr5_W, F_law14_ApsBackr5_g2, F_law14_ApsBackr5_g5, F_law14_ApsBackr5_g12, F_law14_ApsBackr5_g15, F_law14_ApsBackr6_W, F_law14_ApsBackr7_W, F_law14_ApsBackr8_W, F_law14_ApsBackr9_W, F_law14_ApsBackr9_g3, F_law14_ApsBackr10_W, F_law14_ApsBackr11_W, F_law14_ApsBackr12_W, F_law14_ApsBackr12_g2, F_law14_ApsBackr12_g6, F_law14_ApsBackr12_g11, F_law14_ApsBackc_W, F_law14_ApsBackr0_W, F_law14_ApsBackr1_W, F_law14_ApsBackr1_g3, F_law14_ApsBackr2_W, F_law14_ApsBackr3_W, F_law14_ApsBackr4_W, F_law14_ApsBackr5_W, F_law14_ApsBackr5_g2, F_law14_ApsBackr5_g5, F_law14_ApsBackr5_g12, F_law14_ApsBackr5_g15, F_law14_ApsBackr6_W, F_law14_ApsBackr7_W, F_law14_ApsBackr8_W, F_law14_ApsBackr9_W, F_law14_ApsBackr9_g3, F_law14_ApsBackr10_W, F_law14_ApsBackr11_W, F_law14_ApsBackr12_W, F_law14_ApsBackr12_g2, F_law14_ApsBackr12_g6, F_law14_ApsBackr12_g11, F_law14_ApsBackc_W, e1, e2, CC_of cz, lz, CC_of aps_alive, List.length_nil, List.getElem?_cons_zero, List.getElem?_cons_succ, List.getElem?_toArray]
        | some l =>
          have hC : apsC rela (lst o2) = 0 := by unfold apsC; rw [hD]; rfl
          have hL : apsL rela (lst o2) = l := by unfold apsL; rw [hD]; rfl
          rw [hC] at cz
          rw [hL] at pz
          obtain ⟨ok1, ok2⟩ := apsD_ok hD
          obtain ⟨⟨c, pc, cc⟩, _⟩ := aps_Enc z (by rw [pz]; exact ok1) rela
          rw [pz] at pc cc
          have hE : apsE rela l = 0 := by unfold apsE; rw [ok2]; rfl
          rw [hE] at cc
          have hcl := apsB_len rela l
          obtain ⟨w, pw, cw⟩ := f_aps_Decode (T := TAps) rfl rfl rfl rfl rfl rfl rfl rfl c (by rw [pc]; omega) rela
          rw [pc] at pw cw
          have hback := aps_back rela l ok1 ok2
          have hC2 : apsC rela (apsB rela l) = 0 := by unfold apsC; rw [hback]; rfl
          have hL2 : apsL rela (apsB rela l) = l := by unfold apsL; rw [hback]; rfl
          rw [hC2] at cw
          rw [hL2] at pw
          have hl5 : l.length ≤ 512 := by have := apsL_len rela (lst o2); rw [hL] at this; exact this
          have c5 := f_ref12_Same (T := TAps) l l (slV RelE w) (slV RelE z) (src_of pw) (src_of pz) (by omega) rfl pure_rl pure_rl
          rw [decide_eq_true rfl] at c5
          simp only [fws, cond_true, cond_false, if_true, if_false, unV, isNil, optI, iV, stepI, evalR, reduceIte, reduceCtorEq, Nat.reduceEqDiff, Int.reduceLT, Int.reduceLE, Int.reduceToNat, Nat.reduceLT, Nat.reduceLeDiff, Int.reduceEq, Int.reduceNeg, IntKind.bits, Nat.reduceAdd, Nat.reduceMul, Nat.reducePow, Int.reducePow, ini, fwi, F_law14_ApsBackr0_W, F_law14_ApsBackr1_W, F_law14_ApsBackr1_g3, F_law14_ApsBackr2_W, F_law14_ApsBackr3_W, F_law14_ApsBackr4_W, F_law14_ApsBackr5_W, F_law14_ApsBackr5_g2, F_law14_ApsBackr5_g5, F_law14_ApsBackr5_g12, F_law14_ApsBackr5_g15, F_law14_ApsBackr6_W, F_law14_ApsBackr7_W, F_law14_ApsBackr8_W, F_law14_ApsBackr9_W, F_law14_ApsBackr9_g3, F_law14_ApsBackr10_W, F_law14_ApsBackr11_W, F_law14_ApsBackr12_W, F_law14_ApsBackr12_g2, F_law14_ApsBackr12_g6, F_law14_ApsBackr12_g11, F_law14_ApsBackc_W, F_law14_ApsBackr0_W, F_law14_ApsBackr1_W, F_law14_ApsBackr1_g3, F_law14_ApsBackr2_W, F_law14_ApsBackr3_W, F_law14_ApsBackr4_W, F_law14_ApsBackr5_W, F_law14_ApsBackr5_g2, F_law14_ApsBackr5_g5, F_law14_ApsBackr5_g12, F_law14_ApsBackr5_g15, F_law14_ApsBackr6_W, F_law14_ApsBackr7_W, F_law14_ApsBackr8_W, F_law14_ApsBackr9_W, F_law14_ApsBackr9_g3, F_law14_ApsBackr10_W, F_law14_ApsBackr11_W, F_law14_ApsBackr12_W, F_law14_ApsBackr12_g2, F_law14_ApsBackr12_g6, F_law14_ApsBackr12_g11, F_law14_ApsBackc_W, e1, e2, CC_of cz, CC_of cc, CC_of cw, CC_of c5, CC_of aps_alive, List.getElem?_cons_zero, List.getElem?_cons_succ, List.getElem?_toArray]
      cases hok : encOk rela (lst o1) with
      | true =>
        have hE : apsE rela (lst o1) = 0 := by unfold apsE; rw [hok]; rfl
        have hback := aps_back rela (lst o1) hw hok
        have hC2 : apsC rela (apsB rela (lst o1)) = 0 := by unfold apsC; rw [hback]; rfl
        have hL2 : apsL rela (apsB rela (lst o1)) = lst o1 := by unfold apsL; rw [hback]; rfl
        rw [hE] at cx
        rw [hC2] at cy
        rw [hL2, decide_eq_true rfl] at c3
        simp only [F_law14_ApsBack, fws, cond_true, cond_false, if_true, if_false, unV, isNil, optI, iV, stepI, evalR, reduceIte, reduceCtorEq, Nat.reduceEqDiff, Int.reduceLT, Int.reduceLE, Int.reduceToNat, Nat.reduceLT, Nat.reduceLeDiff, Int.reduceEq, Int.reduceNeg, IntKind.bits, Nat.reduceAdd, Nat.reduceMul, Nat.reducePow, Int.reducePow, ini, fwi, F_law14_ApsBackr0_W, F_law14_ApsBackr1_W, F_law14_ApsBackr1_g3, F_law14_ApsBackr2_W, F_law14_ApsBackr3_W, F_law14_ApsBackr4_W, F_law14_ApsBackr5_W, F_law14_ApsBackr5_g2, F_law14_ApsBackr5_g5, F_law14_ApsBackr5_g12, F_law14_ApsBackr5_g15, F_law14_ApsBackr6_W, F_law14_ApsBackr8_W, F_law14_ApsBackr9_W, F_law14_ApsBackr9_g3, F_law14_ApsBackr10_W, F_law14_ApsBackr11_W, F_law14_ApsBackr12_W, F_law14_ApsBackr12_g2, F_law14_ApsBackr12_g6, F_law14_ApsBackr12_g11, F_law14_ApsBackc_W, F_law14_ApsBackr0_W, F_law14_ApsBackr1_W, F_law14_ApsBackr1_g3, F_law14_ApsBackr2_W, F_law14_ApsBackr3_W, F_law14_ApsBackr4_W, F_law14_ApsBackr5_W, F_law14_ApsBackr5_g2, F_law14_ApsBackr5_g5, F_law14_ApsBackr5_g12, F_law14_ApsBackr5_g15, F_law14_ApsBackr6_W, F_law14_ApsBackr8_W, F_law14_ApsBackr9_W, F_law14_ApsBackr9_g3, F_law14_ApsBackr10_W, F_law14_ApsBackr11_W, F_law14_ApsBackr12_W, F_law14_ApsBackr12_g2, F_law14_ApsBackr12_g6, F_law14_ApsBackr12_g11, F_law14_ApsBackc_W, lenI_sl, q, q2, CC_of cx, CC_of cy, CC_of c3, List.getElem?_cons_zero, List.getElem?_cons_succ, List.getElem?_toArray]
        refine part2 _ _ ?_ ?_
        all_goals (first | assumption | rfl)
      | false =>
        have hE : apsE rela (lst o1) = 140 := by unfold apsE; rw [hok]; rfl
        have hB : apsB rela (lst o1) = [] := by unfold apsB; rw [hok]; rfl
        rw [hE] at cx
        rw [hB] at lx
        simp only [F_law14_ApsBack, fws, cond_true, cond_false, if_true, if_false, unV, isNil, optI, iV, stepI, evalR, reduceIte, reduceCtorEq, Nat.reduceEqDiff, Int.reduceLT, Int.reduceLE, Int.reduceToNat, Nat.reduceLT, Nat.reduceLeDiff, Int.reduceEq, Int.reduceNeg, IntKind.bits, Nat.reduceAdd, Nat.reduceMul, Nat.reducePow, Int.reducePow, ini, fwi, F_law14_ApsBackr0_W, F_law14_ApsBackr1_W, F_law14_ApsBackr1_g3, F_law14_ApsBackr2_W, F_law14_ApsBackr3_W, F_law14_ApsBackr4_W, F_law14_ApsBackr5_W, F_law14_ApsBackr5_g2, F_law14_ApsBackr5_g5, F_law14_ApsBackr5_g12, F_law14_ApsBackr5_g15, F_law14_ApsBackr6_W, F_law14_ApsBackr8_W, F_law14_ApsBackr9_W, F_law14_ApsBackr9_g3, F_law14_ApsBackr10_W, F_law14_ApsBackr11_W, F_law14_ApsBackr12_W, F_law14_ApsBackr12_g2, F_law14_ApsBackr12_g6, F_law14_ApsBackr12_g11, F_law14_ApsBackc_W, F_law14_ApsBackr0_W, F_law14_ApsBackr1_W, F_law14_ApsBackr1_g3, F_law14_ApsBackr2_W, F_law14_ApsBackr3_W, F_law14_ApsBackr4_W, F_law14_ApsBackr5_W, F_law14_ApsBackr5_g2, F_law14_ApsBackr5_g5, F_law14_ApsBackr5_g12, F_law14_ApsBackr5_g15, F_law14_ApsBackr6_W, F_law14_ApsBackr8_W, F_law14_ApsBackr9_W, F_law14_ApsBackr9_g3, F_law14_ApsBackr10_W, F_law14_ApsBackr11_W, F_law14_ApsBackr12_W, F_law14_ApsBackr12_g2, F_law14_ApsBackr12_g6, F_law14_ApsBackr12_g11, F_law14_ApsBackc_W, lenI_sl, q, q2, CC_of cx, CC_of cy, lx, List.length_nil, List.getElem?_cons_zero, List.getElem?_cons_succ, List.getElem?_toArray]
        refine part2 _ _ ?_ ?_
        all_goals (first | assumption | rfl)
    · have q2 : ((20000 : Int) < (lst o2).length) := by omega
      simp only [F_law14_ApsBack, fws, cond_true, cond_false, if_true, if_false, unV, isNil, optI, iV, stepI, evalR, reduceIte, reduceCtorEq, Nat.reduceEqDiff, Int.reduceLT, Int.reduceLE, Int.reduceToNat, Nat.reduceLT, Nat.reduceLeDiff, Int.reduceEq, Int.reduceNeg, IntKind.bits, Nat.reduceAdd, Nat.reduceMul, Nat.reducePow, Int.reducePow, ini, fwi, F_law14_ApsBackr0_W, F_law14_ApsBackr1_W, F_law14_ApsBackr1_g3, F_law14_ApsBackr2_W, F_law14_ApsBackr3_W, F_law14_ApsBackr4_W, F_law14_ApsBackr5_W, F_law14_ApsBackr5_g2, F_law14_ApsBackr5_g5, F_law14_ApsBackr5_g12, F_law14_ApsBackr5_g15, F_law14_ApsBackr6_W, F_law14_ApsBackr7_W, F_law14_ApsBackr8_W, F_law14_ApsBackr9_W, F_law14_ApsBackr9_g3, F_law14_ApsBackr10_W, F_law14_ApsBackr11_W, F_law14_ApsBackr12_W, F_law14_ApsBackr12_g2, F_law14_ApsBackr12_g6, F_law14_ApsBackr12_g11, F_law14_ApsBackc_W, F_law14_ApsBackr0_W, F_law14_ApsBackr1_W, F_law14_ApsBackr1_g3, F_law14_ApsBackr2_W, F_law14_ApsBackr3_W, F_law14_ApsBackr4_W, F_law14_ApsBackr5_W, F_law14_ApsBackr5_g2, F_law14_ApsBackr5_g5, F_law14_ApsBackr5_g12, F_law14_ApsBackr5_g15, F_law14_ApsBackr6_W, F_law14_ApsBackr7_W, F_law14_ApsBackr8_W, F_law14_ApsBackr9_W, F_law14_ApsBackr9_g3, F_law14_ApsBackr10_W, F_law14_ApsBackr11_W, F_law14_ApsBackr12_W, F_law14_ApsBackr12_g2, F_law14_ApsBackr12_g6, F_law14_ApsBackr12_g11, F_law14_ApsBackc_W, lenI_sl, q, q2]
  · have q : ((1000 : Int) < (lst o1).length) := by omega
    simp only [F_law14_ApsBack, fws, cond_true, cond_false, if_true, if_false, unV, isNil, optI, iV, stepI, evalR, reduceIte, reduceCtorEq, Nat.reduceEqDiff, Int.reduceLT, Int.reduceLE, Int.reduceToNat, Nat.reduceLT, Nat.reduceLeDiff, Int.reduceEq, Int.reduceNeg, IntKind.bits, Nat.reduceAdd, Nat.reduceMul, Nat.reducePow, Int.reducePow, ini, fwi, F_law14_ApsBackr0_W, F_law14_ApsBackr1_W, F_law14_ApsBackr1_g3, F_law14_ApsBackr2_W, F_law14_ApsBackr3_W, F_law14_ApsBackr4_W, F_law14_ApsBackr5_W, F_law14_ApsBackr5_g2, F_law14_ApsBackr5_g5, F_law14_ApsBackr5_g12, F_law14_ApsBackr5_g15, F_law14_ApsBackr6_W, F_law14_ApsBackr7_W, F_law14_ApsBackr8_W, F_law14_ApsBackr9_W, F_law14_ApsBackr9_g3, F_law14_ApsBackr10_W, F_law14_ApsBackr11_W, F_law14_ApsBackr12_W, F_law14_ApsBackr12_g2, F_law14_ApsBackr12_g6, F_law14_ApsBackr12_g11, F_law14_ApsBackc_W, F_law14_ApsBackr0_W, F_law14_ApsBackr1_W, F_law14_ApsBackr1_g3, F_law14_ApsBackr2_W, F_law14_ApsBackr3_W, F_law14_ApsBackr4_W, F_law14_ApsBackr5_W, F_law14_ApsBackr5_g2, F_law14_ApsBackr5_g5, F_law14_ApsBackr5_g12, F_law14_ApsBackr5_g15, F_law14_ApsBackr6_W, F_law14_ApsBackr7_W, F_law14_ApsBackr8_W, F_law14_ApsBackr9_W, F_law14_ApsBackr9_g3, F_law14_ApsBackr10_W, F_law14_ApsBackr11_W, F_law14_ApsBackr12_W, F_law14_ApsBackr12_g2, F_law14_ApsBackr12_g6, F_law14_ApsBackr12_g11, F_law14_ApsBackc_W, lenI_sl, q]
end Go.Proofs.Ytdkdifjjpbfohaa
