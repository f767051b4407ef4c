/- Groups of relocations: the program's reading. -/
import Derived.Test.YtdkdifjjpbfohaaApsF
namespace Go.Proofs.Ytdkdifjjpbfohaa
open Go Fw
set_option linter.unusedSimpArgs false
set_option linter.unusedVariables false
set_option linter.unusedSectionVars false

def part {α : Type} (o : Option (List α)) (i j : Nat) : Option (List α) := o.map fun l => (l.drop i).take (j - i)
theorem lst_part {α : Type} {o : Option (List α)} {i j : Nat} : lst (part o i j) = ((lst o).drop i).take (j - i) := by cases o <;> simp [part, lst]
theorem sleI_sl {α : Type} {E : Enc α} {o : Option (List α)} {H : Heap} {n : Nat} (hn : n = E.u) {lo hi mx : Option Value} {i j k : Nat} (h1 : optJ 0 lo = some (i : Int)) (h2 : optJ (lst o).length hi = some (j : Int)) (h3 : optJ (lst o).length mx = some (k : Int)) (h4 : i ≤ j ∧ j ≤ k ∧ k ≤ (lst o).length) :
    sleI H n (slV E o) lo hi mx = some (slV E (part o i j), H) := by
  cases o with
  | some l => exact sleI_imm hn h1 h2 h3 ⟨by omega, by omega, by omega, by have := h4.2.2; simp only [lst_some] at this; omega⟩
  | none =>
    simp only [lst_none, List.length_nil] at h2 h3 h4
    have e1 : i = 0 := by omega
    have e2 : j = 0 := by omega
    have e3 : k = 0 := by omega
    subst e1; subst e2; subst e3
    simp only [sleI, slV, h1]
    have g2 : optJ 0 hi = some 0 := h2
    have g3 : optJ 0 mx = some 0 := h3
    rw [g2, g3]
    rfl
theorem strEq_str {a b : List UInt8} : strEq ⟨a.toArray⟩ ⟨b.toArray⟩ = decide (a = b) := by
  show (a == b) = _
  by_cases h : a = b
  · subst h; simp
  · simp [h]
theorem FnV_ex {T : Tab} {f : Nat} {args : List Value} {X : Type} {P : X → Prop} {g : X → Value} (hp : args.all (pureV 6) = true) (h : Ev T f args [] fun u h => ∃ x, P x ∧ frz 8 h u = some (g x)) : ∃ x, P x ∧ FnV T f args (g x) := by
  obtain ⟨n, u, h', h1, x, hx, h2⟩ := h
  exact ⟨x, hx, hp, n, u, h', h1, h2⟩
theorem Own.frzE {α : Type} {E : Enc α} {H : Heap} {v : Value} {l : List α} (h : Own E H v l) {k : Nat} (hk : E.d ≤ k) : ∃ o, lst o = l ∧ frz (k + 1) H v = some (slV E o) := by
  rcases h with ⟨rfl, rfl⟩ | ⟨b, tag, rfl, hH⟩
  · exact ⟨none, rfl, rfl⟩
  · have hlk : lk H ⟨b, 0, spotOf tag⟩ = some ⟨tag, .cells false E.u (E.cs l)⟩ := own_lk (tag := tag) (o := .cells false E.u (E.cs l)) hH
    refine ⟨some l, rfl, ?_⟩
    have h1 : pureV (k + 1) (own b tag l.length) = false := rfl
    simp only [frz, h1, cond_false]
    simp only [own, hlk, List.drop_zero, rdN_cs rfl, Option.bind_some]
    rw [mapM_pure (cs_pure' hk)]
    rfl
theorem pure_by {o : Option (List UInt8)} : pureV 6 (slV byteE o) = true := pure_sl (E := byteE) (o := o) (k := 6) rfl
theorem pure_rl {o : Option (List S_api_Rel)} : pureV 6 (slV RelE o) = true := pure_sl (E := RelE) (o := o) (k := 6) rfl
def apsL (rela : Bool) (b : List UInt8) : List S_api_Rel := (apsD rela b).getD []
def apsC (rela : Bool) (b : List UInt8) : Int := if (apsD rela b).isSome then 0 else 140
theorem out_none {rela : Bool} {b : List UInt8} (h : apsD rela b = none) {H : Heap} : ∃ o, lst o = apsL rela b ∧ frz 8 H (.tuple #[.slice none 0 0, .int .i64 140]) = some (.tuple #[slV RelE o, .int .i64 (apsC rela b)]) :=
  ⟨none, by unfold apsL; rw [h]; rfl, by unfold apsC; rw [h]; rfl⟩
theorem out_some {rela : Bool} {b : List UInt8} {l : List S_api_Rel} (h : apsD rela b = some l) {H : Heap} {u : Value} (ho : Own RelE H u l) : ∃ o, lst o = apsL rela b ∧ frz 8 H (.tuple #[u, .int .i64 0]) = some (.tuple #[slV RelE o, .int .i64 (apsC rela b)]) := by
  obtain ⟨o, p1, p2⟩ := Own.frzE ho (k := 6) (by decide)
  exact ⟨o, by rw [p1]; unfold apsL; rw [h]; rfl, by unfold apsC; rw [h]; exact frz_t2 p2 (frz_pure rfl)⟩
set_option maxHeartbeats 1000000 in
theorem f_aps_Decode {T : Tab} (hR : T 17 = some F_leb_Read) (hg0 : T 39 = some F_leb_Reader_groups) (hS : T 19 = some F_leb_Reader_S) (hF : T 22 = some F_leb_Reader_Fail) (hL : T 23 = some F_leb_Reader_Left) (h1 : T 60 = some F_aps_state_one) (h2 : T 40 = some F_aps_state_group) (h : T 25 = some F_aps_Decode)
    (o : Option (List UInt8)) (hl : (lst o).length ≤ 100000) (rela : Bool) : ∃ x, lst x = apsL rela (lst o) ∧ FnV T 25 [slV byteE o, .bool rela] (.tuple #[slV RelE x, .int .i64 (apsC rela (lst o))]) := by
  refine FnV_ex (g := fun x => .tuple #[slV RelE x, .int .i64 (apsC rela (lst o))]) (by simp [pure_bool, pure_by]) ?_
  rw [Ev_fn h rfl]
  by_cases q1 : (lst o).length < 4
  · have hn : apsD rela (lst o) = none := if_pos (.inl q1)
    have q1' : ((lst o).length : Int) < 4 := by omega
    simp only [F_aps_Decode, fws, cond_true, cond_false, if_true, if_false, unV, isNil, optI, iV, stepI, evalR, reduceIte, reduceCtorEq, Nat.reduceEqDiff, Int.reduceLT, Int.reduceLE, Int.reduceToNat, Nat.reduceLT, Nat.reduceLeDiff, Int.reduceEq, Int.reduceNeg, IntKind.bits, Nat.reduceAdd, Nat.reduceMul, Nat.reducePow, Int.reducePow, ini, fwi, F_aps_Decoder0_W, F_aps_Decoder1_W, F_aps_Decoder1_g3, F_aps_Decoder2_W, F_aps_Decoder3_W, F_aps_Decoder4_W, F_aps_Decoder5_W, F_aps_Decoder6_W, F_aps_Decoder6_g6, F_aps_Decoder6_g10, F_aps_Decoder7_W, F_aps_Decoder8_W, F_aps_Decoder9_W, F_aps_Decoder10_W, F_aps_Decodel0_W, F_aps_Decoder11_W, F_aps_Decoder12_W, F_aps_Decoder13_W, F_aps_Decodec_W, F_aps_Decoder0_W, F_aps_Decoder1_W, F_aps_Decoder1_g3, F_aps_Decoder2_W, F_aps_Decoder3_W, F_aps_Decoder4_W, F_aps_Decoder5_W, F_aps_Decoder6_W, F_aps_Decoder6_g6, F_aps_Decoder6_g10, F_aps_Decoder7_W, F_aps_Decoder8_W, F_aps_Decoder9_W, F_aps_Decoder10_W, F_aps_Decodel0_W, F_aps_Decoder11_W, F_aps_Decoder12_W, F_aps_Decoder13_W, F_aps_Decodec_W, lenI_sl, q1']
    exact out_none hn
  have q1' : ¬ ((lst o).length : Int) < 4 := by omega
  have hs1 : ∀ H, sleI H 1 (slV byteE o) none (some (.int .i64 4)) none = some (slV byteE (part o 0 4), H) := fun H => sleI_sl (E := byteE) (i := 0) (j := 4) (k := (lst o).length) rfl rfl rfl rfl (by omega)
  have hb : ∀ H, b2sI H (slV byteE (part o 0 4)) = some (strV ((lst o).take 4), H) := fun H => by
    have := b2sI_sl (o := part o 0 4) (H := H)
    rwa [lst_part, List.drop_zero] at this
  have hcmp : strEq ⟨((lst o).take 4).toArray⟩ ⟨#[65, 80, 83, 50]⟩ = decide ((lst o).take 4 = [65, 80, 83, 50]) := strEq_str (b := [65, 80, 83, 50])
  by_cases q2 : (lst o).take 4 = [65, 80, 83, 50]
  · have hs2 : ∀ H, sleI H 1 (slV byteE o) (some (.int .i64 4)) none none = some (slV byteE (part o 4 (lst o).length), H) := fun H => sleI_sl (E := byteE) (i := 4) (j := (lst o).length) (k := (lst o).length) rfl rfl rfl rfl (by omega)
    have hl4 : lst (part o 4 (lst o).length) = (lst o).drop 4 := by rw [lst_part]; exact List.take_of_length_le (by rw [List.length_drop]; omega)
    generalize hrest : (lst o).drop 4 = r at *
    have hrl : r.length ≤ 100000 := by rw [← hrest, List.length_drop]; omega
    have hsrc : ∀ H, srcOf H 1 (slV byteE (part o 4 (lst o).length)) = some (byteE.cs r, r.length) := fun H => by
      have := srcOf_sl (E := byteE) (n := 1) (o := part o 4 (lst o).length) (H := H) rfl
      rwa [hl4] at this
    have cR := ev_leb_Read (T := T) hR [] r (by omega) (slV byteE (part o 4 (lst o).length)) (hsrc [])
    rw [decide_eq_true q2] at hcmp
    have hD : apsD rela (lst o) = (let x := nums r.length r
        let m := tk ⟨x.1, false⟩
        let a := tk m.1
        if a.1.bad = true ∨ m.2 < 0 ∨ 512 < m.2 then none else (allS rela m.2.toNat 513 ⟨a.1, a.2, 0, []⟩).bind fun g => if g.s.N = [] ∧ x.2 = true then some g.out else none) := by
      unfold apsD
      rw [if_neg (by intro h; rcases h with h | h; exact q1 h; exact h q2), hrest]
    simp only at hD
    have main : ∀ (env : Env) (H : Heap), Stt H r (nums r.length r).2 rela ⟨(tk (tk ⟨(nums r.length r).1, false⟩).1).1, (tk (tk ⟨(nums r.length r).1, false⟩).1).2, 0, []⟩ (.slice none 0 0) → env 6 = .pointer (some ⟨1, 0, none⟩) → env 7 = .int .i64 (tk ⟨(nums r.length r).1, false⟩).2 →
        W T (.reg F_aps_Decoder6) env H (seqQ T (.cond (.t 50) (.seq (.reg F_aps_Decoder7) .ret) .skip) (seqQ T (.seq (.block 0 (.loop F_aps_Decodel0)) (.seq (.seq (.reg F_aps_Decoder11) (.cond (.t 73) (.seq (.reg F_aps_Decoder12) .ret) .skip)) (.seq (.reg F_aps_Decoder13) .ret))) (retQ [.tmp 4, .tmp 5] fun u h => ∃ y, lst y = apsL rela (lst o) ∧ frz 8 h u = some (.tuple #[slV RelE y, .int .i64 (apsC rela (lst o))])))) := by
      intro env H t3 e6 e7
      generalize nums r.length r = x at *
      generalize tk ⟨x.1, false⟩ = m at *
      generalize tk m.1 = a at *
      obtain ⟨y0, y1, y2, y3, y4⟩ := t3.cells
      have c3 := ev_F (T := T) hF t3
      simp only [fws, cond_true, cond_false, if_true, if_false, unV, isNil, optI, iV, stepI, evalR, reduceIte, reduceCtorEq, Nat.reduceEqDiff, Int.reduceLT, Int.reduceLE, Int.reduceToNat, Nat.reduceLT, Nat.reduceLeDiff, Int.reduceEq, Int.reduceNeg, IntKind.bits, Nat.reduceAdd, Nat.reduceMul, Nat.reducePow, Int.reducePow, ini, fwi, F_aps_Decoder0_W, F_aps_Decoder1_W, F_aps_Decoder1_g3, F_aps_Decoder2_W, F_aps_Decoder3_W, F_aps_Decoder4_W, F_aps_Decoder5_W, F_aps_Decoder6_W, F_aps_Decoder6_g6, F_aps_Decoder6_g10, F_aps_Decoder7_W, F_aps_Decoder8_W, F_aps_Decoder9_W, F_aps_Decoder10_W, F_aps_Decodel0_W, F_aps_Decoder12_W, F_aps_Decoder13_W, F_aps_Decodec_W, F_aps_Decoder0_W, F_aps_Decoder1_W, F_aps_Decoder1_g3, F_aps_Decoder2_W, F_aps_Decoder3_W, F_aps_Decoder4_W, F_aps_Decoder5_W, F_aps_Decoder6_W, F_aps_Decoder6_g6, F_aps_Decoder6_g10, F_aps_Decoder7_W, F_aps_Decoder8_W, F_aps_Decoder9_W, F_aps_Decoder10_W, F_aps_Decodel0_W, F_aps_Decoder12_W, F_aps_Decoder13_W, F_aps_Decodec_W, e6, e7, y0]
      refine c3.mono fun v H3 ⟨⟨n, hv, hn⟩, hh⟩ => ?_
      subst hv hh
      cases hbad : a.1.bad with
      | true =>
        have n0 : ¬ n = 0 := fun h0 => by have h := hn.1 h0; rw [hbad] at h; cases h
        simp only [fws, cond_true, cond_false, if_true, if_false, unV, isNil, optI, iV, stepI, evalR, reduceIte, reduceCtorEq, Nat.reduceEqDiff, Int.reduceLT, Int.reduceLE, Int.reduceToNat, Nat.reduceLT, Nat.reduceLeDiff, Int.reduceEq, Int.reduceNeg, IntKind.bits, Nat.reduceAdd, Nat.reduceMul, Nat.reducePow, Int.reducePow, ini, fwi, F_aps_Decoder0_W, F_aps_Decoder1_W, F_aps_Decoder1_g3, F_aps_Decoder2_W, F_aps_Decoder3_W, F_aps_Decoder4_W, F_aps_Decoder5_W, F_aps_Decoder6_W, F_aps_Decoder6_g6, F_aps_Decoder6_g10, F_aps_Decoder7_W, F_aps_Decoder8_W, F_aps_Decoder9_W, F_aps_Decoder10_W, F_aps_Decodel0_W, F_aps_Decoder12_W, F_aps_Decoder13_W, F_aps_Decodec_W, F_aps_Decoder0_W, F_aps_Decoder1_W, F_aps_Decoder1_g3, F_aps_Decoder2_W, F_aps_Decoder3_W, F_aps_Decoder4_W, F_aps_Decoder5_W, F_aps_Decoder6_W, F_aps_Decoder6_g6, F_aps_Decoder6_g10, F_aps_Decoder7_W, F_aps_Decoder8_W, F_aps_Decoder9_W, F_aps_Decoder10_W, F_aps_Decodel0_W, F_aps_Decoder12_W, F_aps_Decoder13_W, F_aps_Decodec_W, e6, e7, n0]
        exact out_none (by rw [hD, if_pos (.inl hbad)])
      | false =>
        have n0 : n = 0 := hn.2 hbad
        by_cases p1 : m.2 < 0
        · simp only [fws, cond_true, cond_false, if_true, if_false, unV, isNil, optI, iV, stepI, evalR, reduceIte, reduceCtorEq, Nat.reduceEqDiff, Int.reduceLT, Int.reduceLE, Int.reduceToNat, Nat.reduceLT, Nat.reduceLeDiff, Int.reduceEq, Int.reduceNeg, IntKind.bits, Nat.reduceAdd, Nat.reduceMul, Nat.reducePow, Int.reducePow, ini, fwi, F_aps_Decoder0_W, F_aps_Decoder1_W, F_aps_Decoder1_g3, F_aps_Decoder2_W, F_aps_Decoder3_W, F_aps_Decoder4_W, F_aps_Decoder5_W, F_aps_Decoder6_W, F_aps_Decoder6_g6, F_aps_Decoder6_g10, F_aps_Decoder7_W, F_aps_Decoder8_W, F_aps_Decoder9_W, F_aps_Decoder10_W, F_aps_Decodel0_W, F_aps_Decoder12_W, F_aps_Decoder13_W, F_aps_Decodec_W, F_aps_Decoder0_W, F_aps_Decoder1_W, F_aps_Decoder1_g3, F_aps_Decoder2_W, F_aps_Decoder3_W, F_aps_Decoder4_W, F_aps_Decoder5_W, F_aps_Decoder6_W, F_aps_Decoder6_g6, F_aps_Decoder6_g10, F_aps_Decoder7_W, F_aps_Decoder8_W, F_aps_Decoder9_W, F_aps_Decoder10_W, F_aps_Decodel0_W, F_aps_Decoder12_W, F_aps_Decoder13_W, F_aps_Decodec_W, e6, e7, n0, p1]
          exact out_none (by rw [hD, if_pos (.inr (.inl p1))])
        by_cases p2 : 512 < m.2
        · simp only [fws, cond_true, cond_false, if_true, if_false, unV, isNil, optI, iV, stepI, evalR, reduceIte, reduceCtorEq, Nat.reduceEqDiff, Int.reduceLT, Int.reduceLE, Int.reduceToNat, Nat.reduceLT, Nat.reduceLeDiff, Int.reduceEq, Int.reduceNeg, IntKind.bits, Nat.reduceAdd, Nat.reduceMul, Nat.reducePow, Int.reducePow, ini, fwi, F_aps_Decoder0_W, F_aps_Decoder1_W, F_aps_Decoder1_g3, F_aps_Decoder2_W, F_aps_Decoder3_W, F_aps_Decoder4_W, F_aps_Decoder5_W, F_aps_Decoder6_W, F_aps_Decoder6_g6, F_aps_Decoder6_g10, F_aps_Decoder7_W, F_aps_Decoder8_W, F_aps_Decoder9_W, F_aps_Decoder10_W, F_aps_Decodel0_W, F_aps_Decoder12_W, F_aps_Decoder13_W, F_aps_Decodec_W, F_aps_Decoder0_W, F_aps_Decoder1_W, F_aps_Decoder1_g3, F_aps_Decoder2_W, F_aps_Decoder3_W, F_aps_Decoder4_W, F_aps_Decoder5_W, F_aps_Decoder6_W, F_aps_Decoder6_g6, F_aps_Decoder6_g10, F_aps_Decoder7_W, F_aps_Decoder8_W, F_aps_Decoder9_W, F_aps_Decoder10_W, F_aps_Decodel0_W, F_aps_Decoder12_W, F_aps_Decoder13_W, F_aps_Decodec_W, e6, e7, n0, p1, p2]
          exact out_none (by rw [hD, if_pos (.inr (.inr p2))])
        rw [if_neg (by rw [hbad]; rintro (h | h | h); cases h; exact p1 h; exact p2 h)] at hD
        obtain ⟨M, hM⟩ : ∃ M : Nat, m.2 = M := ⟨m.2.toNat, by omega⟩
        have hMt : m.2.toNat = M := by omega
        rw [hMt] at hD
        rw [hM] at e7 p1 p2
        simp only [fws, cond_true, cond_false, if_true, if_false, unV, isNil, optI, iV, stepI, evalR, reduceIte, reduceCtorEq, Nat.reduceEqDiff, Int.reduceLT, Int.reduceLE, Int.reduceToNat, Nat.reduceLT, Nat.reduceLeDiff, Int.reduceEq, Int.reduceNeg, IntKind.bits, Nat.reduceAdd, Nat.reduceMul, Nat.reducePow, Int.reducePow, ini, fwi, F_aps_Decoder0_W, F_aps_Decoder1_W, F_aps_Decoder1_g3, F_aps_Decoder2_W, F_aps_Decoder3_W, F_aps_Decoder4_W, F_aps_Decoder5_W, F_aps_Decoder6_W, F_aps_Decoder6_g6, F_aps_Decoder6_g10, F_aps_Decoder7_W, F_aps_Decoder8_W, F_aps_Decoder9_W, F_aps_Decoder10_W, F_aps_Decodel0_W, F_aps_Decoder12_W, F_aps_Decoder13_W, F_aps_Decodec_W, F_aps_Decoder0_W, F_aps_Decoder1_W, F_aps_Decoder1_g3, F_aps_Decoder2_W, F_aps_Decoder3_W, F_aps_Decoder4_W, F_aps_Decoder5_W, F_aps_Decoder6_W, F_aps_Decoder6_g6, F_aps_Decoder6_g10, F_aps_Decoder7_W, F_aps_Decoder8_W, F_aps_Decoder9_W, F_aps_Decoder10_W, F_aps_Decodel0_W, F_aps_Decoder12_W, F_aps_Decoder13_W, F_aps_Decodec_W, e6, e7, n0, p1, p2]
        refine W.mono (loop_aps_Decode hg0 hS hF h1 h2 (by omega) (many := M) (by omega) 513 H3 _ _ _ (by show M < 0 + 513; omega) (Nat.zero_le _) hbad t3 ?_ ?_) fun xx e h hq => ?_
        · (first | assumption | rfl)
        · (first | assumption | rfl)
        cases hall : allS rela M 513 ⟨a.1, a.2, 0, []⟩ with
        | none =>
          rw [hall] at hq hD
          obtain ⟨rfl, e4, e5⟩ := hq
          simp only [fws, cond_true, cond_false, if_true, if_false, unV, isNil, optI, iV, stepI, evalR, reduceIte, reduceCtorEq, Nat.reduceEqDiff, Int.reduceLT, Int.reduceLE, Int.reduceToNat, Nat.reduceLT, Nat.reduceLeDiff, Int.reduceEq, Int.reduceNeg, IntKind.bits, Nat.reduceAdd, Nat.reduceMul, Nat.reducePow, Int.reducePow, ini, fwi, F_aps_Decoder0_W, F_aps_Decoder1_W, F_aps_Decoder1_g3, F_aps_Decoder2_W, F_aps_Decoder3_W, F_aps_Decoder4_W, F_aps_Decoder5_W, F_aps_Decoder6_W, F_aps_Decoder6_g6, F_aps_Decoder6_g10, F_aps_Decoder7_W, F_aps_Decoder8_W, F_aps_Decoder9_W, F_aps_Decoder10_W, F_aps_Decodel0_W, F_aps_Decoder11_W, F_aps_Decoder12_W, F_aps_Decoder13_W, F_aps_Decodec_W, F_aps_Decoder0_W, F_aps_Decoder1_W, F_aps_Decoder1_g3, F_aps_Decoder2_W, F_aps_Decoder3_W, F_aps_Decoder4_W, F_aps_Decoder5_W, F_aps_Decoder6_W, F_aps_Decoder6_g6, F_aps_Decoder6_g10, F_aps_Decoder7_W, F_aps_Decoder8_W, F_aps_Decoder9_W, F_aps_Decoder10_W, F_aps_Decodel0_W, F_aps_Decoder11_W, F_aps_Decoder12_W, F_aps_Decoder13_W, F_aps_Decodec_W, e4, e5]
          exact out_none hD
        | some g' =>
          rw [hall] at hq hD
          obtain ⟨rfl, e6, hb', u', t'⟩ := hq
          obtain ⟨z0, z1, z2, z3, z4⟩ := t'.cells
          have c4 := ev_L (T := T) hL (by omega) t' hb'
          simp only [fws, cond_true, cond_false, if_true, if_false, unV, isNil, optI, iV, stepI, evalR, reduceIte, reduceCtorEq, Nat.reduceEqDiff, Int.reduceLT, Int.reduceLE, Int.reduceToNat, Nat.reduceLT, Nat.reduceLeDiff, Int.reduceEq, Int.reduceNeg, IntKind.bits, Nat.reduceAdd, Nat.reduceMul, Nat.reducePow, Int.reducePow, ini, fwi, F_aps_Decoder0_W, F_aps_Decoder1_W, F_aps_Decoder1_g3, F_aps_Decoder2_W, F_aps_Decoder3_W, F_aps_Decoder4_W, F_aps_Decoder5_W, F_aps_Decoder6_W, F_aps_Decoder6_g6, F_aps_Decoder6_g10, F_aps_Decoder7_W, F_aps_Decoder8_W, F_aps_Decoder9_W, F_aps_Decoder10_W, F_aps_Decodel0_W, F_aps_Decoder11_W, F_aps_Decoder12_W, F_aps_Decodec_W, F_aps_Decoder0_W, F_aps_Decoder1_W, F_aps_Decoder1_g3, F_aps_Decoder2_W, F_aps_Decoder3_W, F_aps_Decoder4_W, F_aps_Decoder5_W, F_aps_Decoder6_W, F_aps_Decoder6_g6, F_aps_Decoder6_g10, F_aps_Decoder7_W, F_aps_Decoder8_W, F_aps_Decoder9_W, F_aps_Decoder10_W, F_aps_Decodel0_W, F_aps_Decoder11_W, F_aps_Decoder12_W, F_aps_Decodec_W, e6, z0]
          refine c4.mono fun v h ⟨⟨k, hv, hk⟩, hh⟩ => ?_
          subst hv hh
          have hD : apsD rela (lst o) = if g'.s.N = [] ∧ x.2 = true then some g'.out else none := hD
          by_cases hend : g'.s.N = [] ∧ x.2 = true
          · have k0 : k = 0 := hk.2 hend
            rw [if_pos hend] at hD
            simp only [fws, cond_true, cond_false, if_true, if_false, unV, isNil, optI, iV, stepI, evalR, reduceIte, reduceCtorEq, Nat.reduceEqDiff, Int.reduceLT, Int.reduceLE, Int.reduceToNat, Nat.reduceLT, Nat.reduceLeDiff, Int.reduceEq, Int.reduceNeg, IntKind.bits, Nat.reduceAdd, Nat.reduceMul, Nat.reducePow, Int.reducePow, ini, fwi, F_aps_Decoder0_W, F_aps_Decoder1_W, F_aps_Decoder1_g3, F_aps_Decoder2_W, F_aps_Decoder3_W, F_aps_Decoder4_W, F_aps_Decoder5_W, F_aps_Decoder6_W, F_aps_Decoder6_g6, F_aps_Decoder6_g10, F_aps_Decoder7_W, F_aps_Decoder8_W, F_aps_Decoder9_W, F_aps_Decoder10_W, F_aps_Decodel0_W, F_aps_Decoder11_W, F_aps_Decoder12_W, F_aps_Decoder13_W, F_aps_Decodec_W, F_aps_Decoder0_W, F_aps_Decoder1_W, F_aps_Decoder1_g3, F_aps_Decoder2_W, F_aps_Decoder3_W, F_aps_Decoder4_W, F_aps_Decoder5_W, F_aps_Decoder6_W, F_aps_Decoder6_g6, F_aps_Decoder6_g10, F_aps_Decoder7_W, F_aps_Decoder8_W, F_aps_Decoder9_W, F_aps_Decoder10_W, F_aps_Decodel0_W, F_aps_Decoder11_W, F_aps_Decoder12_W, F_aps_Decoder13_W, F_aps_Decodec_W, e6, k0, z4]
            exact out_some hD t'.own
          · have k0 : ¬ k = 0 := fun h => hend (hk.1 h)
            rw [if_neg hend] at hD
            simp only [fws, cond_true, cond_false, if_true, if_false, unV, isNil, optI, iV, stepI, evalR, reduceIte, reduceCtorEq, Nat.reduceEqDiff, Int.reduceLT, Int.reduceLE, Int.reduceToNat, Nat.reduceLT, Nat.reduceLeDiff, Int.reduceEq, Int.reduceNeg, IntKind.bits, Nat.reduceAdd, Nat.reduceMul, Nat.reducePow, Int.reducePow, ini, fwi, F_aps_Decoder0_W, F_aps_Decoder1_W, F_aps_Decoder1_g3, F_aps_Decoder2_W, F_aps_Decoder3_W, F_aps_Decoder4_W, F_aps_Decoder5_W, F_aps_Decoder6_W, F_aps_Decoder6_g6, F_aps_Decoder6_g10, F_aps_Decoder7_W, F_aps_Decoder8_W, F_aps_Decoder9_W, F_aps_Decoder10_W, F_aps_Decodel0_W, F_aps_Decoder11_W, F_aps_Decoder12_W, F_aps_Decoder13_W, F_aps_Decodec_W, F_aps_Decoder0_W, F_aps_Decoder1_W, F_aps_Decoder1_g3, F_aps_Decoder2_W, F_aps_Decoder3_W, F_aps_Decoder4_W, F_aps_Decoder5_W, F_aps_Decoder6_W, F_aps_Decoder6_g6, F_aps_Decoder6_g10, F_aps_Decoder7_W, F_aps_Decoder8_W, F_aps_Decoder9_W, F_aps_Decoder10_W, F_aps_Decodel0_W, F_aps_Decoder11_W, F_aps_Decoder12_W, F_aps_Decoder13_W, F_aps_Decodec_W, e6, k0]
            exact out_none hD
    have t0 : Stt [ro r 0 0, stE rela 0 0 (.slice none 0 0)] r (nums r.length r).2 rela ⟨⟨(nums r.length r).1, false⟩, 0, 0, []⟩ (.slice none 0 0) :=
      ⟨⟨0, 0, rfl, Nat.zero_le _, .inl ⟨rfl, rfl, rfl⟩⟩, rfl, Own.nil, by rw [blkV_nil]; simp, by rw [blkV_nil]; simp⟩
    generalize hx : nums r.length r = x at *
    have c1 := ev_S (T := T) hg0 hS (by omega) t0
    have hz : IntKind.u64.wrap 0 = 0 := rfl
    have hH0 : [ro r 0 0, stE rela 0 0 (.slice none 0 0)] = [ro r 0 0, ⟨0, .cells false 5 [.pointer (some ⟨0, 0, none⟩), .bool rela, .int .u64 0, .int .i64 0, .slice none 0 0]⟩] := rfl
    rw [hH0] at c1
    simp only [F_aps_Decode, fws, cond_true, cond_false, if_true, if_false, unV, isNil, optI, iV, stepI, evalR, reduceIte, reduceCtorEq, Nat.reduceEqDiff, Int.reduceLT, Int.reduceLE, Int.reduceToNat, Nat.reduceLT, Nat.reduceLeDiff, Int.reduceEq, Int.reduceNeg, IntKind.bits, Nat.reduceAdd, Nat.reduceMul, Nat.reducePow, Int.reducePow, ini, fwh, lk, cellsAt, tagOf, spotOf, rdN, spl, fillL, zr, fwi, F_aps_Decoder0_W, F_aps_Decoder1_W, F_aps_Decoder1_g3, F_aps_Decoder2_W, F_aps_Decoder3_W, F_aps_Decoder4_W, F_aps_Decoder6_W, F_aps_Decoder6_g6, F_aps_Decoder6_g10, F_aps_Decoder7_W, F_aps_Decoder8_W, F_aps_Decoder9_W, F_aps_Decoder10_W, F_aps_Decodel0_W, F_aps_Decoder11_W, F_aps_Decoder12_W, F_aps_Decoder13_W, F_aps_Decodec_W, F_aps_Decoder0_W, F_aps_Decoder1_W, F_aps_Decoder1_g3, F_aps_Decoder2_W, F_aps_Decoder3_W, F_aps_Decoder4_W, F_aps_Decoder6_W, F_aps_Decoder6_g6, F_aps_Decoder6_g10, F_aps_Decoder7_W, F_aps_Decoder8_W, F_aps_Decoder9_W, F_aps_Decoder10_W, F_aps_Decodel0_W, F_aps_Decoder11_W, F_aps_Decoder12_W, F_aps_Decoder13_W, F_aps_Decodec_W, lenI_sl, q1', hs1, hb, hcmp, hs2, Ev_det cR]
    refine c1.mono fun v H1 ⟨hv, t1, _⟩ => ?_
    subst hv
    obtain ⟨x0, x1, x2, x3, x4⟩ := t1.cells
    have c2 := ev_S (T := T) hg0 hS (by omega) t1
    simp only [fws, cond_true, cond_false, if_true, if_false, unV, isNil, optI, iV, stepI, evalR, reduceIte, reduceCtorEq, Nat.reduceEqDiff, Int.reduceLT, Int.reduceLE, Int.reduceToNat, Nat.reduceLT, Nat.reduceLeDiff, Int.reduceEq, Int.reduceNeg, IntKind.bits, Nat.reduceAdd, Nat.reduceMul, Nat.reducePow, Int.reducePow, ini, fwi, F_aps_Decoder0_W, F_aps_Decoder1_W, F_aps_Decoder1_g3, F_aps_Decoder2_W, F_aps_Decoder3_W, F_aps_Decoder4_W, F_aps_Decoder5_W, F_aps_Decoder7_W, F_aps_Decoder8_W, F_aps_Decoder9_W, F_aps_Decoder10_W, F_aps_Decodel0_W, F_aps_Decoder11_W, F_aps_Decoder12_W, F_aps_Decoder13_W, F_aps_Decodec_W, F_aps_Decoder0_W, F_aps_Decoder1_W, F_aps_Decoder1_g3, F_aps_Decoder2_W, F_aps_Decoder3_W, F_aps_Decoder4_W, F_aps_Decoder5_W, F_aps_Decoder7_W, F_aps_Decoder8_W, F_aps_Decoder9_W, F_aps_Decoder10_W, F_aps_Decodel0_W, F_aps_Decoder11_W, F_aps_Decoder12_W, F_aps_Decoder13_W, F_aps_Decodec_W, x0]
    refine c2.mono fun v H2 ⟨hv, t2, _⟩ => ?_
    subst hv
    have hk := t2.look 2
    have t3 := t2.set (tk (tk ⟨x.1, false⟩).1).2 0
    obtain ⟨y0, y1, y2, y3, y4⟩ := t3.cells
    generalize hm : tk ⟨x.1, false⟩ = m at *
    generalize ha : tk m.1 = a at *
    simp only [fws, cond_true, cond_false, if_true, if_false, unV, isNil, optI, iV, stepI, evalR, reduceIte, reduceCtorEq, Nat.reduceEqDiff, Int.reduceLT, Int.reduceLE, Int.reduceToNat, Nat.reduceLT, Nat.reduceLeDiff, Int.reduceEq, Int.reduceNeg, IntKind.bits, Nat.reduceAdd, Nat.reduceMul, Nat.reducePow, Int.reducePow, ini, fwi, F_aps_Decoder0_W, F_aps_Decoder1_W, F_aps_Decoder1_g3, F_aps_Decoder2_W, F_aps_Decoder3_W, F_aps_Decoder4_W, F_aps_Decoder5_W, F_aps_Decoder7_W, F_aps_Decoder8_W, F_aps_Decoder9_W, F_aps_Decoder10_W, F_aps_Decodel0_W, F_aps_Decoder11_W, F_aps_Decoder12_W, F_aps_Decoder13_W, F_aps_Decodec_W, F_aps_Decoder0_W, F_aps_Decoder1_W, F_aps_Decoder1_g3, F_aps_Decoder2_W, F_aps_Decoder3_W, F_aps_Decoder4_W, F_aps_Decoder5_W, F_aps_Decoder7_W, F_aps_Decoder8_W, F_aps_Decoder9_W, F_aps_Decoder10_W, F_aps_Decodel0_W, F_aps_Decoder11_W, F_aps_Decoder12_W, F_aps_Decoder13_W, F_aps_Decodec_W, hk, cells_int, oneAll_int, List.set_cons_zero, List.set_cons_succ, spl, List.length_cons, List.length_nil, List.size_toArray]
    refine main _ _ t3 ?_ ?_
    · (first | assumption | rfl)
    · (first | assumption | rfl)
  · have hn : apsD rela (lst o) = none := if_pos (.inr q2)
    rw [decide_eq_false q2] at hcmp
    simp only [F_aps_Decode, fws, cond_true, cond_false, if_true, if_false, unV, isNil, optI, iV, stepI, evalR, reduceIte, reduceCtorEq, Nat.reduceEqDiff, Int.reduceLT, Int.reduceLE, Int.reduceToNat, Nat.reduceLT, Nat.reduceLeDiff, Int.reduceEq, Int.reduceNeg, IntKind.bits, Nat.reduceAdd, Nat.reduceMul, Nat.reducePow, Int.reducePow, ini, fwi, F_aps_Decoder0_W, F_aps_Decoder1_W, F_aps_Decoder1_g3, F_aps_Decoder2_W, F_aps_Decoder3_W, F_aps_Decoder4_W, F_aps_Decoder5_W, F_aps_Decoder6_W, F_aps_Decoder6_g6, F_aps_Decoder6_g10, F_aps_Decoder7_W, F_aps_Decoder8_W, F_aps_Decoder9_W, F_aps_Decoder10_W, F_aps_Decodel0_W, F_aps_Decoder11_W, F_aps_Decoder12_W, F_aps_Decoder13_W, F_aps_Decodec_W, F_aps_Decoder0_W, F_aps_Decoder1_W, F_aps_Decoder1_g3, F_aps_Decoder2_W, F_aps_Decoder3_W, F_aps_Decoder4_W, F_aps_Decoder5_W, F_aps_Decoder6_W, F_aps_Decoder6_g6, F_aps_Decoder6_g10, F_aps_Decoder7_W, F_aps_Decoder8_W, F_aps_Decoder9_W, F_aps_Decoder10_W, F_aps_Decodel0_W, F_aps_Decoder11_W, F_aps_Decoder12_W, F_aps_Decoder13_W, F_aps_Decodec_W, lenI_sl, q1', hs1, hb, hcmp]
    exact out_none hn
end Go.Proofs.Ytdkdifjjpbfohaa
