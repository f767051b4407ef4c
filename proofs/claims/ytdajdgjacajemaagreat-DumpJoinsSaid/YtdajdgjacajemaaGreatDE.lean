/- How much is asked; bounds. -/
import Derived.Test.YtdajdgjacajemaaGreatDD
import Derived.Test.YtdajdgjacajemaaGreatDuRun
namespace Go.Proofs.YtdajdgjacajemaaGreat
open Go Fw
set_option linter.unusedSimpArgs false
set_option linter.unusedVariables false
set_option linter.unusedSectionVars false

abbrev lEn (l : S_api_Lib) : Entry := ⟨0, .cells false 60 (S_api_LibE.e l)⟩
/-- Not too much. -/
structure Okl (l : S_api_Lib) : Prop where
  ld : (lst l.Heads.Loads).length ≤ 50
  nd : (lst l.Dyn.Needed).length ≤ 50
  sy : (lst l.Syms).length ≤ 300
  re : (lst l.Rels).length ≤ 600
  so : l.Dyn.Soname.length ≤ 1000
  ru : l.Dyn.Runpath.length ≤ 1000
  sn : ∀ s ∈ lst l.Syms, s.Name.length ≤ 1000 ∧ s.Ver.length ≤ 1000
  nn : ∀ s ∈ lst l.Dyn.Needed, s.length ≤ 1000
theorem FnV_ex {T : Tab} {f : Nat} {args : List Value} {p : Value → Prop} (hp : args.all (pureV 6) = true) (h : Ev T f args [] fun v h => ∃ u, frz 8 h v = some u ∧ p u) : ∃ u, FnV T f args u ∧ p u := by
  obtain ⟨n, v, h', h1, u, h2, h3⟩ := h
  exact ⟨u, ⟨hp, n, v, h', h1, h2⟩, h3⟩
section
variable {T : Tab}
theorem loop_gr0 {l : S_api_Lib} (hn : (lst l.Syms).length ≤ 1000000) : ∀ (r : List S_api_Sym) (i : Nat) (env : Env), (lst l.Syms).drop i = r → env 1 = p0 → env 3 = .int .i64 i →
    W T (.loop F_law32_greatl0) env [lEn l] fun x e h => h = [lEn l] ∧ ((x = .ret ∧ e 2 = .bool true) ∨ (x = .exit 0 ∧ e 1 = p0 ∧ ∀ s ∈ r, s.Name.length ≤ 1000 ∧ s.Ver.length ≤ 1000)) := by
  have KS : loadI [lEn l] (.pointer (some ⟨0, 56, none⟩)) = some (slV S_api_SymE l.Syms, [lEn l]) := rfl
  intro r
  induction r with
  | nil =>
    intro i env hr v1 v3
    have hi := drop_end hr
    have q : ¬ ((i : Int) < (lst l.Syms).length) := by omega
    rw [w_loop]
    simp only [fws, seval, cond_true, cond_false, if_true, if_false, unV, isNil, optI, iV, stepI, evalR, IntKind.bits, ini, faI_ptr, KS, lenI_sl, N_law32_great, v1, v3, q, Nat.zero_add]
    exact ⟨trivial, .inr ⟨trivial, trivial, fun s hs => by cases hs⟩⟩
  | cons p ps ih =>
    intro i env hr v1 v3
    obtain ⟨hi, hp, hr2⟩ := drop_at hr
    have q : ((i : Int) < (lst l.Syms).length) := by omega
    have hxx := fun H => ix_sl (E := S_api_SymE) (o := l.Syms) (n := 7) rfl hi .i64 H
    obtain ⟨rest, hat⟩ : ∃ rest, atI S_api_SymE (lst l.Syms) i = iptrV (strV p.Name :: strV p.Ver :: rest) := ⟨_, by rw [at_cons hi, hp]; rfl⟩
    rw [hat] at hxx
    have g0 : ∀ H, faI H 0 (iptrV (strV p.Name :: strV p.Ver :: rest)) = some (iptrV (strV p.Name :: strV p.Ver :: rest), H) := fun H => rfl
    have g1 : ∀ H, faI H 1 (iptrV (strV p.Name :: strV p.Ver :: rest)) = some (iptrV (strV p.Ver :: rest), H) := fun H => rfl
    have m0 : ∀ H, loadI H (iptrV (strV p.Name :: strV p.Ver :: rest)) = some (strV p.Name, H) := fun H => rfl
    have m1 : ∀ H, loadI H (iptrV (strV p.Ver :: rest)) = some (strV p.Ver, H) := fun H => rfl
    have n0 : ∀ {H : Heap} {l : List UInt8}, lenI H 0 (strV l) = some (.int .i64 l.length, H) := rfl
    have w2 : IntKind.i64.wrap ((i : Int) + 1) = ((i + 1 : Nat) : Int) := by rw [wrapI64 (by omega) (by omega)]; rfl
    rw [w_loop]
    by_cases b1 : (1000 : Int) < p.Name.length
    · simp only [fws, seval, cond_true, cond_false, if_true, if_false, unV, isNil, optI, iV, stepI, evalR, IntKind.bits, ini, faI_ptr, KS, lenI_sl, N_law32_great, v1, v3, q, hxx, g0, g1, m0, m1, n0, b1, w2, Nat.zero_add]
      exact ⟨trivial, .inl ⟨trivial, trivial⟩⟩
    · by_cases b2 : (1000 : Int) < p.Ver.length
      · simp only [fws, seval, cond_true, cond_false, if_true, if_false, unV, isNil, optI, iV, stepI, evalR, IntKind.bits, ini, faI_ptr, KS, lenI_sl, N_law32_great, v1, v3, q, hxx, g0, g1, m0, m1, n0, b1, b2, w2, Nat.zero_add]
        exact ⟨trivial, .inl ⟨trivial, trivial⟩⟩
      · simp only [fws, seval, cond_true, cond_false, if_true, if_false, unV, isNil, optI, iV, stepI, evalR, IntKind.bits, ini, faI_ptr, KS, lenI_sl, N_law32_great, v1, v3, q, hxx, g0, g1, m0, m1, n0, b1, b2, w2, Nat.zero_add]
        refine W.mono (ih (i + 1) _ hr2 ?_ ?_) fun x e h ⟨u1, u2⟩ => ⟨u1, ?_⟩
        · (first | assumption | rfl)
        · (first | assumption | rfl)
        rcases u2 with u2 | ⟨u2, u3, u4⟩
        · exact .inl u2
        · refine .inr ⟨u2, u3, fun s hs => ?_⟩
          rcases List.mem_cons.1 hs with rfl | hs
          · exact ⟨by omega, by omega⟩
          · exact u4 s hs
theorem loop_gr1 {l : S_api_Lib} (hn : (lst l.Dyn.Needed).length ≤ 1000000) : ∀ (r : List (List UInt8)) (i : Nat) (env : Env), (lst l.Dyn.Needed).drop i = r → env 1 = p0 → env 4 = .int .i64 i →
    W T (.loop F_law32_greatl1) env [lEn l] fun x e h => h = [lEn l] ∧ ((x = .ret ∧ e 2 = .bool true) ∨ (x = .exit 2 ∧ ∀ s ∈ r, s.length ≤ 1000)) := by
  have KS : loadI [lEn l] (.pointer (some ⟨0, 18, none⟩)) = some (slV strE l.Dyn.Needed, [lEn l]) := rfl
  intro r
  induction r with
  | nil =>
    intro i env hr v1 v4
    have hi := drop_end hr
    have q : ¬ ((i : Int) < (lst l.Dyn.Needed).length) := by omega
    rw [w_loop]
    simp only [fws, seval, cond_true, cond_false, if_true, if_false, unV, isNil, optI, iV, stepI, evalR, IntKind.bits, ini, faI_ptr, KS, lenI_sl, N_law32_great, v1, v4, q, Nat.zero_add, Nat.reduceAdd]
    exact ⟨trivial, .inr ⟨trivial, fun s hs => by cases hs⟩⟩
  | cons p ps ih =>
    intro i env hr v1 v4
    obtain ⟨hi, hp, hr2⟩ := drop_at hr
    have q : ((i : Int) < (lst l.Dyn.Needed).length) := by omega
    have hxx := fun H => ix_sl (E := strE) (o := l.Dyn.Needed) (n := 1) rfl hi .i64 H
    have hld := fun H => ld_str hi H
    rw [hp] at hld
    have n0 : ∀ {H : Heap} {l : List UInt8}, lenI H 0 (strV l) = some (.int .i64 l.length, H) := rfl
    have w2 : IntKind.i64.wrap ((i : Int) + 1) = ((i + 1 : Nat) : Int) := by rw [wrapI64 (by omega) (by omega)]; rfl
    rw [w_loop]
    by_cases b1 : (1000 : Int) < p.length
    · simp only [fws, seval, cond_true, cond_false, if_true, if_false, unV, isNil, optI, iV, stepI, evalR, IntKind.bits, ini, faI_ptr, KS, lenI_sl, N_law32_great, v1, v4, q, hxx, hld, n0, b1, w2, Nat.zero_add, Nat.reduceAdd]
      exact ⟨trivial, .inl ⟨trivial, trivial⟩⟩
    · simp only [fws, seval, cond_true, cond_false, if_true, if_false, unV, isNil, optI, iV, stepI, evalR, IntKind.bits, ini, faI_ptr, KS, lenI_sl, N_law32_great, v1, v4, q, hxx, hld, n0, b1, w2, Nat.zero_add, Nat.reduceAdd]
      refine W.mono (ih (i + 1) _ hr2 ?_ ?_) fun x e h ⟨u1, u2⟩ => ⟨u1, ?_⟩
      · (first | assumption | rfl)
      · (first | assumption | rfl)
      rcases u2 with u2 | ⟨u2, u4⟩
      · exact .inl u2
      · refine .inr ⟨u2, fun s hs => ?_⟩
        rcases List.mem_cons.1 hs with rfl | hs
        · omega
        · exact u4 s hs
end
end Go.Proofs.YtdajdgjacajemaaGreat
/- How much is asked, told by the law; lengths. -/
namespace Go.Proofs.YtdajdgjacajemaaGreat
open Go Fw
set_option linter.unusedSimpArgs false
set_option linter.unusedVariables false
set_option linter.unusedSectionVars false

section
variable {T : Tab}
set_option maxHeartbeats 1000000 in
theorem f_great (t : DuF T) (l : S_api_Lib) : ∃ u, FnV T 14 [.agg (S_api_LibE.e l).toArray] u ∧ ∃ b, u = .bool b ∧ (b = false → Okl l) := by
  refine FnV_ex (by simp [pure_aggE (E := S_api_LibE) (by decide)]) ?_
  have B1 : stepI (ini [.agg (S_api_LibE.e l).toArray]) [] (.box 60 (.t 0)) = some (p0, [lEn l]) := boxE (E := S_api_LibE) (H := []) rfl
  have KL : loadI [lEn l] (.pointer (some ⟨0, 1, none⟩)) = some (slV S_api_PhdrE l.Heads.Loads, [lEn l]) := rfl
  have KN : loadI [lEn l] (.pointer (some ⟨0, 18, none⟩)) = some (slV strE l.Dyn.Needed, [lEn l]) := rfl
  have KS : loadI [lEn l] (.pointer (some ⟨0, 56, none⟩)) = some (slV S_api_SymE l.Syms, [lEn l]) := rfl
  have KR : loadI [lEn l] (.pointer (some ⟨0, 57, none⟩)) = some (slV S_api_RelE l.Rels, [lEn l]) := rfl
  have Ks : loadI [lEn l] (.pointer (some ⟨0, 16, none⟩)) = some (strV l.Dyn.Soname, [lEn l]) := rfl
  have Kr : loadI [lEn l] (.pointer (some ⟨0, 17, none⟩)) = some (strV l.Dyn.Runpath, [lEn l]) := rfl
  have n0 : ∀ {H : Heap} {l : List UInt8}, lenI H 0 (strV l) = some (.int .i64 l.length, H) := rfl
  rw [Ev_fn t.gr rfl]
  simp only [F_law32_great, fws, B1, F_law32_greatr0b, F_law32_greatr0_W, F_law32_greatr1b, F_law32_greatr2b, F_law32_greatr2_W, F_law32_greatr3b, F_law32_greatr3_W, F_law32_greatr4b, F_law32_greatr4_W, F_law32_greatr6b, F_law32_greatr6_W, F_law32_greatr6_g8, F_law32_greatr7b, F_law32_greatr7_W, F_law32_greatr5b, F_law32_greatr5_W, F_law32_greatl0b, F_law32_greatr8b, F_law32_greatr8_W, F_law32_greatr9b, F_law32_greatr9_W, F_law32_greatr11b, F_law32_greatr11_W, F_law32_greatr12b, F_law32_greatr12_W, F_law32_greatr10b, F_law32_greatr10_W, F_law32_greatl1b, F_law32_greatr13b, F_law32_greatr13_W, F_law32_greatcb, F_law32_greatc_W]
  by_cases c1 : (50 : Int) < (lst l.Heads.Loads).length
  · simp only [fws, seval, cond_true, cond_false, if_true, if_false, unV, isNil, optI, iV, stepI, evalR, IntKind.bits, ini, faI_ptr, lenI_sl, n0, KL, KN, KS, KR, Ks, Kr, c1, F_law32_greatr0b, F_law32_greatr0_W, F_law32_greatr1b, F_law32_greatr1_W, F_law32_greatr1_g5, F_law32_greatr1_g12, F_law32_greatr1_g18, F_law32_greatr1_g24, F_law32_greatr1_g31, F_law32_greatr2b, F_law32_greatr2_W, F_law32_greatr3b, F_law32_greatr3_W, F_law32_greatr4b, F_law32_greatr4_W, F_law32_greatr6b, F_law32_greatr6_W, F_law32_greatr6_g8, F_law32_greatr7b, F_law32_greatr7_W, F_law32_greatr5b, F_law32_greatr5_W, F_law32_greatl0b, F_law32_greatr8b, F_law32_greatr8_W, F_law32_greatr9b, F_law32_greatr9_W, F_law32_greatr11b, F_law32_greatr11_W, F_law32_greatr12b, F_law32_greatr12_W, F_law32_greatr10b, F_law32_greatr10_W, F_law32_greatl1b, F_law32_greatr13b, F_law32_greatr13_W, F_law32_greatcb, F_law32_greatc_W, Nat.zero_add, Nat.reduceAdd]
    exact ⟨_, rfl, true, rfl, fun h => by cases h⟩
  by_cases c2 : (50 : Int) < (lst l.Dyn.Needed).length
  · simp only [fws, seval, cond_true, cond_false, if_true, if_false, unV, isNil, optI, iV, stepI, evalR, IntKind.bits, ini, faI_ptr, lenI_sl, n0, KL, KN, KS, KR, Ks, Kr, c1, c2, F_law32_greatr0b, F_law32_greatr0_W, F_law32_greatr1b, F_law32_greatr1_W, F_law32_greatr1_g5, F_law32_greatr1_g12, F_law32_greatr1_g18, F_law32_greatr1_g24, F_law32_greatr1_g31, F_law32_greatr2b, F_law32_greatr2_W, F_law32_greatr3b, F_law32_greatr3_W, F_law32_greatr4b, F_law32_greatr4_W, F_law32_greatr6b, F_law32_greatr6_W, F_law32_greatr6_g8, F_law32_greatr7b, F_law32_greatr7_W, F_law32_greatr5b, F_law32_greatr5_W, F_law32_greatl0b, F_law32_greatr8b, F_law32_greatr8_W, F_law32_greatr9b, F_law32_greatr9_W, F_law32_greatr11b, F_law32_greatr11_W, F_law32_greatr12b, F_law32_greatr12_W, F_law32_greatr10b, F_law32_greatr10_W, F_law32_greatl1b, F_law32_greatr13b, F_law32_greatr13_W, F_law32_greatcb, F_law32_greatc_W, Nat.zero_add, Nat.reduceAdd]
    exact ⟨_, rfl, true, rfl, fun h => by cases h⟩
  by_cases c3 : (300 : Int) < (lst l.Syms).length
  · simp only [fws, seval, cond_true, cond_false, if_true, if_false, unV, isNil, optI, iV, stepI, evalR, IntKind.bits, ini, faI_ptr, lenI_sl, n0, KL, KN, KS, KR, Ks, Kr, c1, c2, c3, F_law32_greatr0b, F_law32_greatr0_W, F_law32_greatr1b, F_law32_greatr1_W, F_law32_greatr1_g5, F_law32_greatr1_g12, F_law32_greatr1_g18, F_law32_greatr1_g24, F_law32_greatr1_g31, F_law32_greatr2b, F_law32_greatr2_W, F_law32_greatr3b, F_law32_greatr3_W, F_law32_greatr4b, F_law32_greatr4_W, F_law32_greatr6b, F_law32_greatr6_W, F_law32_greatr6_g8, F_law32_greatr7b, F_law32_greatr7_W, F_law32_greatr5b, F_law32_greatr5_W, F_law32_greatl0b, F_law32_greatr8b, F_law32_greatr8_W, F_law32_greatr9b, F_law32_greatr9_W, F_law32_greatr11b, F_law32_greatr11_W, F_law32_greatr12b, F_law32_greatr12_W, F_law32_greatr10b, F_law32_greatr10_W, F_law32_greatl1b, F_law32_greatr13b, F_law32_greatr13_W, F_law32_greatcb, F_law32_greatc_W, Nat.zero_add, Nat.reduceAdd]
    exact ⟨_, rfl, true, rfl, fun h => by cases h⟩
  by_cases c4 : (600 : Int) < (lst l.Rels).length
  · simp only [fws, seval, cond_true, cond_false, if_true, if_false, unV, isNil, optI, iV, stepI, evalR, IntKind.bits, ini, faI_ptr, lenI_sl, n0, KL, KN, KS, KR, Ks, Kr, c1, c2, c3, c4, F_law32_greatr0b, F_law32_greatr0_W, F_law32_greatr1b, F_law32_greatr1_W, F_law32_greatr1_g5, F_law32_greatr1_g12, F_law32_greatr1_g18, F_law32_greatr1_g24, F_law32_greatr1_g31, F_law32_greatr2b, F_law32_greatr2_W, F_law32_greatr3b, F_law32_greatr3_W, F_law32_greatr4b, F_law32_greatr4_W, F_law32_greatr6b, F_law32_greatr6_W, F_law32_greatr6_g8, F_law32_greatr7b, F_law32_greatr7_W, F_law32_greatr5b, F_law32_greatr5_W, F_law32_greatl0b, F_law32_greatr8b, F_law32_greatr8_W, F_law32_greatr9b, F_law32_greatr9_W, F_law32_greatr11b, F_law32_greatr11_W, F_law32_greatr12b, F_law32_greatr12_W, F_law32_greatr10b, F_law32_greatr10_W, F_law32_greatl1b, F_law32_greatr13b, F_law32_greatr13_W, F_law32_greatcb, F_law32_greatc_W, Nat.zero_add, Nat.reduceAdd]
    exact ⟨_, rfl, true, rfl, fun h => by cases h⟩
  by_cases c5 : (1000 : Int) < l.Dyn.Soname.length
  · simp only [fws, seval, cond_true, cond_false, if_true, if_false, unV, isNil, optI, iV, stepI, evalR, IntKind.bits, ini, faI_ptr, lenI_sl, n0, KL, KN, KS, KR, Ks, Kr, c1, c2, c3, c4, c5, F_law32_greatr0b, F_law32_greatr0_W, F_law32_greatr1b, F_law32_greatr1_W, F_law32_greatr1_g5, F_law32_greatr1_g12, F_law32_greatr1_g18, F_law32_greatr1_g24, F_law32_greatr1_g31, F_law32_greatr2b, F_law32_greatr2_W, F_law32_greatr3b, F_law32_greatr3_W, F_law32_greatr4b, F_law32_greatr4_W, F_law32_greatr6b, F_law32_greatr6_W, F_law32_greatr6_g8, F_law32_greatr7b, F_law32_greatr7_W, F_law32_greatr5b, F_law32_greatr5_W, F_law32_greatl0b, F_law32_greatr8b, F_law32_greatr8_W, F_law32_greatr9b, F_law32_greatr9_W, F_law32_greatr11b, F_law32_greatr11_W, F_law32_greatr12b, F_law32_greatr12_W, F_law32_greatr10b, F_law32_greatr10_W, F_law32_greatl1b, F_law32_greatr13b, F_law32_greatr13_W, F_law32_greatcb, F_law32_greatc_W, Nat.zero_add, Nat.reduceAdd]
    exact ⟨_, rfl, true, rfl, fun h => by cases h⟩
  by_cases c6 : (1000 : Int) < l.Dyn.Runpath.length
  · simp only [fws, seval, cond_true, cond_false, if_true, if_false, unV, isNil, optI, iV, stepI, evalR, IntKind.bits, ini, faI_ptr, lenI_sl, n0, KL, KN, KS, KR, Ks, Kr, c1, c2, c3, c4, c5, c6, F_law32_greatr0b, F_law32_greatr0_W, F_law32_greatr1b, F_law32_greatr1_W, F_law32_greatr1_g5, F_law32_greatr1_g12, F_law32_greatr1_g18, F_law32_greatr1_g24, F_law32_greatr1_g31, F_law32_greatr2b, F_law32_greatr2_W, F_law32_greatr3b, F_law32_greatr3_W, F_law32_greatr4b, F_law32_greatr4_W, F_law32_greatr6b, F_law32_greatr6_W, F_law32_greatr6_g8, F_law32_greatr7b, F_law32_greatr7_W, F_law32_greatr5b, F_law32_greatr5_W, F_law32_greatl0b, F_law32_greatr8b, F_law32_greatr8_W, F_law32_greatr9b, F_law32_greatr9_W, F_law32_greatr11b, F_law32_greatr11_W, F_law32_greatr12b, F_law32_greatr12_W, F_law32_greatr10b, F_law32_greatr10_W, F_law32_greatl1b, F_law32_greatr13b, F_law32_greatr13_W, F_law32_greatcb, F_law32_greatc_W, Nat.zero_add, Nat.reduceAdd]
    exact ⟨_, rfl, true, rfl, fun h => by cases h⟩
  simp only [fws, seval, cond_true, cond_false, if_true, if_false, unV, isNil, optI, iV, stepI, evalR, IntKind.bits, ini, faI_ptr, lenI_sl, n0, KL, KN, KS, KR, Ks, Kr, c1, c2, c3, c4, c5, c6, F_law32_greatr0b, F_law32_greatr0_W, F_law32_greatr1b, F_law32_greatr1_W, F_law32_greatr1_g5, F_law32_greatr1_g12, F_law32_greatr1_g18, F_law32_greatr1_g24, F_law32_greatr1_g31, F_law32_greatr2b, F_law32_greatr2_W, F_law32_greatr3b, F_law32_greatr3_W, F_law32_greatr4b, F_law32_greatr4_W, F_law32_greatr6b, F_law32_greatr6_W, F_law32_greatr6_g8, F_law32_greatr7b, F_law32_greatr7_W, F_law32_greatr5b, F_law32_greatr5_W, F_law32_greatl0b, F_law32_greatr8b, F_law32_greatr8_W, F_law32_greatr9b, F_law32_greatr9_W, F_law32_greatr11b, F_law32_greatr11_W, F_law32_greatr12b, F_law32_greatr12_W, F_law32_greatr10b, F_law32_greatr10_W, F_law32_greatl1b, F_law32_greatr13b, F_law32_greatr13_W, F_law32_greatcb, F_law32_greatc_W, Nat.zero_add, Nat.reduceAdd]
  refine W.mono (loop_gr0 (l := l) (by omega) (lst l.Syms) 0 _ rfl ?_ ?_) fun x e h ⟨hh, hx⟩ => ?_
  · (first | assumption | rfl)
  · (first | assumption | rfl)
  subst hh
  rcases hx with ⟨rfl, v2⟩ | ⟨rfl, v1, hs⟩
  · simp only [fws, seval, cond_true, cond_false, if_true, if_false, unV, isNil, optI, iV, stepI, evalR, IntKind.bits, ini, F_law32_greatr0b, F_law32_greatr0_W, F_law32_greatr1b, F_law32_greatr1_W, F_law32_greatr1_g5, F_law32_greatr1_g12, F_law32_greatr1_g18, F_law32_greatr1_g24, F_law32_greatr1_g31, F_law32_greatr2b, F_law32_greatr2_W, F_law32_greatr3b, F_law32_greatr3_W, F_law32_greatr4b, F_law32_greatr4_W, F_law32_greatr6b, F_law32_greatr6_W, F_law32_greatr6_g8, F_law32_greatr7b, F_law32_greatr7_W, F_law32_greatr5b, F_law32_greatr5_W, F_law32_greatl0b, F_law32_greatr8b, F_law32_greatr8_W, F_law32_greatr9b, F_law32_greatr9_W, F_law32_greatr11b, F_law32_greatr11_W, F_law32_greatr12b, F_law32_greatr12_W, F_law32_greatr10b, F_law32_greatr10_W, F_law32_greatl1b, F_law32_greatr13b, F_law32_greatr13_W, F_law32_greatcb, F_law32_greatc_W, v2]
    exact ⟨_, rfl, true, rfl, fun h => by cases h⟩
  simp only [fws, seval, cond_true, cond_false, if_true, if_false, unV, isNil, optI, iV, stepI, evalR, IntKind.bits, ini, F_law32_greatr0b, F_law32_greatr0_W, F_law32_greatr1b, F_law32_greatr1_W, F_law32_greatr1_g5, F_law32_greatr1_g12, F_law32_greatr1_g18, F_law32_greatr1_g24, F_law32_greatr1_g31, F_law32_greatr2b, F_law32_greatr2_W, F_law32_greatr3b, F_law32_greatr3_W, F_law32_greatr4b, F_law32_greatr4_W, F_law32_greatr6b, F_law32_greatr6_W, F_law32_greatr6_g8, F_law32_greatr7b, F_law32_greatr7_W, F_law32_greatr5b, F_law32_greatr5_W, F_law32_greatl0b, F_law32_greatr8b, F_law32_greatr8_W, F_law32_greatr9b, F_law32_greatr9_W, F_law32_greatr11b, F_law32_greatr11_W, F_law32_greatr12b, F_law32_greatr12_W, F_law32_greatr10b, F_law32_greatr10_W, F_law32_greatl1b, F_law32_greatr13b, F_law32_greatr13_W, F_law32_greatcb, F_law32_greatc_W, v1]
  refine W.mono (loop_gr1 (l := l) (by omega) (lst l.Dyn.Needed) 0 _ rfl ?_ ?_) fun x e h ⟨hh, hx⟩ => ?_
  · (first | assumption | rfl)
  · (first | assumption | rfl)
  subst hh
  rcases hx with ⟨rfl, v2⟩ | ⟨rfl, hd⟩
  · simp only [fws, seval, cond_true, cond_false, if_true, if_false, unV, isNil, optI, iV, stepI, evalR, IntKind.bits, ini, F_law32_greatr0b, F_law32_greatr0_W, F_law32_greatr1b, F_law32_greatr1_W, F_law32_greatr1_g5, F_law32_greatr1_g12, F_law32_greatr1_g18, F_law32_greatr1_g24, F_law32_greatr1_g31, F_law32_greatr2b, F_law32_greatr2_W, F_law32_greatr3b, F_law32_greatr3_W, F_law32_greatr4b, F_law32_greatr4_W, F_law32_greatr6b, F_law32_greatr6_W, F_law32_greatr6_g8, F_law32_greatr7b, F_law32_greatr7_W, F_law32_greatr5b, F_law32_greatr5_W, F_law32_greatl0b, F_law32_greatr8b, F_law32_greatr8_W, F_law32_greatr9b, F_law32_greatr9_W, F_law32_greatr11b, F_law32_greatr11_W, F_law32_greatr12b, F_law32_greatr12_W, F_law32_greatr10b, F_law32_greatr10_W, F_law32_greatl1b, F_law32_greatr13b, F_law32_greatr13_W, F_law32_greatcb, F_law32_greatc_W, v2]
    exact ⟨_, rfl, true, rfl, fun h => by cases h⟩
  simp only [fws, seval, cond_true, cond_false, if_true, if_false, unV, isNil, optI, iV, stepI, evalR, IntKind.bits, ini, F_law32_greatr0b, F_law32_greatr0_W, F_law32_greatr1b, F_law32_greatr1_W, F_law32_greatr1_g5, F_law32_greatr1_g12, F_law32_greatr1_g18, F_law32_greatr1_g24, F_law32_greatr1_g31, F_law32_greatr2b, F_law32_greatr2_W, F_law32_greatr3b, F_law32_greatr3_W, F_law32_greatr4b, F_law32_greatr4_W, F_law32_greatr6b, F_law32_greatr6_W, F_law32_greatr6_g8, F_law32_greatr7b, F_law32_greatr7_W, F_law32_greatr5b, F_law32_greatr5_W, F_law32_greatl0b, F_law32_greatr8b, F_law32_greatr8_W, F_law32_greatr9b, F_law32_greatr9_W, F_law32_greatr11b, F_law32_greatr11_W, F_law32_greatr12b, F_law32_greatr12_W, F_law32_greatr10b, F_law32_greatr10_W, F_law32_greatl1b, F_law32_greatr13b, F_law32_greatr13_W, F_law32_greatcb, F_law32_greatc_W]
  exact ⟨_, rfl, false, rfl, fun _ => ⟨by omega, by omega, by omega, by omega, by omega, by omega, hs, hd⟩⟩
end
/-! ### Lengths -/
theorem lineM_len (ps : List (List UInt8)) : (lineM ps).length ≤ (ps.map fun p => p.length + 1).sum + 1 := by
  unfold lineM
  rw [List.length_append]
  have := lnB_len true ps
  simp only [List.length_cons, List.length_nil]
  omega
theorem flat_len {α : Type} {f : α → List UInt8} {K : Nat} : ∀ {l : List α}, (∀ x ∈ l, (f x).length ≤ K) → (l.flatMap f).length ≤ l.length * K
  | [], _ => by simp
  | x :: l, h => by
    have h1 := h x (by simp)
    have h2 := flat_len (f := f) (l := l) fun y hy => h y (List.mem_cons_of_mem _ hy)
    rw [List.flatMap_cons, List.length_append, List.length_cons, Nat.succ_mul]
    omega
theorem machM_len (m : Int) : (machM m).length ≤ 20 := by
  have := textF_len m
  unfold machM
  repeat' split
  all_goals first | decide | exact this
theorem bindM_len (n : Int) : (bindM n).length ≤ 25 := by
  have := textF_len n
  unfold bindM
  repeat' split
  all_goals first | decide | (simp only [List.length_append, List.length_cons, List.length_nil]; omega)
theorem kindM_len (m k : Int) : (kindM m k).length ≤ 8 := by
  unfold kindM
  split <;> decide
theorem addM_len (r : S_api_Rel) : (addM r).length ≤ 19 := by
  have h1 := hexI_len (-r.Add)
  have h2 := hexI_len r.Add
  unfold addM
  split
  · decide
  · split
    · simp only [List.length_cons]; omega
    · omega
theorem relM_len (m : Int) (r : S_api_Rel) : (relM m r).length ≤ 200 := by
  have h := lineM_len [wRel, hexI r.At, kindM m r.Typ, hexI r.Typ, hexI r.Sym, addM r]
  have h1 := hexI_len r.At
  have h2 := hexI_len r.Typ
  have h3 := hexI_len r.Sym
  have h4 := kindM_len m r.Typ
  have h5 := addM_len r
  simp only [List.map_cons, List.map_nil, List.sum_cons, List.sum_nil, List.length_cons, List.length_nil] at h
  unfold relM
  omega
theorem relsM_len (m : Int) (l : List S_api_Rel) : (relsM m l).length ≤ l.length * 200 := flat_len fun r _ => relM_len m r
theorem symM_len (i : Nat) (s : S_api_Sym) (h0 : s.Name.length ≤ 1000) (h9 : s.Ver.length ≤ 1000) : (symM i s).length ≤ 3000 := by
  have h := lineM_len [wSym, textF i, bindM s.Bind, (bif s.Defined then hexI s.Value else wUndef), hexI s.Size, whenM s.Hidden wHidden, s.Name, withM wVersion s.Ver]
  have h1 := textF_len i
  have h2 := bindM_len s.Bind
  have h3 : (bif s.Defined then hexI s.Value else wUndef).length ≤ 18 := by
    have := hexI_len s.Value
    cases s.Defined
    · simp
    · exact this
  have h4 := hexI_len s.Size
  have h5 : (whenM s.Hidden wHidden).length ≤ 6 := by unfold whenM; cases s.Hidden <;> decide
  have h6 : (withM wVersion s.Ver).length ≤ 1008 := by
    unfold withM
    split
    · decide
    · simp only [List.length_append, List.length_cons, List.length_nil]; omega
  simp only [List.map_cons, List.map_nil, List.sum_cons, List.sum_nil, List.length_cons, List.length_nil] at h
  unfold symM
  omega
theorem symsF_len : ∀ (i : Nat) (l : List S_api_Sym), (∀ s ∈ l, s.Name.length ≤ 1000 ∧ s.Ver.length ≤ 1000) → (symsF i l).length ≤ l.length * 3000
  | _, [], _ => Nat.le_refl _
  | i, s :: r, h => by
    have h1 := symM_len i s (h s (by simp)).1 (h s (by simp)).2
    have h2 := symsF_len (i + 1) r fun x hx => h x (List.mem_cons_of_mem _ hx)
    rw [symsF, List.length_append, List.length_cons, Nat.succ_mul]
    split
    · simp only [List.length_nil]; omega
    · omega
theorem headsM_len (h : S_api_Heads) (hn : (lst h.Loads).length ≤ 50) : (headsM h).length ≤ 10000 := by
  unfold headsM
  have h1 := lineM_len [wMachine, machM h.Machine]
  have h2 := machM_len h.Machine
  have h3 : ((lst h.Loads).flatMap (partM wLoad)).length ≤ (lst h.Loads).length * 87 := flat_len fun p _ => by have := partM_len wLoad p; simpa using this
  have h4 := partM_len wDynamic h.Dynamic
  have h5 : (if 0 < h.Relro.Memsz then partM wRelro h.Relro else []).length ≤ 88 := by
    have := partM_len wRelro h.Relro
    split
    · simpa using this
    · simp
  simp only [List.map_cons, List.map_nil, List.sum_cons, List.sum_nil, List.length_cons, List.length_nil] at h1 h4
  rw [List.length_append, List.length_append, List.length_append]
  have : (lst h.Loads).length * 87 ≤ 50 * 87 := Nat.mul_le_mul_right _ hn
  omega
theorem dynM_len (d : S_api_Dyn) (hn : (lst d.Needed).length ≤ 50) (hs : d.Soname.length ≤ 1000) (hr : d.Runpath.length ≤ 1000) (hx : ∀ s ∈ lst d.Needed, s.length ≤ 1000) : (dynM d).length ≤ 100000 := by
  unfold dynM
  have h1 : (sonM d).length ≤ 1010 := by
    unfold sonM
    split
    · simp
    · have := lineM_len [wSoname, d.Soname]
      simp only [List.map_cons, List.map_nil, List.sum_cons, List.sum_nil, List.length_cons, List.length_nil] at this
      omega
  have h2 : (runM d).length ≤ 1010 := by
    unfold runM
    split
    · simp
    · have := lineM_len [wRunpath, d.Runpath]
      simp only [List.map_cons, List.map_nil, List.sum_cons, List.sum_nil, List.length_cons, List.length_nil] at this
      omega
  have h3 : (needM d).length ≤ (lst d.Needed).length * 1009 := flat_len fun s hs' => by
    have := lineM_len [wNeeded, s]
    have := hx s hs'
    simp only [List.map_cons, List.map_nil, List.sum_cons, List.sum_nil, List.length_cons, List.length_nil] at *
    omega
  have h4 : (flagM d).length ≤ 75 := by
    rw [flag_eq]
    obtain ⟨a, b, c⟩ := fl_len d
    split
    · simp
    · simp only [List.length_append, List.length_cons, List.length_nil]; omega
  have h5 : ((areas d).flatMap areaM).length ≤ (areas d).length * 50 := flat_len fun q hq => by
    have hl : q.1.length ≤ 6 := by
      simp only [areas, List.mem_cons, List.not_mem_nil, or_false] at hq
      rcases hq with rfl | rfl | rfl | rfl | rfl | rfl | rfl <;> simp
    unfold areaM
    split
    · have := lineM_len [q.1, hexI q.2.At, hexI q.2.Size]
      have a1 := hexI_len q.2.At
      have a2 := hexI_len q.2.Size
      simp only [List.map_cons, List.map_nil, List.sum_cons, List.sum_nil] at this
      omega
    · simp
  have h6 : (areas d).length = 7 := rfl
  rw [List.length_append, List.length_append, List.length_append, List.length_append]
  have : (lst d.Needed).length * 1009 ≤ 50 * 1009 := Nat.mul_le_mul_right _ hn
  omega
end Go.Proofs.YtdajdgjacajemaaGreat
/- DumpWrites. -/
namespace Go.Proofs.YtdajdgjacajemaaGreat
open Go Fw
set_option linter.unusedSimpArgs false
set_option linter.unusedVariables false
set_option linter.unusedSectionVars false

theorem wf_u16 {n : Int} (h : (Lit.int .u16 n).wf = true) : isU 65536 n := by
  simp [Lit.wf, IntKind.min, IntKind.max, IntKind.signed, IntKind.bits] at h
  unfold isU; omega
theorem wf_u32 {n : Int} (h : (Lit.int .u32 n).wf = true) : isU 4294967296 n := by
  simp [Lit.wf, IntKind.min, IntKind.max, IntKind.signed, IntKind.bits] at h
  unfold isU; omega
theorem wf_u64 {n : Int} (h : (Lit.int .u64 n).wf = true) : isU 18446744073709551616 n := by
  simp [Lit.wf, IntKind.min, IntKind.max, IntKind.signed, IntKind.bits] at h
  unfold isU; omega
theorem wf_i64 {n : Int} (h : (Lit.int .i64 n).wf = true) : -9223372036854775808 ≤ n ∧ n ≤ 9223372036854775807 := by
  simp [Lit.wf, IntKind.min, IntKind.max, IntKind.signed, IntKind.bits] at h
  omega
theorem okP_wf {p : S_api_Phdr} (h : p.wf) : OkP p := by
  obtain ⟨h1, h2, h3, h4, h5, h6, h7⟩ := h
  exact ⟨wf_u32 h2, wf_u64 h3, wf_u64 h4, wf_u64 h5, wf_u64 h6⟩
theorem okH_wf {h : S_api_Heads} (w : h.wf) : OkH h := by
  obtain ⟨h1, h2, h3, h4⟩ := w
  exact ⟨wf_u16 h1, fun p hp => okP_wf (h2.2 p hp), okP_wf h3, okP_wf h4⟩
theorem okA_wf {a : S_api_Area} (w : a.wf) : OkA a := by
  obtain ⟨h1, h2, h3⟩ := w
  exact ⟨wf_u64 h2, wf_u64 h3⟩
theorem okR_wf {r : S_api_Rel} (w : r.wf) : OkR r := by
  obtain ⟨h1, h2, h3, h4, h5⟩ := w
  exact ⟨wf_u64 h1, wf_u32 h2, wf_u32 h3, (wf_i64 h4).1, (wf_i64 h4).2⟩
theorem okS_wf {s : S_api_Sym} (w : s.wf) (h : s.Name.length ≤ 1000 ∧ s.Ver.length ≤ 1000) : OkS s := by
  obtain ⟨h1, h2, h3, h4, h5, h6, h7⟩ := w
  exact ⟨by omega, by omega, (wf_i64 h4).2, wf_u64 h6, wf_u64 h7⟩
/-- A library that is right, and not too much. -/
structure OkL (l : S_api_Lib) : Prop where
  h : OkH l.Heads
  d : OkD l.Dyn
  s : ∀ p ∈ lst l.Syms, OkS p
  r : ∀ p ∈ lst l.Rels, OkR p
theorem okD_wf {d : S_api_Dyn} (w : d.wf) (hn : (lst d.Needed).length ≤ 50) : OkD d := by
  refine ⟨by omega, fun q hq => ?_⟩
  simp only [areas, List.mem_cons, List.not_mem_nil, or_false] at hq
  unfold S_api_Dyn.wf at w
  rcases hq with rfl | rfl | rfl | rfl | rfl | rfl | rfl
  all_goals exact okA_wf (by simp only [] at w ⊢; simp only [w])
theorem okL_wf {l : S_api_Lib} (w : l.wf) (h : Okl l) : OkL l := by
  obtain ⟨h1, h2, h3, h4, h5, h6⟩ := w
  exact ⟨okH_wf h1, okD_wf h2 h.nd, fun s hs => okS_wf (h3.2 s hs) (h.sn s hs), fun r hr => okR_wf (h4.2 r hr)⟩
end Go.Proofs.YtdajdgjacajemaaGreat
/- DumpWrites: the law. -/
namespace Go.Proofs.YtdajdgjacajemaaGreat
open Go Fw
set_option linter.unusedSimpArgs false
set_option linter.unusedVariables false
set_option linter.unusedSectionVars false

def libM (l : S_api_Lib) : List UInt8 := headsM l.Heads ++ dynM l.Dyn ++ symsM (lst l.Syms) ++ relsM l.Heads.Machine (lst l.Rels)
theorem strEq_self {l : List UInt8} : strEq ⟨l.toArray⟩ ⟨l.toArray⟩ = true := by rw [strEq_str]; exact decide_eq_true rfl
section
variable {T : Tab} {l : S_api_Lib}
theorem K60 : loadNI [lEn l] 60 (.pointer (some ⟨0, 0, none⟩)) = some (.agg (S_api_LibE.e l).toArray, [lEn l]) := rfl
theorem KH : loadNI [lEn l] 16 (.pointer (some ⟨0, 0, none⟩)) = some (.agg (S_api_HeadsE.e l.Heads).toArray, [lEn l]) := rfl
theorem KD : loadNI [lEn l] 40 (.pointer (some ⟨0, 16, none⟩)) = some (.agg (S_api_DynE.e l.Dyn).toArray, [lEn l]) := rfl
theorem KS : loadI [lEn l] (.pointer (some ⟨0, 56, none⟩)) = some (slV S_api_SymE l.Syms, [lEn l]) := rfl
theorem KR : loadI [lEn l] (.pointer (some ⟨0, 57, none⟩)) = some (slV S_api_RelE l.Rels, [lEn l]) := rfl
theorem KM : loadI [lEn l] (.pointer (some ⟨0, 0, none⟩)) = some (.int .u16 l.Heads.Machine, [lEn l]) := rfl
theorem fzS {H : Heap} : List.mapM (Fw.frz 8 H) [slV S_api_SymE l.Syms] = some [slV S_api_SymE l.Syms] := by
  simp [frz_pure (pure_sl (E := S_api_SymE) (o := l.Syms) (k := 8) (by rfl))]
theorem fzR {H : Heap} {m : Int} : List.mapM (Fw.frz 8 H) [.int .u16 m, slV S_api_RelE l.Rels] = some [.int .u16 m, slV S_api_RelE l.Rels] := by
  simp [frz_pure (pure_sl (E := S_api_RelE) (o := l.Rels) (k := 8) (by rfl)), frz_pure (pure_int (k := 8) (i := .u16) (n := m))]
theorem f_Lib (t : DuF T) (hk : OkL l) (hb : Okl l) : FnV T 23 [.agg (S_api_LibE.e l).toArray] (strV (libM l)) := by
  refine FnV_of (by simp [pure_aggE (E := S_api_LibE) (by decide)]) ?_
  have B1 : stepI (ini [.agg (S_api_LibE.e l).toArray]) [] (.box 60 (.t 0)) = some (p0, [lEn l]) := boxE (E := S_api_LibE) (H := []) rfl
  have n1 := headsM_len l.Heads hb.ld
  have n2 := dynM_len l.Dyn hb.nd hb.so hb.ru hb.nn
  have n3 : (symsM (lst l.Syms)).length ≤ 1000000 := by have := symsF_len 0 (lst l.Syms) hb.sn; have := hb.sy; unfold symsM; omega
  have n4 : (relsM l.Heads.Machine (lst l.Rels)).length ≤ 1000000 := by have := relsM_len l.Heads.Machine (lst l.Rels); have := hb.re; omega
  have x1 := f_Heads t hk.h (by have := hb.ld; omega) (by omega)
  have x2 := f_Dyn t hk.d (by omega)
  have x3 := f_Syms t hk.s (by have := hb.sy; omega) (by omega)
  have x4 := f_Rels t (m := l.Heads.Machine) hk.r (by have := hb.re; omega) (by omega)
  unfold libM
  generalize headsM l.Heads = A at n1 x1 ⊢
  generalize dynM l.Dyn = B at n2 x2 ⊢
  generalize symsM (lst l.Syms) = C at n3 x3 ⊢
  generalize relsM l.Heads.Machine (lst l.Rels) = D at n4 x4 ⊢
  have z1 : A.length + B.length ≤ 9223372036854775807 := by omega
  have z2 : (A ++ B).length + C.length ≤ 9223372036854775807 := by rw [List.length_append]; omega
  have z3 : (A ++ B ++ C).length + D.length ≤ 9223372036854775807 := by rw [List.length_append, List.length_append]; omega
  rw [Ev_fn t.lb rfl]
  simp only [F_dump_Lib, fws, B1, F_dump_Libr0b, F_dump_Libr0_W, F_dump_Libr1b, F_dump_Libcb, F_dump_Libc_W]
  simp only [fws, seval, cond_true, cond_false, if_true, if_false, unV, isNil, optI, iV, stepI, evalR, IntKind.bits, ini, faI_ptr, K60, KH, KD, KS, KR, KM, fzS, fzR, CC_of x1, CC_of x2, CL_of x3 rfl, CL_of x4 rfl, size_str, append_str, z1, z2, z3, N_dump_Lib, Nat.zero_add]
  refine WR_nilT rfl (by decide) ⟨fun c hc => ?_, ?_⟩
  · simp only [List.mem_cons, List.not_mem_nil, or_false] at hc
    rcases hc with rfl | rfl
    · intro _; rfl
    · intro _; rfl
  · simp only [fws, seval, cond_true, cond_false, if_true, if_false, unV, isNil, optI, iV, stepI, evalR, IntKind.bits, ini, N_dump_Lib]
    rfl
set_option maxHeartbeats 1000000 in
theorem law_DumpWrites (t : DuF T) (hlaw : T 5 = some F_law32_DumpWrites) (ca : FnV T 24 [] (.bool true)) (w : l.wf) {m : Int} (hm : isU 65536 m) :
    Ev T 5 [.agg (S_api_LibE.e l).toArray, .int .u16 m] [] fun v _ => v = .bool true := by
  have B1 : stepI (ini [.agg (S_api_LibE.e l).toArray, .int .u16 m]) [] (.box 60 (.t 0)) = some (p0, [lEn l]) := boxE (E := S_api_LibE) (H := []) rfl
  obtain ⟨u, cg, b, rfl, hg⟩ := f_great t l
  rw [Ev_fn hlaw rfl]
  simp only [F_law32_DumpWrites, fws, B1, F_law32_DumpWritesr0b, F_law32_DumpWritesr0_W, F_law32_DumpWritesr1b, F_law32_DumpWritesr2b, F_law32_DumpWritesr2_W, F_law32_DumpWritesr3b, F_law32_DumpWritesr3_g7, F_law32_DumpWritesr3_g16, F_law32_DumpWritesr3_g25, F_law32_DumpWritesr3_W, F_law32_DumpWritesr3_len, F_law32_DumpWritesr3_i21, F_law32_DumpWritesr3_i32, F_law32_DumpWritesr4b, F_law32_DumpWritesr4_W, F_law32_DumpWritesr5b, F_law32_DumpWritesr5_g21, F_law32_DumpWritesr5_W, F_law32_DumpWritesr5_len, F_law32_DumpWritesr5_i15, F_law32_DumpWritesr5_i17, F_law32_DumpWritescb, F_law32_DumpWritesc_W]
  cases b with
  | true =>
    simp only [fws, seval, cond_true, cond_false, if_true, if_false, unV, isNil, optI, iV, stepI, evalR, IntKind.bits, ini, K60, CC_of cg, N_law32_DumpWrites]
  | false =>
    have hb := hg rfl
    have hk := okL_wf w hb
    have n1 := headsM_len l.Heads hb.ld
    have n2 := dynM_len l.Dyn hb.nd hb.so hb.ru hb.nn
    have n3 : (symsM (lst l.Syms)).length ≤ 1000000 := by have := symsF_len 0 (lst l.Syms) hb.sn; have := hb.sy; unfold symsM; omega
    have n4 : (relsM l.Heads.Machine (lst l.Rels)).length ≤ 1000000 := by have := relsM_len l.Heads.Machine (lst l.Rels); have := hb.re; omega
    have n5 : (relsM m (lst l.Rels)).length ≤ 1000000 := by have := relsM_len m (lst l.Rels); have := hb.re; omega
    have a1 := f_Heads t hk.h (by have := hb.ld; omega) (by omega)
    have a2 := f_Dyn t hk.d (by omega)
    have a3 := f_Syms t hk.s (by have := hb.sy; omega) (by omega)
    have a5 := f_Rels t (m := m) hk.r (by have := hb.re; omega) (by omega)
    have b1 := f_rHeads t hk.h (by have := hb.ld; omega) (by omega)
    have b2 := f_rDyn t hk.d (by omega)
    have b3 := f_rSyms t hk.s (by have := hb.sy; omega) (by omega)
    have b4 := f_rRels t (m := l.Heads.Machine) hk.h.mc hk.r (by have := hb.re; omega) (by omega)
    have b5 := f_rRels t (m := m) hm hk.r (by have := hb.re; omega) (by omega)
    have cl := f_Lib t hk hb
    unfold libM at cl
    generalize headsM l.Heads = A at n1 a1 b1 cl
    generalize dynM l.Dyn = B at n2 a2 b2 cl
    generalize symsM (lst l.Syms) = C at n3 a3 b3 cl
    generalize relsM l.Heads.Machine (lst l.Rels) = D at n4 b4 cl
    generalize relsM m (lst l.Rels) = E at n5 a5 b5
    have z1 : A.length + B.length ≤ 9223372036854775807 := by omega
    have z2 : (A ++ B).length + C.length ≤ 9223372036854775807 := by rw [List.length_append]; omega
    have z3 : (A ++ B ++ C).length + D.length ≤ 9223372036854775807 := by rw [List.length_append, List.length_append]; omega
    simp only [fws, seval, cond_true, cond_false, if_true, if_false, unV, isNil, optI, iV, stepI, evalR, IntKind.bits, ini, faI_ptr, K60, KH, KD, KS, KR, fzS, fzR, CC_of cg, CC_of a1, CC_of b1, CC_of a2, CC_of b2, CL_of a3 rfl, CL_of b3 rfl, CL_of a5 rfl, CL_of b5 rfl, strEq_self, Bool.not_true, F_law32_DumpWritesr0b, F_law32_DumpWritesr0_W, F_law32_DumpWritesr1b, F_law32_DumpWritesr1_W, F_law32_DumpWritesr2b, F_law32_DumpWritesr2_W, F_law32_DumpWritesr3b, F_law32_DumpWritesr3_g7, F_law32_DumpWritesr3_g16, F_law32_DumpWritesr3_g25, F_law32_DumpWritesr3_W, F_law32_DumpWritesr3_len, F_law32_DumpWritesr3_i21, F_law32_DumpWritesr3_i32, F_law32_DumpWritesr4b, F_law32_DumpWritesr4_W, F_law32_DumpWritesr5b, F_law32_DumpWritescb, F_law32_DumpWritesc_W, Nat.zero_add]
    refine WR_nilT rfl (by decide) ⟨fun c hc => ?_, ?_⟩
    · simp only [List.mem_cons, List.not_mem_nil, or_false] at hc
      rcases hc with rfl | rfl
      · intro _; rfl
      · intro _; rfl
    simp only [fws, seval, cond_true, cond_false, if_true, if_false, unV, isNil, optI, iV, stepI, evalR, IntKind.bits, ini, faI_ptr, K60, KH, KD, KS, KR, KM, fzS, fzR, CC_of cl, CC_of b1, CC_of b2, CL_of b3 rfl, CL_of b4 rfl, CC_of ca, size_str, append_str, z1, z2, z3, strEq_self, N_law32_DumpWrites, Nat.zero_add]
    refine WR_nilT rfl (by decide) ⟨fun c hc => ?_, ?_⟩
    · simp only [List.mem_cons, List.not_mem_nil, or_false] at hc
      rcases hc with rfl | rfl
      · intro _; rfl
      · intro _; rfl
    · simp only [fws, seval, cond_true, cond_false, if_true, if_false, unV, isNil, optI, iV, stepI, evalR, IntKind.bits, ini, N_law32_DumpWrites]
end
end Go.Proofs.YtdajdgjacajemaaGreat
/- DumpJoins. -/
namespace Go.Proofs.YtdajdgjacajemaaGreat
open Go Fw
set_option linter.unusedSimpArgs false
set_option linter.unusedVariables false
set_option linter.unusedSectionVars false

theorem Own.frzo {α : Type} {E : Enc α} {l : List α} {H : Heap} {v : Value} (h : Own E H v l) {k : Nat} (hk : E.d ≤ k) : ∃ o, lst o = l ∧ Fw.frz (k + 1) H v = some (slV E o) := by
  rcases h with ⟨rfl, rfl⟩ | ⟨b, tag, rfl, hH⟩
  · exact ⟨none, rfl, rfl⟩
  · refine ⟨some l, rfl, ?_⟩
    have h1 : pureV (k + 1) (own b tag l.length) = false := rfl
    simp only [Fw.frz, h1, cond_false]
    rw [own_lk (tag := tag) (o := .cells false E.u (E.cs l)) hH]
    simp only [List.drop_zero, rdN_cs rfl, Option.bind_some]
    rw [mapM_pure (cs_pure' hk)]
    rfl
theorem relsM_app (m : Int) (a b : List S_api_Rel) : relsM m (a ++ b) = relsM m a ++ relsM m b := List.flatMap_append
theorem symsF_app : ∀ (i : Nat) (a b : List S_api_Sym), symsF i (a ++ b) = symsF i a ++ symsF (i + a.length) b
  | i, [], b => by simp [symsF]
  | i, s :: a, b => by
    rw [List.cons_append, symsF, symsF_app (i + 1) a b, symsF, List.append_assoc, List.length_cons]
    congr 3
    omega
section
variable {T : Tab} {a b l : S_api_Lib}
theorem ldR {H : Heap} {q : Nat} (h : H[q]? = some (lEn l)) : loadI H (.pointer (some ⟨q, 57, none⟩)) = some (slV S_api_RelE l.Rels, H) := by
  simp only [loadI_ptr, lk, cellsAt, tagOf, h]; rfl
theorem ldS {H : Heap} {q : Nat} (h : H[q]? = some (lEn l)) : loadI H (.pointer (some ⟨q, 56, none⟩)) = some (slV S_api_SymE l.Syms, H) := by
  simp only [loadI_ptr, lk, cellsAt, tagOf, h]; rfl
abbrev p1 : Value := .pointer (some ⟨1, 0, none⟩)
/-- Two libraries, and what else there may be. -/
def JS (a b : S_api_Lib) (m : Int) (e : Env) (h : Heap) : Prop := e 2 = .int .u16 m ∧ e 3 = p0 ∧ e 4 = p1 ∧ h[0]? = some (lEn a) ∧ h[1]? = some (lEn b)
theorem join3 {m : Int} {env : Env} {H : Heap} (hs : JS a b m env H) (ha : (lst a.Rels).length ≤ 600) (hb : (lst b.Rels).length ≤ 600) :
    W T (.dreg F_law32_DumpJoinsr3 [(2, 0), (5, 0), (5, 1)]) env H fun x e h => x = .normal ∧ JS a b m e h ∧ Own S_api_RelE h (e 7) (lst a.Rels ++ lst b.Rels) := by
  obtain ⟨v2, v3, v4, h0, h1⟩ := hs
  have l0 := (List.getElem?_eq_some_iff.1 h0).1
  have l1 := (List.getElem?_eq_some_iff.1 h1).1
  obtain ⟨H1, hH1⟩ : ∃ H1, H1 = H ++ [⟨0, .cells false 5 []⟩] := ⟨_, rfl⟩
  have g0 : H1[0]? = some (lEn a) := by rw [hH1, List.getElem?_append_left l0]; exact h0
  have g1 : H1[1]? = some (lEn b) := by rw [hH1, List.getElem?_append_left l1]; exact h1
  have ow : Own S_api_RelE H1 (.slice (some ⟨H.length, 0, none⟩) 0 0) [] := .inr ⟨H.length, 0, rfl, by rw [hH1]; simp [oe]; exact ⟨rfl, rfl⟩⟩
  obtain ⟨w1, H2, a1, a2, a3⟩ := ow.app (m := lst a.Rels) (n := 5) (eb := 32) rfl rfl (by simp only [List.length_nil]; omega)
  have k0 : H2[0]? = some (lEn a) := by rw [a3.same 0 (by rw [hH1]; simp) (by rw [show blkV (.slice (some ⟨H.length, 0, none⟩) 0 0) = some H.length from rfl]; intro e; have := Option.some.inj e; omega)]; exact g0
  have k1 : H2[1]? = some (lEn b) := by rw [a3.same 1 (by rw [hH1]; simp; omega) (by rw [show blkV (.slice (some ⟨H.length, 0, none⟩) 0 0) = some H.length from rfl]; intro e; have := Option.some.inj e; omega)]; exact g1
  have hbk : blkV w1 ≠ some 0 ∧ blkV w1 ≠ some 1 := by
    rcases a3.blk with e | ⟨e, _⟩
    · rw [e, show blkV (.slice (some ⟨H.length, 0, none⟩) 0 0) = some H.length from rfl]
      exact ⟨fun e => by have := Option.some.inj e; omega, fun e => by have := Option.some.inj e; omega⟩
    · cases e
  obtain ⟨w2, H3, b1, b2, b3⟩ := a2.app (m := lst b.Rels) (n := 5) (eb := 32) rfl rfl (by simp only [List.length_nil, List.nil_append]; omega)
  have m0 : H3[0]? = some (lEn a) := by rw [b3.same 0 (List.getElem?_eq_some_iff.1 k0).1 hbk.1]; exact k0
  have m1 : H3[1]? = some (lEn b) := by rw [b3.same 1 (List.getElem?_eq_some_iff.1 k1).1 hbk.2]; exact k1
  have s1 := fun H => srcOf_sl (E := S_api_RelE) (o := a.Rels) (n := 5) (H := H) rfl
  have s2 := fun H => srcOf_sl (E := S_api_RelE) (o := b.Rels) (n := 5) (H := H) rfl
  have bz : stepI env H (.bslz 5) = some (.slice (some ⟨H.length, 0, none⟩) 0 0, H1) := by rw [hH1]; rfl
  simp only [fws, bz, N_law32_DumpJoins]
  simp only [fws, seval, cond_true, cond_false, if_true, if_false, unV, isNil, optI, iV, stepI, evalR, IntKind.bits, ini, faI_ptr, ldR g0, ldR k1, s1, s2, a1, b1, v3, v4, N_law32_DumpJoins, Nat.zero_add]
  refine WR_nilT rfl (by decide) ⟨fun c hc => ?_, ?_⟩
  · simp only [List.mem_cons, List.not_mem_nil, or_false] at hc
    rcases hc with rfl | rfl | rfl
    · intro _
      show (stepI _ H (.load (.t 18))).map (·.1) = (stepI _ H1 (.load (.t 18))).map (·.1)
      simp only [fws, seval, cond_true, cond_false, if_true, if_false, unV, isNil, optI, iV, stepI, evalR, IntKind.bits, ini, ldR h0, ldR g0]
    · intro _
      show (stepI _ H (.load (.t 21))).map (·.1) = (stepI _ H2 (.load (.t 21))).map (·.1)
      simp only [fws, seval, cond_true, cond_false, if_true, if_false, unV, isNil, optI, iV, stepI, evalR, IntKind.bits, ini, ldR h1, ldR k1]
    · intro _
      show (stepI _ H1 (.load (.t 21))).map (·.1) = (stepI _ H2 (.load (.t 21))).map (·.1)
      simp only [fws, seval, cond_true, cond_false, if_true, if_false, unV, isNil, optI, iV, stepI, evalR, IntKind.bits, ini, ldR g1, ldR k1]
  · exact ⟨rfl, ⟨v2, v3, v4, m0, m1⟩, by rw [List.nil_append] at b2; exact b2⟩
theorem join6 {m : Int} {env : Env} {H : Heap} (hs : JS a b m env H) (ha : (lst a.Syms).length ≤ 600) (hb : (lst b.Syms).length ≤ 600) :
    W T (.dreg F_law32_DumpJoinsr6 [(2, 0), (5, 0), (5, 1)]) env H fun x e h => x = .normal ∧ JS a b m e h ∧ Own S_api_SymE h (e 8) (lst a.Syms ++ lst b.Syms) := by
  obtain ⟨v2, v3, v4, h0, h1⟩ := hs
  have l0 := (List.getElem?_eq_some_iff.1 h0).1
  have l1 := (List.getElem?_eq_some_iff.1 h1).1
  obtain ⟨H1, hH1⟩ : ∃ H1, H1 = H ++ [⟨0, .cells false 7 []⟩] := ⟨_, rfl⟩
  have g0 : H1[0]? = some (lEn a) := by rw [hH1, List.getElem?_append_left l0]; exact h0
  have g1 : H1[1]? = some (lEn b) := by rw [hH1, List.getElem?_append_left l1]; exact h1
  have ow : Own S_api_SymE H1 (.slice (some ⟨H.length, 0, none⟩) 0 0) [] := .inr ⟨H.length, 0, rfl, by rw [hH1]; simp [oe]; exact ⟨rfl, rfl⟩⟩
  obtain ⟨w1, H2, a1, a2, a3⟩ := ow.app (m := lst a.Syms) (n := 7) (eb := 72) rfl rfl (by simp only [List.length_nil]; omega)
  have k0 : H2[0]? = some (lEn a) := by rw [a3.same 0 (by rw [hH1]; simp) (by rw [show blkV (.slice (some ⟨H.length, 0, none⟩) 0 0) = some H.length from rfl]; intro e; have := Option.some.inj e; omega)]; exact g0
  have k1 : H2[1]? = some (lEn b) := by rw [a3.same 1 (by rw [hH1]; simp; omega) (by rw [show blkV (.slice (some ⟨H.length, 0, none⟩) 0 0) = some H.length from rfl]; intro e; have := Option.some.inj e; omega)]; exact g1
  have hbk : blkV w1 ≠ some 0 ∧ blkV w1 ≠ some 1 := by
    rcases a3.blk with e | ⟨e, _⟩
    · rw [e, show blkV (.slice (some ⟨H.length, 0, none⟩) 0 0) = some H.length from rfl]
      exact ⟨fun e => by have := Option.some.inj e; omega, fun e => by have := Option.some.inj e; omega⟩
    · cases e
  obtain ⟨w2, H3, b1, b2, b3⟩ := a2.app (m := lst b.Syms) (n := 7) (eb := 72) rfl rfl (by simp only [List.length_nil, List.nil_append]; omega)
  have m0 : H3[0]? = some (lEn a) := by rw [b3.same 0 (List.getElem?_eq_some_iff.1 k0).1 hbk.1]; exact k0
  have m1 : H3[1]? = some (lEn b) := by rw [b3.same 1 (List.getElem?_eq_some_iff.1 k1).1 hbk.2]; exact k1
  have s1 := fun H => srcOf_sl (E := S_api_SymE) (o := a.Syms) (n := 7) (H := H) rfl
  have s2 := fun H => srcOf_sl (E := S_api_SymE) (o := b.Syms) (n := 7) (H := H) rfl
  have bz : stepI env H (.bslz 7) = some (.slice (some ⟨H.length, 0, none⟩) 0 0, H1) := by rw [hH1]; rfl
  simp only [fws, bz, N_law32_DumpJoins]
  simp only [fws, seval, cond_true, cond_false, if_true, if_false, unV, isNil, optI, iV, stepI, evalR, IntKind.bits, ini, faI_ptr, ldS g0, ldS k1, s1, s2, a1, b1, v3, v4, N_law32_DumpJoins, Nat.zero_add]
  refine WR_nilT rfl (by decide) ⟨fun c hc => ?_, ?_⟩
  · simp only [List.mem_cons, List.not_mem_nil, or_false] at hc
    rcases hc with rfl | rfl | rfl
    · intro _
      show (stepI _ H (.load (.t 38))).map (·.1) = (stepI _ H1 (.load (.t 38))).map (·.1)
      simp only [fws, seval, cond_true, cond_false, if_true, if_false, unV, isNil, optI, iV, stepI, evalR, IntKind.bits, ini, ldS h0, ldS g0]
    · intro _
      show (stepI _ H (.load (.t 41))).map (·.1) = (stepI _ H2 (.load (.t 41))).map (·.1)
      simp only [fws, seval, cond_true, cond_false, if_true, if_false, unV, isNil, optI, iV, stepI, evalR, IntKind.bits, ini, ldS h1, ldS k1]
    · intro _
      show (stepI _ H1 (.load (.t 41))).map (·.1) = (stepI _ H2 (.load (.t 41))).map (·.1)
      simp only [fws, seval, cond_true, cond_false, if_true, if_false, unV, isNil, optI, iV, stepI, evalR, IntKind.bits, ini, ldS g1, ldS k1]
  · exact ⟨rfl, ⟨v2, v3, v4, m0, m1⟩, by rw [List.nil_append] at b2; exact b2⟩
end
end Go.Proofs.YtdajdgjacajemaaGreat
/- DumpJoins: the law. -/
namespace Go.Proofs.YtdajdgjacajemaaGreat
open Go Fw
set_option linter.unusedSimpArgs false
set_option linter.unusedVariables false
set_option linter.unusedSectionVars false

section
variable {T : Tab} {a b : S_api_Lib}
set_option maxHeartbeats 1000000 in
theorem law_DumpJoins (t : DuF T) (hlaw : T 6 = some F_law32_DumpJoins) (ca : FnV T 24 [] (.bool true)) (wa : a.wf) (wb : b.wf) {m : Int} (hm : isU 65536 m) :
    Ev T 6 [.agg (S_api_LibE.e a).toArray, .agg (S_api_LibE.e b).toArray, .int .u16 m] [] fun v _ => v = .bool true := by
  have B1 : stepI (ini [.agg (S_api_LibE.e a).toArray, .agg (S_api_LibE.e b).toArray, .int .u16 m]) [] (.box 60 (.t 0)) = some (p0, [lEn a]) := boxE (E := S_api_LibE) (H := []) rfl
  have B2 : stepI (upd (ini [.agg (S_api_LibE.e a).toArray, .agg (S_api_LibE.e b).toArray, .int .u16 m]) 3 p0) [lEn a] (.box 60 (.t 1)) = some (p1, [lEn a, lEn b]) := boxE (E := S_api_LibE) (H := [lEn a]) rfl
  have Ka : loadNI [lEn a, lEn b] 60 (.pointer (some ⟨0, 0, none⟩)) = some (.agg (S_api_LibE.e a).toArray, [lEn a, lEn b]) := rfl
  have Kb : loadNI [lEn a, lEn b] 60 (.pointer (some ⟨1, 0, none⟩)) = some (.agg (S_api_LibE.e b).toArray, [lEn a, lEn b]) := rfl
  obtain ⟨u, cga, ga, rfl, hga⟩ := f_great t a
  obtain ⟨u, cgb, gb, rfl, hgb⟩ := f_great t b
  rw [Ev_fn hlaw rfl]
  simp only [F_law32_DumpJoins, fws, putE, B1, B2, F_law32_DumpJoinsr0b, F_law32_DumpJoinsr0_W, F_law32_DumpJoinsr1b, F_law32_DumpJoinsr2b, F_law32_DumpJoinsr2_W, F_law32_DumpJoinsr3b, F_law32_DumpJoinsr3_W, F_law32_DumpJoinsr3_len, F_law32_DumpJoinsr3_i2, F_law32_DumpJoinsr3_i5, F_law32_DumpJoinsr4b, F_law32_DumpJoinsr4_W, F_law32_DumpJoinsr4_len, F_law32_DumpJoinsr4_i5, F_law32_DumpJoinsr4_i9, F_law32_DumpJoinsr5b, F_law32_DumpJoinsr5_W, F_law32_DumpJoinsr6b, F_law32_DumpJoinsr6_W, F_law32_DumpJoinsr6_len, F_law32_DumpJoinsr6_i2, F_law32_DumpJoinsr6_i5, F_law32_DumpJoinsr7b, F_law32_DumpJoinsr7_W, F_law32_DumpJoinsr8b, F_law32_DumpJoinsr8_W, F_law32_DumpJoinsr8_g5, F_law32_DumpJoinsr8_g13, F_law32_DumpJoinscb, F_law32_DumpJoinsc_W]
  cases ga with
  | true =>
    simp only [fws, seval, cond_true, cond_false, if_true, if_false, unV, isNil, optI, iV, stepI, evalR, IntKind.bits, ini, Ka, Kb, CC_of cga, N_law32_DumpJoins]
  | false =>
    cases gb with
    | true =>
      simp only [fws, seval, cond_true, cond_false, if_true, if_false, unV, isNil, optI, iV, stepI, evalR, IntKind.bits, ini, Ka, Kb, CC_of cga, CC_of cgb, N_law32_DumpJoins]
    | false =>
      have hba := hga rfl
      have hka := okL_wf wa hba
      have hbb := hgb rfl
      have hkb := okL_wf wb hbb
      simp only [fws, seval, cond_true, cond_false, if_true, if_false, unV, isNil, optI, iV, stepI, evalR, IntKind.bits, ini, Ka, Kb, CC_of cga, CC_of cgb, F_law32_DumpJoinsr0b, F_law32_DumpJoinsr0_W, F_law32_DumpJoinsr1b, F_law32_DumpJoinsr1_W, F_law32_DumpJoinsr1_g2, F_law32_DumpJoinsr2b, F_law32_DumpJoinsr2_W, F_law32_DumpJoinsr3b, F_law32_DumpJoinsr4b, F_law32_DumpJoinsr4_W, F_law32_DumpJoinsr4_len, F_law32_DumpJoinsr4_i5, F_law32_DumpJoinsr4_i9, F_law32_DumpJoinsr5b, F_law32_DumpJoinsr5_W, F_law32_DumpJoinsr6b, F_law32_DumpJoinsr6_W, F_law32_DumpJoinsr6_len, F_law32_DumpJoinsr6_i2, F_law32_DumpJoinsr6_i5, F_law32_DumpJoinsr7b, F_law32_DumpJoinsr7_W, F_law32_DumpJoinsr8b, F_law32_DumpJoinsr8_W, F_law32_DumpJoinsr8_g5, F_law32_DumpJoinsr8_g13, F_law32_DumpJoinscb, F_law32_DumpJoinsc_W]
      refine W.mono (join3 (a := a) (b := b) (m := m) ⟨?_, ?_, ?_, rfl, rfl⟩ hba.re hbb.re) fun x e H ⟨hx, hs, ow⟩ => ?_
      · (first | assumption | rfl)
      · (first | assumption | rfl)
      · (first | assumption | rfl)
      subst hx
      rw [seqQ_normal]
      obtain ⟨o, ho, hf⟩ := Own.frzo ow (k := 7) (by decide)
      have re1 := hba.re
      have re2 := hbb.re
      have hlo : (lst o).length ≤ 1200 := by rw [ho, List.length_append]; omega
      have oko : ∀ p ∈ lst o, OkR p := fun p hp => by
        rw [ho] at hp
        rcases List.mem_append.1 hp with h | h
        · exact hka.r p h
        · exact hkb.r p h
      have n1 : (relsM m (lst o)).length ≤ 1000000 := by have := relsM_len m (lst o); omega
      have n2 : (relsM m (lst a.Rels)).length ≤ 1000000 := by have := relsM_len m (lst a.Rels); omega
      have n3 : (relsM m (lst b.Rels)).length ≤ 1000000 := by have := relsM_len m (lst b.Rels); omega
      have x1 := f_Rels t (m := m) (o := o) oko (by omega) (by omega)
      have x2 := f_Rels t (m := m) (o := a.Rels) hka.r (by omega) (by omega)
      have x3 := f_Rels t (m := m) (o := b.Rels) hkb.r (by omega) (by omega)
      rw [ho, relsM_app] at x1
      have fz1 : List.mapM (Fw.frz 8 H) [.int .u16 m, e 7] = some [.int .u16 m, slV S_api_RelE o] := by
        simp [hf, frz_pure (pure_int (k := 8) (i := .u16) (n := m))]
      have fz2 : List.mapM (Fw.frz 8 H) [.int .u16 m, slV S_api_RelE a.Rels] = some [.int .u16 m, slV S_api_RelE a.Rels] := fzR
      have fz3 : List.mapM (Fw.frz 8 H) [.int .u16 m, slV S_api_RelE b.Rels] = some [.int .u16 m, slV S_api_RelE b.Rels] := fzR
      generalize relsM m (lst a.Rels) = A at n2 x1 x2
      generalize relsM m (lst b.Rels) = B at n3 x1 x3
      have z1 : A.length + B.length ≤ 9223372036854775807 := by omega
      have hs' := hs
      obtain ⟨v2, v3, v4, h0, h1⟩ := hs
      simp only [fws, seval, cond_true, cond_false, if_true, if_false, unV, isNil, optI, iV, stepI, evalR, IntKind.bits, ini, faI_ptr, ldR h0, ldR h1, v2, v3, v4, fz1, fz2, fz3, CL_of x1 rfl, CL_of x2 rfl, CL_of x3 rfl, size_str, append_str, z1, strEq_self, Bool.not_true, F_law32_DumpJoinsr0b, F_law32_DumpJoinsr0_W, F_law32_DumpJoinsr1b, F_law32_DumpJoinsr1_W, F_law32_DumpJoinsr1_g2, F_law32_DumpJoinsr2b, F_law32_DumpJoinsr2_W, F_law32_DumpJoinsr3b, F_law32_DumpJoinsr3_W, F_law32_DumpJoinsr3_len, F_law32_DumpJoinsr3_i2, F_law32_DumpJoinsr3_i5, F_law32_DumpJoinsr4b, F_law32_DumpJoinsr4_W, F_law32_DumpJoinsr4_len, F_law32_DumpJoinsr4_i5, F_law32_DumpJoinsr4_i9, F_law32_DumpJoinsr5b, F_law32_DumpJoinsr5_W, F_law32_DumpJoinsr6b, F_law32_DumpJoinsr7b, F_law32_DumpJoinsr7_W, F_law32_DumpJoinsr8b, F_law32_DumpJoinsr8_W, F_law32_DumpJoinsr8_g5, F_law32_DumpJoinsr8_g13, F_law32_DumpJoinscb, F_law32_DumpJoinsc_W, Nat.zero_add]
      refine WR_nilT rfl (by decide) ⟨fun c hc => ?_, ?_⟩
      · simp only [List.mem_cons, List.not_mem_nil, or_false] at hc
        rcases hc with rfl | rfl | rfl
        · intro _; rfl
        · intro _; rfl
        · intro _; rfl
      simp only [fws, seval, cond_true, cond_false, if_true, if_false, unV, isNil, optI, iV, stepI, evalR, IntKind.bits, ini, F_law32_DumpJoinsr0b, F_law32_DumpJoinsr0_W, F_law32_DumpJoinsr1b, F_law32_DumpJoinsr1_W, F_law32_DumpJoinsr1_g2, F_law32_DumpJoinsr2b, F_law32_DumpJoinsr2_W, F_law32_DumpJoinsr3b, F_law32_DumpJoinsr3_W, F_law32_DumpJoinsr3_len, F_law32_DumpJoinsr3_i2, F_law32_DumpJoinsr3_i5, F_law32_DumpJoinsr4b, F_law32_DumpJoinsr4_W, F_law32_DumpJoinsr4_len, F_law32_DumpJoinsr4_i5, F_law32_DumpJoinsr4_i9, F_law32_DumpJoinsr5b, F_law32_DumpJoinsr5_W, F_law32_DumpJoinsr6b, F_law32_DumpJoinsr7b, F_law32_DumpJoinsr7_W, F_law32_DumpJoinsr8b, F_law32_DumpJoinsr8_W, F_law32_DumpJoinsr8_g5, F_law32_DumpJoinsr8_g13, F_law32_DumpJoinscb, F_law32_DumpJoinsc_W]
      refine W.mono (join6 (a := a) (b := b) (m := m) ⟨?_, ?_, ?_, h0, h1⟩ (by have := hba.sy; omega) (by have := hbb.sy; omega)) fun x e H ⟨hx, hs, ow⟩ => ?_
      · (first | assumption | rfl)
      · (first | assumption | rfl)
      · (first | assumption | rfl)
      subst hx
      rw [seqQ_normal]
      obtain ⟨o, ho, hf⟩ := Own.frzo ow (k := 7) (by decide)
      have se1 := hba.sy
      have se2 := hbb.sy
      have hlo : (lst o).length ≤ 600 := by rw [ho, List.length_append]; omega
      have oko : ∀ p ∈ lst o, OkS p := fun p hp => by
        rw [ho] at hp
        rcases List.mem_append.1 hp with h | h
        · exact hka.s p h
        · exact hkb.s p h
      have osn : ∀ s ∈ lst o, s.Name.length ≤ 1000 ∧ s.Ver.length ≤ 1000 := fun p hp => by
        rw [ho] at hp
        rcases List.mem_append.1 hp with h | h
        · exact hba.sn p h
        · exact hbb.sn p h
      have n1 : (symsM (lst o)).length ≤ 2000000 := by have := symsF_len 0 (lst o) osn; unfold symsM; omega
      have n2 : (symsM (lst a.Syms)).length ≤ 1000000 := by have := symsF_len 0 (lst a.Syms) hba.sn; unfold symsM; omega
      have x1 := f_Syms t (o := o) oko (by omega) (by omega)
      have x2 := f_Syms t (o := a.Syms) hka.s (by omega) (by omega)
      have hT : symsM (lst o) = symsM (lst a.Syms) ++ symsF (0 + (lst a.Syms).length) (lst b.Syms) := by rw [ho]; exact symsF_app 0 _ _
      have fz1 : List.mapM (Fw.frz 8 H) [e 8] = some [slV S_api_SymE o] := by simp [hf]
      have fz2 : List.mapM (Fw.frz 8 H) [slV S_api_SymE a.Syms] = some [slV S_api_SymE a.Syms] := fzS
      generalize symsF (0 + (lst a.Syms).length) (lst b.Syms) = R at hT
      generalize symsM (lst o) = Q at n1 x1 hT
      generalize symsM (lst a.Syms) = S at n2 x2 hT
      have hlen : S.length ≤ Q.length := by rw [hT, List.length_append]; omega
      have q1 : ((S.length : Int) ≤ (Q.length : Int)) := by omega
      have q0 : ((0 : Int) ≤ (S.length : Int)) := by omega
      have qe : (⟨Q.toArray⟩ : ByteArray).extract 0 S.length = ⟨S.toArray⟩ := by
        rw [extract_str, hT]; simp
      have n0 : ∀ {H : Heap} {l : List UInt8}, lenI H 0 (strV l) = some (.int .i64 l.length, H) := rfl
      obtain ⟨v2, v3, v4, h0, h1⟩ := hs
      simp only [fws, seval, cond_true, cond_false, if_true, if_false, unV, isNil, optI, iV, stepI, evalR, IntKind.bits, ini, faI_ptr, ldS h0, ldS h1, v2, v3, v4, fz1, fz2, CL_of x1 rfl, CL_of x2 rfl, n0, size_str, q0, q1, qe, Int.toNat_natCast, Int.toNat_zero, and_self, CC_of ca, strEq_self, N_law32_DumpJoins, Nat.zero_add]
end
theorem dumpJoins_t (a b : S_api_Lib) (m : Int) (wa : a.wf) (wb : b.wf) (h : (Lit.int .u16 m).wf = true) : Ev TDu 6 [.agg (S_api_LibE.e a).toArray, .agg (S_api_LibE.e b).toArray, .int .u16 m] [] fun v _ => v = .bool true :=
  law_DumpJoins (by constructor <;> first | rfl | (constructor <;> first | rfl | (constructor <;> rfl))) rfl du_alive wa wb (wf_u16 h)
end Go.Proofs.YtdajdgjacajemaaGreat
