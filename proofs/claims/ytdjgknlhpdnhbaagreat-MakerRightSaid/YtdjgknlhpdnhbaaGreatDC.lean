/- Places: rows of bits, all apart and within; on both sides. -/
import Derived.Test.YtdjgknlhpdnhbaaGreatDB
import Derived.Test.YtdjgknlhpdnhbaaGreatMrRun
namespace Go.Proofs.YtdjgknlhpdnhbaaGreat
open Go Fw
set_option linter.unusedSimpArgs false
set_option linter.unusedVariables false
set_option linter.unusedSectionVars false

def relrC (L : List Int) : List Int → Nat → Bool
  | [], _ => true
  | p :: r, i => decide (p % 8 = 0) && (decide (i = 0) || !decide (p ≤ L.getD (i - 1) 0)) && relrC L r (i + 1)
def placesC (P : List Int) (room : Int) : List Int → Nat → Bool
  | [], _ => true
  | p :: r, i => insI p 8 0 room && (P.take i).all (fun q => aprI p 8 q 8) && placesC P room r (i + 1)
theorem own_take {l : List Int} {H : Heap} {v : Value} (h : Own (intE .u64) H v l) {i : Nat} (hi : i < l.length) :
    ∃ w, sleI H 1 v none (some (.int .i64 i)) none = some (w, H) ∧ lenI H 1 w = some (.int .i64 i, H) ∧ ∀ (j : Nat) (hj : j < i), ∃ a, ixaI H 1 w (.int .i64 j) = some (.pointer (some a), H) ∧ loadI H (.pointer (some a)) = some (.int .u64 (l[j]'(by omega)), H) := by
  rcases h with ⟨rfl, _⟩ | ⟨b, tag, rfl, hH⟩
  · simp at hi
  · have hlk : lk H ⟨b, 0, spotOf tag⟩ = some ⟨tag, .cells false 1 ((intE .u64).cs l)⟩ := own_lk (tag := tag) (o := .cells false 1 ((intE .u64).cs l)) hH
    refine ⟨.slice (some ⟨b, 0, spotOf tag⟩) i l.length, ?_, rfl, fun j hj => ⟨⟨b, j, spotOf tag⟩, ?_, ?_⟩⟩
    · simp only [sleI, own, optJ, iV, hlk, Bool.false_or, Nat.beq_refl, cond_true]
      rw [if_pos ⟨by omega, by omega, by omega, by omega⟩]
      simp
    · simp only [ixaI]
      rw [if_pos ⟨by omega, by omega⟩]
      simp
    · have hlk2 : lk H ⟨b, j, spotOf tag⟩ = some ⟨tag, .cells false 1 ((intE .u64).cs l)⟩ := own_lk (tag := tag) (o := .cells false 1 ((intE .u64).cs l)) hH
      have h2 := cs_drop (E := intE .u64) l j
      have hu : (intE .u64).u = 1 := rfl
      rw [hu, Nat.mul_one] at h2
      rw [loadI_ptr]
      simp only [cellsAt, hlk2, h2]
      rw [List.drop_eq_getElem_cons (by omega), cs_cons]
      rfl
section
variable {T : Tab} {s : S_api_Spec}
theorem intE_e1 {x : Int} : (intE .u64).e x = [.int .u64 x] := rfl
theorem ld_u64 {l : List Int} {i : Nat} (h : i < l.length) (H : Heap) : loadI H (atI (intE .u64) l i) = some (.int .u64 l[i], H) := by
  rw [at_cons h]; rfl
theorem loop_mrelr (k : OkSp s) {P : List Int} : ∀ (r : List Int) (i : Nat) (v : Value) (H : Heap) (env : Env), (lst s.Relr).drop i = r → SO (intE .u64) s H v P →
    env 1 = p0 → env 4 = v → env 85 = slV (intE .u64) s.Relr → env 86 = .int .i64 (lst s.Relr).length → env 87 = .int .i64 i →
    W T (.loop F_maker_relocationsl1) env H fun z e h => (z = .exit 2 ∧ relrC (lst s.Relr) r i = true ∧ e 1 = p0 ∧ e 3 = env 3 ∧ e 4 = v ∧ h = H) ∨ (z = .ret ∧ e 2 = .bool false ∧ relrC (lst s.Relr) r i = false) := by
  intro r
  induction r with
  | nil =>
    intro i v H env hr hS v1 v4 v85 v86 v87
    have hi := drop_end hr
    have q : ¬ ((i : Int) < (lst s.Relr).length) := by omega
    rw [w_loop]
    simp only [fws, seval, cond_true, cond_false, if_true, if_false, unV, isNil, optI, iV, stepI, evalR, IntKind.bits, ini, N_maker_relocations, v86, v87, q]
    exact .inl ⟨trivial, rfl, v1, trivial, v4, trivial⟩
  | cons p ps ih =>
    intro i v H env hr hS v1 v4 v85 v86 v87
    obtain ⟨hi, hp, hr2⟩ := drop_at hr
    have q : ((i : Int) < (lst s.Relr).length) := by omega
    have hxx := fun H => ix_sl (E := intE .u64) (o := s.Relr) (n := 1) rfl hi .i64 H
    have hld := fun H => ld_u64 hi H
    have hu := k.ru p (hp ▸ List.getElem_mem hi)
    unfold isU64 at hu
    rw [hp] at hld
    have hl := k.rr
    have w2 : IntKind.i64.wrap ((i : Int) + 1) = ((i + 1 : Nat) : Int) := by rw [wrapI64 (by omega) (by omega)]; rfl
    have L9 := sp9 hS.z
    have tm : p.tmod 8 = p % 8 := tmodN (by omega)
    have e8 : ¬ (8 : Int) = 0 := by decide
    rw [w_loop]
    unfold relrC
    by_cases b1 : p % 8 = 0
    · have d1 : decide (p % 8 = 0) = true := decide_eq_true b1
      rw [d1]
      by_cases i0 : i = 0
      · have p1 : ¬ (0 : Int) < (i : Int) := by omega
        have hz : decide (i = 0) = true := decide_eq_true i0
        rw [hz]
        simp only [fws, seval, cond_true, cond_false, if_true, if_false, unV, isNil, optI, iV, stepI, evalR, IntKind.bits, ini, faI_ptr, Nat.zero_add, lenI_sl, N_maker_relocations, v1, v4, v85, v86, v87, q, hxx, hld, L9, tm, e8, d1, p1, w2]
        refine W.mono (ih (i + 1) v H _ hr2 hS ?_ ?_ ?_ ?_ ?_) fun z e h hh => hh
        all_goals (first | assumption | rfl)
      · have w1 : IntKind.i64.wrap ((i : Int) - 1) = ((i - 1 : Nat) : Int) := by rw [wrapI64 (by omega) (by omega)]; omega
        have hj : i - 1 < (lst s.Relr).length := by omega
        have hxj := fun H => ix_sl (E := intE .u64) (o := s.Relr) (n := 1) rfl hj .i64 H
        have hlj := fun H => ld_u64 hj H
        have p1 : (0 : Int) < (i : Int) := by omega
        have hg : (lst s.Relr).getD (i - 1) 0 = (lst s.Relr)[i - 1] := by rw [List.getD_eq_getElem?_getD, List.getElem?_eq_getElem hj]; rfl
        have hz : decide (i = 0) = false := decide_eq_false i0
        rw [hg, hz]
        by_cases b2 : p ≤ (lst s.Relr)[i - 1]
        · simp only [fws, seval, cond_true, cond_false, if_true, if_false, unV, isNil, optI, iV, stepI, evalR, IntKind.bits, ini, faI_ptr, Nat.zero_add, lenI_sl, N_maker_relocations, v1, v4, v85, v86, v87, q, hxx, hld, L9, hxj, hlj, tm, e8, d1, p1, w1, b2]
          exact .inr ⟨trivial, trivial, trivial⟩
        · simp only [fws, seval, cond_true, cond_false, if_true, if_false, unV, isNil, optI, iV, stepI, evalR, IntKind.bits, ini, faI_ptr, Nat.zero_add, lenI_sl, N_maker_relocations, v1, v4, v85, v86, v87, q, hxx, hld, L9, hxj, hlj, tm, e8, d1, p1, w1, b2, w2]
          refine W.mono (ih (i + 1) v H _ hr2 hS ?_ ?_ ?_ ?_ ?_) fun z e h hh => hh
          all_goals (first | assumption | rfl)
    · have d1 : decide (p % 8 = 0) = false := decide_eq_false b1
      simp only [fws, seval, cond_true, cond_false, if_true, if_false, unV, isNil, optI, iV, stepI, evalR, IntKind.bits, ini, faI_ptr, Nat.zero_add, lenI_sl, N_maker_relocations, v1, v4, v85, v86, v87, q, hxx, hld, L9, tm, e8, d1]
      exact .inr ⟨trivial, trivial, trivial⟩
theorem loop_rrelr (k : OkSp s) : ∀ (r : List Int) (i : Nat) (acc : List Int) (v : Value) (H : Heap) (env : Env), (lst s.Relr).drop i = r → SO (intE .u64) s H v acc → acc.length ≤ 600 + i →
    env 1 = p0 → env 4 = v → env 7 = .int .i64 i →
    W T (.loop F_ref17_Rightl2) env H fun z e h => (z = .exit 4 ∧ relrC (lst s.Relr) r i = true ∧ e 1 = p0 ∧ SO (intE .u64) s h (e 4) (acc ++ r)) ∨ (z = .ret ∧ e 2 = .bool false ∧ relrC (lst s.Relr) r i = false) := by
  intro r
  induction r with
  | nil =>
    intro i acc v H env hr hS ha v1 v4 v7
    have hi := drop_end hr
    have q : ¬ ((i : Int) < (lst s.Relr).length) := by omega
    have L9 := sp9 hS.z
    rw [w_loop]
    simp only [fws, seval, cond_true, cond_false, if_true, if_false, unV, isNil, optI, iV, stepI, evalR, IntKind.bits, ini, faI_ptr, Nat.zero_add, lenI_sl, N_ref17_Right, L9, v1, v7, q]
    refine .inl ⟨trivial, by first | rfl | trivial, by first | assumption | trivial, ?_⟩
    simpa [v4] using hS
  | cons p ps ih =>
    intro i acc v H env hr hS ha v1 v4 v7
    obtain ⟨hi, hp, hr2⟩ := drop_at hr
    have q : ((i : Int) < (lst s.Relr).length) := by omega
    have hxx := fun H => ix_sl (E := intE .u64) (o := s.Relr) (n := 1) rfl hi .i64 H
    have hld := fun H => ld_u64 hi H
    have hu := k.ru p (hp ▸ List.getElem_mem hi)
    unfold isU64 at hu
    rw [hp] at hld
    have hl := k.rr
    have w2 : IntKind.i64.wrap ((i : Int) + 1) = ((i + 1 : Nat) : Int) := by rw [wrapI64 (by omega) (by omega)]; rfl
    have L9 := sp9 hS.z
    have tm : p.tmod 8 = p % 8 := tmodN (by omega)
    have e8 : ¬ (8 : Int) = 0 := by decide
    obtain ⟨v', H', a1, a2⟩ := hS.app (m := [p]) (n := 1) (eb := 8) (k := 1) rfl rfl (by simp; omega)
    have a1' : appV 1 8 H v [.int .u64 p] 1 = some (v', H') := a1
    have sr : ∀ H, srcOf H 1 (immV 1 [.int .u64 p]) = some ([.int .u64 p], 1) := fun H => rfl
    have hz1 : ∀ {z : Ex} {e : Env} {h : Heap}, ((z = .exit 4 ∧ relrC (lst s.Relr) ps (i + 1) = true ∧ e 1 = p0 ∧ SO (intE .u64) s h (e 4) ((acc ++ [p]) ++ ps)) ∨ (z = .ret ∧ e 2 = Value.bool false ∧ relrC (lst s.Relr) ps (i + 1) = false)) →
        ((z = .exit 4 ∧ relrC (lst s.Relr) ps (i + 1) = true ∧ e 1 = p0 ∧ SO (intE .u64) s h (e 4) (acc ++ p :: ps)) ∨ (z = .ret ∧ e 2 = Value.bool false ∧ relrC (lst s.Relr) ps (i + 1) = false)) := fun hh => by simpa using hh
    rw [w_loop]
    unfold relrC
    have zf : fillL (List.replicate 1 [Value.int .u64 0]).flatten [(0, 1, Value.int .u64 p)] = some [.int .u64 p] := rfl
    by_cases b1 : p % 8 = 0
    · have d1 : decide (p % 8 = 0) = true := decide_eq_true b1
      rw [d1]
      by_cases i0 : i = 0
      · have p1 : ¬ (0 : Int) < (i : Int) := by omega
        have hz : decide (i = 0) = true := decide_eq_true i0
        rw [hz]
        simp only [fws, seval, cond_true, cond_false, if_true, if_false, unV, isNil, optI, iV, stepI, evalR, IntKind.bits, ini, fwh, lk, cellsAt, tagOf, spotOf, rdN, spl, fillL, zr, faI_ptr, lenI_sl, F_ref17_Rightr0b, F_ref17_Rightr0_W, F_ref17_Rightr1b, F_ref17_Rightr1_W, F_ref17_Rightr1_g3, F_ref17_Rightr1_g8, F_ref17_Rightr1_g14, F_ref17_Rightr1_g20, F_ref17_Rightr2b, F_ref17_Rightr2_W, F_ref17_Rightr3b, F_ref17_Rightr3_W, F_ref17_Rightr4b, F_ref17_Rightr4_W, F_ref17_Rightr6b, F_ref17_Rightr6_W, F_ref17_Rightr6_g7, F_ref17_Rightr7b, F_ref17_Rightr7_W, F_ref17_Rightr5b, F_ref17_Rightr5_W, F_ref17_Rightl0b, F_ref17_Rightr8b, F_ref17_Rightr8_W, F_ref17_Rightr8_g4, F_ref17_Rightr8_g9, F_ref17_Rightr8_g14, F_ref17_Rightr8_g19, F_ref17_Rightr8_g28, F_ref17_Rightr8_g33, F_ref17_Rightr8_g38, F_ref17_Rightr8_g43, F_ref17_Rightr9b, F_ref17_Rightr9_W, F_ref17_Rightr10b, F_ref17_Rightr10_W, F_ref17_Rightr10_g3, F_ref17_Rightr11b, F_ref17_Rightr11_W, F_ref17_Rightr12b, F_ref17_Rightr12_W, F_ref17_Rightr13b, F_ref17_Rightr13_W, F_ref17_Rightr14b, F_ref17_Rightr14_W, F_ref17_Rightr16b, F_ref17_Rightr16_W, F_ref17_Rightr17b, F_ref17_Rightr17_W, F_ref17_Rightr17_g8, F_ref17_Rightr17_g18, F_ref17_Rightr17_g25, F_ref17_Rightr17_g29, F_ref17_Rightr18b, F_ref17_Rightr18_W, F_ref17_Rightr19b, F_ref17_Rightr19_W, F_ref17_Rightr15b, F_ref17_Rightr15_W, F_ref17_Rightl1b, F_ref17_Rightr20b, F_ref17_Rightr20_W, F_ref17_Rightr21b, F_ref17_Rightr21_W, F_ref17_Rightr23b, F_ref17_Rightr23_g7, F_ref17_Rightr23_g10, F_ref17_Rightr23_W, F_ref17_Rightr24b, F_ref17_Rightr24_W, F_ref17_Rightr25b, F_ref17_Rightr25_W, F_ref17_Rightr22b, F_ref17_Rightr22_W, F_ref17_Rightl2b, F_ref17_Rightl2_W, F_ref17_Rightr26b, F_ref17_Rightr26_W, F_ref17_Rightr27b, F_ref17_Rightr27_W, F_ref17_Rightr29b, F_ref17_Rightr29_W, F_ref17_Rightr30b, F_ref17_Rightr30_W, F_ref17_Rightr31b, F_ref17_Rightr31_W, F_ref17_Rightr32b, F_ref17_Rightr32_W, F_ref17_Rightr34b, F_ref17_Rightr34_W, F_ref17_Rightr35b, F_ref17_Rightr35_W, F_ref17_Rightr33b, F_ref17_Rightr33_W, F_ref17_Rightl4b, F_ref17_Rightr28b, F_ref17_Rightr28_W, F_ref17_Rightl3b, F_ref17_Rightr36b, F_ref17_Rightr36_W, F_ref17_Rightcb, F_ref17_Rightc_W, v1, v4, v7, q, hxx, hld, L9, tm, e8, d1, p1, w2, sr, a1']
        refine W.mono (ih (i + 1) _ v' H' _ hr2 a2 (by simp only [List.length_append, List.length_cons, List.length_nil]; omega) ?_ ?_ ?_) fun z e h hh => hz1 hh
        all_goals (first | assumption | rfl)
      · have w1 : IntKind.i64.wrap ((i : Int) - 1) = ((i - 1 : Nat) : Int) := by rw [wrapI64 (by omega) (by omega)]; omega
        have hj : i - 1 < (lst s.Relr).length := by omega
        have hxj := fun H => ix_sl (E := intE .u64) (o := s.Relr) (n := 1) rfl hj .i64 H
        have hlj := fun H => ld_u64 hj H
        have p1 : (0 : Int) < (i : Int) := by omega
        have hg : (lst s.Relr).getD (i - 1) 0 = (lst s.Relr)[i - 1] := by rw [List.getD_eq_getElem?_getD, List.getElem?_eq_getElem hj]; rfl
        have hz : decide (i = 0) = false := decide_eq_false i0
        rw [hg, hz]
        by_cases b2 : p ≤ (lst s.Relr)[i - 1]
        · simp only [fws, seval, cond_true, cond_false, if_true, if_false, unV, isNil, optI, iV, stepI, evalR, IntKind.bits, ini, fwh, lk, cellsAt, tagOf, spotOf, rdN, spl, fillL, zr, faI_ptr, lenI_sl, F_ref17_Rightr0b, F_ref17_Rightr0_W, F_ref17_Rightr1b, F_ref17_Rightr1_W, F_ref17_Rightr1_g3, F_ref17_Rightr1_g8, F_ref17_Rightr1_g14, F_ref17_Rightr1_g20, F_ref17_Rightr2b, F_ref17_Rightr2_W, F_ref17_Rightr3b, F_ref17_Rightr3_W, F_ref17_Rightr4b, F_ref17_Rightr4_W, F_ref17_Rightr6b, F_ref17_Rightr6_W, F_ref17_Rightr6_g7, F_ref17_Rightr7b, F_ref17_Rightr7_W, F_ref17_Rightr5b, F_ref17_Rightr5_W, F_ref17_Rightl0b, F_ref17_Rightr8b, F_ref17_Rightr8_W, F_ref17_Rightr8_g4, F_ref17_Rightr8_g9, F_ref17_Rightr8_g14, F_ref17_Rightr8_g19, F_ref17_Rightr8_g28, F_ref17_Rightr8_g33, F_ref17_Rightr8_g38, F_ref17_Rightr8_g43, F_ref17_Rightr9b, F_ref17_Rightr9_W, F_ref17_Rightr10b, F_ref17_Rightr10_W, F_ref17_Rightr10_g3, F_ref17_Rightr11b, F_ref17_Rightr11_W, F_ref17_Rightr12b, F_ref17_Rightr12_W, F_ref17_Rightr13b, F_ref17_Rightr13_W, F_ref17_Rightr14b, F_ref17_Rightr14_W, F_ref17_Rightr16b, F_ref17_Rightr16_W, F_ref17_Rightr17b, F_ref17_Rightr17_W, F_ref17_Rightr17_g8, F_ref17_Rightr17_g18, F_ref17_Rightr17_g25, F_ref17_Rightr17_g29, F_ref17_Rightr18b, F_ref17_Rightr18_W, F_ref17_Rightr19b, F_ref17_Rightr19_W, F_ref17_Rightr15b, F_ref17_Rightr15_W, F_ref17_Rightl1b, F_ref17_Rightr20b, F_ref17_Rightr20_W, F_ref17_Rightr21b, F_ref17_Rightr21_W, F_ref17_Rightr23b, F_ref17_Rightr23_g7, F_ref17_Rightr23_g10, F_ref17_Rightr23_W, F_ref17_Rightr24b, F_ref17_Rightr24_W, F_ref17_Rightr25b, F_ref17_Rightr25_W, F_ref17_Rightr22b, F_ref17_Rightr22_W, F_ref17_Rightl2b, F_ref17_Rightl2_W, F_ref17_Rightr26b, F_ref17_Rightr26_W, F_ref17_Rightr27b, F_ref17_Rightr27_W, F_ref17_Rightr29b, F_ref17_Rightr29_W, F_ref17_Rightr30b, F_ref17_Rightr30_W, F_ref17_Rightr31b, F_ref17_Rightr31_W, F_ref17_Rightr32b, F_ref17_Rightr32_W, F_ref17_Rightr34b, F_ref17_Rightr34_W, F_ref17_Rightr35b, F_ref17_Rightr35_W, F_ref17_Rightr33b, F_ref17_Rightr33_W, F_ref17_Rightl4b, F_ref17_Rightr28b, F_ref17_Rightr28_W, F_ref17_Rightl3b, F_ref17_Rightr36b, F_ref17_Rightr36_W, F_ref17_Rightcb, F_ref17_Rightc_W, v1, v4, v7, q, hxx, hld, L9, hxj, hlj, tm, e8, d1, p1, w1, b2]
          exact .inr ⟨trivial, trivial, trivial⟩
        · simp only [fws, seval, cond_true, cond_false, if_true, if_false, unV, isNil, optI, iV, stepI, evalR, IntKind.bits, ini, fwh, lk, cellsAt, tagOf, spotOf, rdN, spl, fillL, zr, faI_ptr, lenI_sl, F_ref17_Rightr0b, F_ref17_Rightr0_W, F_ref17_Rightr1b, F_ref17_Rightr1_W, F_ref17_Rightr1_g3, F_ref17_Rightr1_g8, F_ref17_Rightr1_g14, F_ref17_Rightr1_g20, F_ref17_Rightr2b, F_ref17_Rightr2_W, F_ref17_Rightr3b, F_ref17_Rightr3_W, F_ref17_Rightr4b, F_ref17_Rightr4_W, F_ref17_Rightr6b, F_ref17_Rightr6_W, F_ref17_Rightr6_g7, F_ref17_Rightr7b, F_ref17_Rightr7_W, F_ref17_Rightr5b, F_ref17_Rightr5_W, F_ref17_Rightl0b, F_ref17_Rightr8b, F_ref17_Rightr8_W, F_ref17_Rightr8_g4, F_ref17_Rightr8_g9, F_ref17_Rightr8_g14, F_ref17_Rightr8_g19, F_ref17_Rightr8_g28, F_ref17_Rightr8_g33, F_ref17_Rightr8_g38, F_ref17_Rightr8_g43, F_ref17_Rightr9b, F_ref17_Rightr9_W, F_ref17_Rightr10b, F_ref17_Rightr10_W, F_ref17_Rightr10_g3, F_ref17_Rightr11b, F_ref17_Rightr11_W, F_ref17_Rightr12b, F_ref17_Rightr12_W, F_ref17_Rightr13b, F_ref17_Rightr13_W, F_ref17_Rightr14b, F_ref17_Rightr14_W, F_ref17_Rightr16b, F_ref17_Rightr16_W, F_ref17_Rightr17b, F_ref17_Rightr17_W, F_ref17_Rightr17_g8, F_ref17_Rightr17_g18, F_ref17_Rightr17_g25, F_ref17_Rightr17_g29, F_ref17_Rightr18b, F_ref17_Rightr18_W, F_ref17_Rightr19b, F_ref17_Rightr19_W, F_ref17_Rightr15b, F_ref17_Rightr15_W, F_ref17_Rightl1b, F_ref17_Rightr20b, F_ref17_Rightr20_W, F_ref17_Rightr21b, F_ref17_Rightr21_W, F_ref17_Rightr23b, F_ref17_Rightr23_g7, F_ref17_Rightr23_g10, F_ref17_Rightr23_W, F_ref17_Rightr24b, F_ref17_Rightr24_W, F_ref17_Rightr25b, F_ref17_Rightr25_W, F_ref17_Rightr22b, F_ref17_Rightr22_W, F_ref17_Rightl2b, F_ref17_Rightl2_W, F_ref17_Rightr26b, F_ref17_Rightr26_W, F_ref17_Rightr27b, F_ref17_Rightr27_W, F_ref17_Rightr29b, F_ref17_Rightr29_W, F_ref17_Rightr30b, F_ref17_Rightr30_W, F_ref17_Rightr31b, F_ref17_Rightr31_W, F_ref17_Rightr32b, F_ref17_Rightr32_W, F_ref17_Rightr34b, F_ref17_Rightr34_W, F_ref17_Rightr35b, F_ref17_Rightr35_W, F_ref17_Rightr33b, F_ref17_Rightr33_W, F_ref17_Rightl4b, F_ref17_Rightr28b, F_ref17_Rightr28_W, F_ref17_Rightl3b, F_ref17_Rightr36b, F_ref17_Rightr36_W, F_ref17_Rightcb, F_ref17_Rightc_W, v1, v4, v7, q, hxx, hld, L9, hxj, hlj, tm, e8, d1, p1, w1, b2, w2, sr, a1']
          refine W.mono (ih (i + 1) _ v' H' _ hr2 a2 (by simp only [List.length_append, List.length_cons, List.length_nil]; omega) ?_ ?_ ?_) fun z e h hh => hz1 hh
          all_goals (first | assumption | rfl)
    · have d1 : decide (p % 8 = 0) = false := decide_eq_false b1
      simp only [fws, seval, cond_true, cond_false, if_true, if_false, unV, isNil, optI, iV, stepI, evalR, IntKind.bits, ini, fwh, lk, cellsAt, tagOf, spotOf, rdN, spl, fillL, zr, faI_ptr, lenI_sl, F_ref17_Rightr0b, F_ref17_Rightr0_W, F_ref17_Rightr1b, F_ref17_Rightr1_W, F_ref17_Rightr1_g3, F_ref17_Rightr1_g8, F_ref17_Rightr1_g14, F_ref17_Rightr1_g20, F_ref17_Rightr2b, F_ref17_Rightr2_W, F_ref17_Rightr3b, F_ref17_Rightr3_W, F_ref17_Rightr4b, F_ref17_Rightr4_W, F_ref17_Rightr6b, F_ref17_Rightr6_W, F_ref17_Rightr6_g7, F_ref17_Rightr7b, F_ref17_Rightr7_W, F_ref17_Rightr5b, F_ref17_Rightr5_W, F_ref17_Rightl0b, F_ref17_Rightr8b, F_ref17_Rightr8_W, F_ref17_Rightr8_g4, F_ref17_Rightr8_g9, F_ref17_Rightr8_g14, F_ref17_Rightr8_g19, F_ref17_Rightr8_g28, F_ref17_Rightr8_g33, F_ref17_Rightr8_g38, F_ref17_Rightr8_g43, F_ref17_Rightr9b, F_ref17_Rightr9_W, F_ref17_Rightr10b, F_ref17_Rightr10_W, F_ref17_Rightr10_g3, F_ref17_Rightr11b, F_ref17_Rightr11_W, F_ref17_Rightr12b, F_ref17_Rightr12_W, F_ref17_Rightr13b, F_ref17_Rightr13_W, F_ref17_Rightr14b, F_ref17_Rightr14_W, F_ref17_Rightr16b, F_ref17_Rightr16_W, F_ref17_Rightr17b, F_ref17_Rightr17_W, F_ref17_Rightr17_g8, F_ref17_Rightr17_g18, F_ref17_Rightr17_g25, F_ref17_Rightr17_g29, F_ref17_Rightr18b, F_ref17_Rightr18_W, F_ref17_Rightr19b, F_ref17_Rightr19_W, F_ref17_Rightr15b, F_ref17_Rightr15_W, F_ref17_Rightl1b, F_ref17_Rightr20b, F_ref17_Rightr20_W, F_ref17_Rightr21b, F_ref17_Rightr21_W, F_ref17_Rightr23b, F_ref17_Rightr23_g7, F_ref17_Rightr23_g10, F_ref17_Rightr23_W, F_ref17_Rightr24b, F_ref17_Rightr24_W, F_ref17_Rightr25b, F_ref17_Rightr25_W, F_ref17_Rightr22b, F_ref17_Rightr22_W, F_ref17_Rightl2b, F_ref17_Rightl2_W, F_ref17_Rightr26b, F_ref17_Rightr26_W, F_ref17_Rightr27b, F_ref17_Rightr27_W, F_ref17_Rightr29b, F_ref17_Rightr29_W, F_ref17_Rightr30b, F_ref17_Rightr30_W, F_ref17_Rightr31b, F_ref17_Rightr31_W, F_ref17_Rightr32b, F_ref17_Rightr32_W, F_ref17_Rightr34b, F_ref17_Rightr34_W, F_ref17_Rightr35b, F_ref17_Rightr35_W, F_ref17_Rightr33b, F_ref17_Rightr33_W, F_ref17_Rightl4b, F_ref17_Rightr28b, F_ref17_Rightr28_W, F_ref17_Rightl3b, F_ref17_Rightr36b, F_ref17_Rightr36_W, F_ref17_Rightcb, F_ref17_Rightc_W, v1, v4, v7, q, hxx, hld, L9, tm, e8, d1]
      exact .inr ⟨trivial, trivial, trivial⟩
/-! ### all apart, all within -/
theorem loop_mapart (t : MrF T) {P : List Int} (hP : P.length ≤ 2000) (hu : ∀ x ∈ P, isU64 x) {H : Heap} {w : Value} {i : Nat} (hi : i < P.length) {p : Int} (hp : isU64 p)
    (hw : ∀ (j : Nat) (hj : j < i), ∃ a, ixaI H 1 w (.int .i64 j) = some (.pointer (some a), H) ∧ loadI H (.pointer (some a)) = some (.int .u64 (P[j]'(by omega)), H)) :
    ∀ (r : List Int) (j : Nat) (env : Env), (P.take i).drop j = r → env 12 = .int .u64 p → env 127 = w → env 128 = .int .i64 i → env 129 = .int .i64 j →
    W T (.loop F_maker_relocationsl3) env H fun z e h => h = H ∧ ((z = .exit 6 ∧ r.all (fun q => aprI p 8 q 8) = true ∧ e 1 = env 1 ∧ e 3 = env 3 ∧ e 4 = env 4 ∧ e 114 = env 114 ∧ e 115 = env 115 ∧ e 116 = env 116) ∨ (z = .ret ∧ e 2 = .bool false ∧ r.all (fun q => aprI p 8 q 8) = false)) := by
  have hlen : (P.take i).length = i := by rw [List.length_take]; omega
  intro r
  induction r with
  | nil =>
    intro j env hr v12 v127 v128 v129
    have hj := drop_end hr
    have q : ¬ ((j : Int) < i) := by omega
    rw [w_loop]
    simp only [fws, seval, cond_true, cond_false, if_true, if_false, unV, isNil, optI, iV, stepI, evalR, IntKind.bits, ini, N_maker_relocations, v128, v129, q]
    exact ⟨trivial, .inl ⟨trivial, rfl, trivial, trivial, trivial, trivial, trivial, trivial⟩⟩
  | cons x xs ih =>
    intro j env hr v12 v127 v128 v129
    obtain ⟨hj, hx, hr2⟩ := drop_at hr
    have hji : j < i := by omega
    have q : ((j : Int) < i) := by omega
    obtain ⟨a, a1, a2⟩ := hw j hji
    have hx' : P[j]'(by omega) = x := by rw [← hx, List.getElem_take]
    rw [hx'] at a2
    have hxu : isU64 x := hu x (hx' ▸ List.getElem_mem _)
    have w2 : IntKind.i64.wrap ((j : Int) + 1) = ((j + 1 : Nat) : Int) := by rw [wrapI64 (by omega) (by omega)]; rfl
    have c := f_num_Apart t.na hp (s := 8) ⟨by decide, by decide⟩ hxu (r := 8) ⟨by decide, by decide⟩
    rw [w_loop]
    simp only [List.all_cons]
    cases hb : aprI p 8 x 8 with
    | false =>
      rw [hb] at c
      simp only [fws, seval, cond_true, cond_false, if_true, if_false, unV, isNil, optI, iV, stepI, evalR, IntKind.bits, ini, N_maker_relocations, v12, v127, v128, v129, q, a1, a2, CC_of c]
      exact ⟨trivial, .inr ⟨trivial, trivial, trivial⟩⟩
    | true =>
      rw [hb] at c
      simp only [fws, seval, cond_true, cond_false, if_true, if_false, unV, isNil, optI, iV, stepI, evalR, IntKind.bits, ini, N_maker_relocations, v12, v127, v128, v129, q, a1, a2, CC_of c, w2]
      refine W.mono (ih (j + 1) _ hr2 ?_ ?_ ?_ ?_) fun z e h hh => hh
      all_goals (first | assumption | rfl)
theorem loop_mplaces (t : MrF T) {P : List Int} (hP : P.length ≤ 2000) (hu : ∀ x ∈ P, isU64 x) {v : Value} {H : Heap} (hO : Own (intE .u64) H v P) {room : Int} (hrm : isU64 room) : ∀ (r : List Int) (i : Nat) (env : Env), P.drop i = r →
    env 3 = .int .u64 room → env 4 = v → env 114 = v → env 115 = .int .i64 P.length → env 116 = .int .i64 i →
    W T (.loop F_maker_relocationsl2) env H fun z e h => (z = .exit 4 ∧ placesC P room r i = true) ∨ (z = .ret ∧ e 2 = .bool false ∧ placesC P room r i = false) := by
  intro r
  induction r with
  | nil =>
    intro i env hr v3 v4 v114 v115 v116
    have hi := drop_end hr
    have q : ¬ ((i : Int) < P.length) := by omega
    rw [w_loop]
    simp only [fws, seval, cond_true, cond_false, if_true, if_false, unV, isNil, optI, iV, stepI, evalR, IntKind.bits, ini, N_maker_relocations, v115, v116, q]
    exact .inl ⟨trivial, rfl⟩
  | cons p ps ih =>
    intro i env hr v3 v4 v114 v115 v116
    obtain ⟨hi, hp, hr2⟩ := drop_at hr
    have q : ((i : Int) < P.length) := by omega
    obtain ⟨a, tag, cs, b, a0, a1, a2, _⟩ := hO.ix1 rfl hi .i64 (f := fun x => .int .u64 x) (fun x => rfl)
    rw [hp] at a2
    have hpu : isU64 p := hu p (hp ▸ List.getElem_mem hi)
    obtain ⟨w, s1, s2, s3⟩ := own_take hO hi
    have w2 : IntKind.i64.wrap ((i : Int) + 1) = ((i + 1 : Nat) : Int) := by rw [wrapI64 (by omega) (by omega)]; rfl
    have c := f_num_Inside t.ns t.ni hpu (s := 8) ⟨by decide, by decide⟩ (f := 0) ⟨by decide, by decide⟩ hrm
    rw [w_loop]
    unfold placesC
    cases hb : insI p 8 0 room with
    | false =>
      rw [hb] at c
      simp only [fws, seval, cond_true, cond_false, if_true, if_false, unV, isNil, optI, iV, stepI, evalR, IntKind.bits, ini, F_maker_relocationsr0b, F_maker_relocationsr0_W, F_maker_relocationsr1b, F_maker_relocationsr1_W, F_maker_relocationsr2b, F_maker_relocationsr2_W, F_maker_relocationsr3b, F_maker_relocationsr3_W, F_maker_relocationsr4b, F_maker_relocationsr4_W, F_maker_relocationsr5b, F_maker_relocationsr5_W, F_maker_relocationsr6b, F_maker_relocationsr6_W, F_maker_relocationsr7b, F_maker_relocationsr7_W, F_maker_relocationsr8b, F_maker_relocationsr8_W, F_maker_relocationsr9b, F_maker_relocationsr9_W, F_maker_relocationsr9_g2, F_maker_relocationsr9_g6, F_maker_relocationsr9_g16, F_maker_relocationsr9_g23, F_maker_relocationsr9_g27, F_maker_relocationsr10b, F_maker_relocationsr10_W, F_maker_relocationsr11b, F_maker_relocationsr11_W, F_maker_relocationsr12b, F_maker_relocationsr12_W, F_maker_relocationsl0b, F_maker_relocationsl0_W, F_maker_relocationsr13b, F_maker_relocationsr13_W, F_maker_relocationsr14b, F_maker_relocationsr14_W, F_maker_relocationsr15b, F_maker_relocationsr15_W, F_maker_relocationsr16b, F_maker_relocationsr16_W, F_maker_relocationsr16_g3, F_maker_relocationsr16_g6, F_maker_relocationsr17b, F_maker_relocationsr17_W, F_maker_relocationsr18b, F_maker_relocationsr18_W, F_maker_relocationsl1b, F_maker_relocationsl1_W, F_maker_relocationsr19b, F_maker_relocationsr19_W, F_maker_relocationsr20b, F_maker_relocationsr20_W, F_maker_relocationsr21b, F_maker_relocationsr21_W, F_maker_relocationsr22b, F_maker_relocationsr22_W, F_maker_relocationsr23b, F_maker_relocationsr23_W, F_maker_relocationsr24b, F_maker_relocationsr24_W, F_maker_relocationsr25b, F_maker_relocationsr25_W, F_maker_relocationsr26b, F_maker_relocationsr26_W, F_maker_relocationsr27b, F_maker_relocationsr27_W, F_maker_relocationsr28b, F_maker_relocationsr28_W, F_maker_relocationsr29b, F_maker_relocationsr29_W, F_maker_relocationsr30b, F_maker_relocationsr30_W, F_maker_relocationsl3b, F_maker_relocationsr31b, F_maker_relocationsr31_W, F_maker_relocationsl2b, F_maker_relocationsl2_W, F_maker_relocationsr32b, F_maker_relocationsr32_W, F_maker_relocationscb, F_maker_relocationsc_W, v3, v4, v114, v115, v116, q, a1, a2, CC_of c]
      exact .inr ⟨trivial, trivial, trivial⟩
    | true =>
      rw [hb] at c
      simp only [fws, seval, cond_true, cond_false, if_true, if_false, unV, isNil, optI, iV, stepI, evalR, IntKind.bits, ini, F_maker_relocationsr0b, F_maker_relocationsr0_W, F_maker_relocationsr1b, F_maker_relocationsr1_W, F_maker_relocationsr2b, F_maker_relocationsr2_W, F_maker_relocationsr3b, F_maker_relocationsr3_W, F_maker_relocationsr4b, F_maker_relocationsr4_W, F_maker_relocationsr5b, F_maker_relocationsr5_W, F_maker_relocationsr6b, F_maker_relocationsr6_W, F_maker_relocationsr7b, F_maker_relocationsr7_W, F_maker_relocationsr8b, F_maker_relocationsr8_W, F_maker_relocationsr9b, F_maker_relocationsr9_W, F_maker_relocationsr9_g2, F_maker_relocationsr9_g6, F_maker_relocationsr9_g16, F_maker_relocationsr9_g23, F_maker_relocationsr9_g27, F_maker_relocationsr10b, F_maker_relocationsr10_W, F_maker_relocationsr11b, F_maker_relocationsr11_W, F_maker_relocationsr12b, F_maker_relocationsr12_W, F_maker_relocationsl0b, F_maker_relocationsl0_W, F_maker_relocationsr13b, F_maker_relocationsr13_W, F_maker_relocationsr14b, F_maker_relocationsr14_W, F_maker_relocationsr15b, F_maker_relocationsr15_W, F_maker_relocationsr16b, F_maker_relocationsr16_W, F_maker_relocationsr16_g3, F_maker_relocationsr16_g6, F_maker_relocationsr17b, F_maker_relocationsr17_W, F_maker_relocationsr18b, F_maker_relocationsr18_W, F_maker_relocationsl1b, F_maker_relocationsl1_W, F_maker_relocationsr19b, F_maker_relocationsr19_W, F_maker_relocationsr20b, F_maker_relocationsr20_W, F_maker_relocationsr21b, F_maker_relocationsr21_W, F_maker_relocationsr22b, F_maker_relocationsr22_W, F_maker_relocationsr23b, F_maker_relocationsr23_W, F_maker_relocationsr24b, F_maker_relocationsr24_W, F_maker_relocationsr25b, F_maker_relocationsr25_W, F_maker_relocationsr26b, F_maker_relocationsr26_W, F_maker_relocationsr27b, F_maker_relocationsr27_W, F_maker_relocationsr28b, F_maker_relocationsr28_W, F_maker_relocationsr29b, F_maker_relocationsr29_W, F_maker_relocationsr30b, F_maker_relocationsr30_W, F_maker_relocationsl3b, F_maker_relocationsr31b, F_maker_relocationsr31_W, F_maker_relocationsl2b, F_maker_relocationsl2_W, F_maker_relocationsr32b, F_maker_relocationsr32_W, F_maker_relocationscb, F_maker_relocationsc_W, v3, v4, v114, v115, v116, q, a1, a2, CC_of c, s1, s2]
      refine W.mono (loop_mapart t hP hu hi hpu s3 (P.take i) 0 _ rfl ?_ ?_ ?_ ?_) fun z e h ⟨hh, hz⟩ => ?_
      · (first | assumption | rfl)
      · (first | assumption | rfl)
      · (first | assumption | rfl)
      · (first | assumption | rfl)
      subst hh
      rcases hz with ⟨rfl, hz, e1, e3, e4, e114, e115, e116⟩ | ⟨rfl, hz, hz2⟩
      · rw [hz]
        have e116' : e 116 = .int .i64 i := e116.trans v116
        simp only [fws, seval, cond_true, cond_false, if_true, if_false, unV, isNil, optI, iV, stepI, evalR, IntKind.bits, ini, F_maker_relocationsr0b, F_maker_relocationsr0_W, F_maker_relocationsr1b, F_maker_relocationsr1_W, F_maker_relocationsr2b, F_maker_relocationsr2_W, F_maker_relocationsr3b, F_maker_relocationsr3_W, F_maker_relocationsr4b, F_maker_relocationsr4_W, F_maker_relocationsr5b, F_maker_relocationsr5_W, F_maker_relocationsr6b, F_maker_relocationsr6_W, F_maker_relocationsr7b, F_maker_relocationsr7_W, F_maker_relocationsr8b, F_maker_relocationsr8_W, F_maker_relocationsr9b, F_maker_relocationsr9_W, F_maker_relocationsr9_g2, F_maker_relocationsr9_g6, F_maker_relocationsr9_g16, F_maker_relocationsr9_g23, F_maker_relocationsr9_g27, F_maker_relocationsr10b, F_maker_relocationsr10_W, F_maker_relocationsr11b, F_maker_relocationsr11_W, F_maker_relocationsr12b, F_maker_relocationsr12_W, F_maker_relocationsl0b, F_maker_relocationsl0_W, F_maker_relocationsr13b, F_maker_relocationsr13_W, F_maker_relocationsr14b, F_maker_relocationsr14_W, F_maker_relocationsr15b, F_maker_relocationsr15_W, F_maker_relocationsr16b, F_maker_relocationsr16_W, F_maker_relocationsr16_g3, F_maker_relocationsr16_g6, F_maker_relocationsr17b, F_maker_relocationsr17_W, F_maker_relocationsr18b, F_maker_relocationsr18_W, F_maker_relocationsl1b, F_maker_relocationsl1_W, F_maker_relocationsr19b, F_maker_relocationsr19_W, F_maker_relocationsr20b, F_maker_relocationsr20_W, F_maker_relocationsr21b, F_maker_relocationsr21_W, F_maker_relocationsr22b, F_maker_relocationsr22_W, F_maker_relocationsr23b, F_maker_relocationsr23_W, F_maker_relocationsr24b, F_maker_relocationsr24_W, F_maker_relocationsr25b, F_maker_relocationsr25_W, F_maker_relocationsr26b, F_maker_relocationsr26_W, F_maker_relocationsr27b, F_maker_relocationsr27_W, F_maker_relocationsr28b, F_maker_relocationsr28_W, F_maker_relocationsr29b, F_maker_relocationsr29_W, F_maker_relocationsr30b, F_maker_relocationsr30_W, F_maker_relocationsl3b, F_maker_relocationsr31b, F_maker_relocationsr31_W, F_maker_relocationsl2b, F_maker_relocationsl2_W, F_maker_relocationsr32b, F_maker_relocationsr32_W, F_maker_relocationscb, F_maker_relocationsc_W, e116', w2]
        refine ih (i + 1) _ hr2 ?_ ?_ ?_ ?_ ?_
        · exact e3.trans v3
        · exact e4.trans v4
        · exact e114.trans v114
        · exact e115.trans v115
        · rfl
      · rw [hz2]
        simp only [fws, seval, cond_true, cond_false, if_true, if_false, unV, isNil, optI, iV, stepI, evalR, IntKind.bits, ini, F_maker_relocationsr0b, F_maker_relocationsr0_W, F_maker_relocationsr1b, F_maker_relocationsr1_W, F_maker_relocationsr2b, F_maker_relocationsr2_W, F_maker_relocationsr3b, F_maker_relocationsr3_W, F_maker_relocationsr4b, F_maker_relocationsr4_W, F_maker_relocationsr5b, F_maker_relocationsr5_W, F_maker_relocationsr6b, F_maker_relocationsr6_W, F_maker_relocationsr7b, F_maker_relocationsr7_W, F_maker_relocationsr8b, F_maker_relocationsr8_W, F_maker_relocationsr9b, F_maker_relocationsr9_W, F_maker_relocationsr9_g2, F_maker_relocationsr9_g6, F_maker_relocationsr9_g16, F_maker_relocationsr9_g23, F_maker_relocationsr9_g27, F_maker_relocationsr10b, F_maker_relocationsr10_W, F_maker_relocationsr11b, F_maker_relocationsr11_W, F_maker_relocationsr12b, F_maker_relocationsr12_W, F_maker_relocationsl0b, F_maker_relocationsl0_W, F_maker_relocationsr13b, F_maker_relocationsr13_W, F_maker_relocationsr14b, F_maker_relocationsr14_W, F_maker_relocationsr15b, F_maker_relocationsr15_W, F_maker_relocationsr16b, F_maker_relocationsr16_W, F_maker_relocationsr16_g3, F_maker_relocationsr16_g6, F_maker_relocationsr17b, F_maker_relocationsr17_W, F_maker_relocationsr18b, F_maker_relocationsr18_W, F_maker_relocationsl1b, F_maker_relocationsl1_W, F_maker_relocationsr19b, F_maker_relocationsr19_W, F_maker_relocationsr20b, F_maker_relocationsr20_W, F_maker_relocationsr21b, F_maker_relocationsr21_W, F_maker_relocationsr22b, F_maker_relocationsr22_W, F_maker_relocationsr23b, F_maker_relocationsr23_W, F_maker_relocationsr24b, F_maker_relocationsr24_W, F_maker_relocationsr25b, F_maker_relocationsr25_W, F_maker_relocationsr26b, F_maker_relocationsr26_W, F_maker_relocationsr27b, F_maker_relocationsr27_W, F_maker_relocationsr28b, F_maker_relocationsr28_W, F_maker_relocationsr29b, F_maker_relocationsr29_W, F_maker_relocationsr30b, F_maker_relocationsr30_W, F_maker_relocationsl3b, F_maker_relocationsr31b, F_maker_relocationsr31_W, F_maker_relocationsl2b, F_maker_relocationsl2_W, F_maker_relocationsr32b, F_maker_relocationsr32_W, F_maker_relocationscb, F_maker_relocationsc_W]
        exact .inr ⟨trivial, hz, trivial⟩
theorem loop_rapart (t : MrF T) {P : List Int} (hP : P.length ≤ 2000) (hu : ∀ x ∈ P, isU64 x) {H : Heap} {v : Value} (hO : Own (intE .u64) H v P) {i : Nat} (hi : i < P.length) :
    ∀ (r : List Int) (j : Nat) (env : Env), (P.take i).drop j = r → env 4 = v → env 8 = .int .i64 i → env 9 = .int .i64 j →
    W T (.loop F_ref17_Rightl4) env H fun z e h => h = H ∧ ((z = .exit 8 ∧ r.all (fun q => aprI P[i] 8 q 8) = true ∧ e 1 = env 1 ∧ e 4 = env 4 ∧ e 8 = env 8) ∨ (z = .ret ∧ e 2 = .bool false ∧ r.all (fun q => aprI P[i] 8 q 8) = false)) := by
  have hlen : (P.take i).length = i := by rw [List.length_take]; omega
  have hpu : isU64 P[i] := hu _ (List.getElem_mem hi)
  obtain ⟨b0, tg0, cs0, bb0, _, b1, b2, _⟩ := hO.ix1 rfl hi .i64 (f := fun x => .int .u64 x) (fun x => rfl)
  intro r
  induction r with
  | nil =>
    intro j env hr v4 v8 v9
    have hj := drop_end hr
    have q : ¬ ((j : Int) < i) := by omega
    rw [w_loop]
    simp only [fws, seval, cond_true, cond_false, if_true, if_false, unV, isNil, optI, iV, stepI, evalR, IntKind.bits, ini, N_ref17_Right, v8, v9, q]
    exact ⟨trivial, .inl ⟨trivial, rfl, trivial, trivial, by first | rfl | trivial | exact v8.symm⟩⟩
  | cons x xs ih =>
    intro j env hr v4 v8 v9
    obtain ⟨hj, hx, hr2⟩ := drop_at hr
    have hji : j < i := by omega
    have q : ((j : Int) < i) := by omega
    obtain ⟨a, tag, cs, bb, _, a1, a2, _⟩ := hO.ix1 rfl (show j < P.length by omega) .i64 (f := fun x => .int .u64 x) (fun x => rfl)
    have hx' : P[j]'(by omega) = x := by rw [← hx, List.getElem_take]
    rw [hx'] at a2
    have hxu : isU64 x := hu x (hx' ▸ List.getElem_mem _)
    have w2 : IntKind.i64.wrap ((j : Int) + 1) = ((j + 1 : Nat) : Int) := by rw [wrapI64 (by omega) (by omega)]; rfl
    have c := f_ref01_Apart t.ru t.rl t.ra hpu (s := 8) ⟨by decide, by decide⟩ hxu (r := 8) ⟨by decide, by decide⟩
    rw [w_loop]
    simp only [List.all_cons]
    cases hb : aprI P[i] 8 x 8 with
    | false =>
      rw [hb] at c
      simp only [fws, seval, cond_true, cond_false, if_true, if_false, unV, isNil, optI, iV, stepI, evalR, IntKind.bits, ini, N_ref17_Right, v4, v8, v9, q, a1, a2, b1, b2, CC_of c]
      exact ⟨trivial, .inr ⟨trivial, trivial, trivial⟩⟩
    | true =>
      rw [hb] at c
      simp only [fws, seval, cond_true, cond_false, if_true, if_false, unV, isNil, optI, iV, stepI, evalR, IntKind.bits, ini, N_ref17_Right, v4, v8, v9, q, a1, a2, b1, b2, CC_of c, w2]
      refine W.mono (ih (j + 1) _ hr2 ?_ ?_ ?_) fun z e h hh => ?_
      · (first | assumption | rfl)
      · (first | assumption | rfl)
      · (first | assumption | rfl)
      · exact ⟨hh.1, hh.2.imp (fun ⟨a1, a2, a3, a4, a5⟩ => ⟨a1, a2, a3, Eq.trans a4 v4, Eq.trans a5 v8⟩) id⟩
theorem loop_rplaces (t : MrF T) {P : List Int} (hP : P.length ≤ 2000) (hu : ∀ x ∈ P, isU64 x) (hd : (lst s.Data).length ≤ 5000) (hz0 : 0 ≤ s.Zeros) (hz1 : s.Zeros ≤ 4096) {v : Value} {H : Heap} (hS : SO (intE .u64) s H v P) : ∀ (r : List Int) (i : Nat) (env : Env), P.drop i = r →
    env 1 = p0 → env 4 = v → env 8 = .int .i64 i →
    W T (.loop F_ref17_Rightl3) env H fun z e h => (z = .exit 6 ∧ placesC P (roomI s) r i = true) ∨ (z = .ret ∧ e 2 = .bool false ∧ placesC P (roomI s) r i = false) := by
  have hO := hS.o
  have wr : IntKind.i64.wrap (((lst s.Data).length : Int) + s.Zeros) = roomI s := wrapI64 (by omega) (by omega)
  have hrm : isU64 (roomI s) := by unfold roomI isU64; omega
  have wu : IntKind.u64.wrap (roomI s) = roomI s := by rw [wrap_u64]; unfold roomI; omega
  have L10 := sp10 hS.z
  have L11 := sp11 hS.z
  intro r
  induction r with
  | nil =>
    intro i env hr v1 v4 v8
    have hi := drop_end hr
    have q : ¬ ((i : Int) < P.length) := by omega
    have hlen := hO.len
    rw [w_loop]
    simp only [fws, seval, cond_true, cond_false, if_true, if_false, unV, isNil, optI, iV, stepI, evalR, IntKind.bits, ini, N_ref17_Right, v4, v8, hlen, q]
    exact .inl ⟨trivial, rfl⟩
  | cons p ps ih =>
    intro i env hr v1 v4 v8
    obtain ⟨hi, hp, hr2⟩ := drop_at hr
    have q : ((i : Int) < P.length) := by omega
    have hlen := hO.len
    obtain ⟨a, tag, cs, b, a0, a1, a2, _⟩ := hO.ix1 rfl hi .i64 (f := fun x => .int .u64 x) (fun x => rfl)
    have hpu : isU64 p := hu p (hp ▸ List.getElem_mem hi)
    have w2 : IntKind.i64.wrap ((i : Int) + 1) = ((i + 1 : Nat) : Int) := by rw [wrapI64 (by omega) (by omega)]; rfl
    have c := f_ref01_Inside t.ru t.rl t.ri hpu (s := 8) ⟨by decide, by decide⟩ (f := 0) ⟨by decide, by decide⟩ hrm
    have key := loop_rapart t hP hu hO hi
    rw [hp] at a2 key
    rw [w_loop]
    unfold placesC
    cases hb : insI p 8 0 (roomI s) with
    | false =>
      rw [hb] at c
      simp only [fws, seval, cond_true, cond_false, if_true, if_false, unV, isNil, optI, iV, stepI, evalR, IntKind.bits, ini, faI_ptr, Nat.zero_add, lenI_sl, F_ref17_Rightr0b, F_ref17_Rightr0_W, F_ref17_Rightr1b, F_ref17_Rightr1_W, F_ref17_Rightr1_g3, F_ref17_Rightr1_g8, F_ref17_Rightr1_g14, F_ref17_Rightr1_g20, F_ref17_Rightr2b, F_ref17_Rightr2_W, F_ref17_Rightr3b, F_ref17_Rightr3_W, F_ref17_Rightr4b, F_ref17_Rightr4_W, F_ref17_Rightr6b, F_ref17_Rightr6_W, F_ref17_Rightr6_g7, F_ref17_Rightr7b, F_ref17_Rightr7_W, F_ref17_Rightr5b, F_ref17_Rightr5_W, F_ref17_Rightl0b, F_ref17_Rightl0_W, F_ref17_Rightr8b, F_ref17_Rightr8_W, F_ref17_Rightr8_g4, F_ref17_Rightr8_g9, F_ref17_Rightr8_g14, F_ref17_Rightr8_g19, F_ref17_Rightr8_g28, F_ref17_Rightr8_g33, F_ref17_Rightr8_g38, F_ref17_Rightr8_g43, F_ref17_Rightr9b, F_ref17_Rightr9_W, F_ref17_Rightr10b, F_ref17_Rightr10_W, F_ref17_Rightr10_g3, F_ref17_Rightr11b, F_ref17_Rightr11_W, F_ref17_Rightr12b, F_ref17_Rightr12_W, F_ref17_Rightr13b, F_ref17_Rightr13_W, F_ref17_Rightr14b, F_ref17_Rightr14_W, F_ref17_Rightr16b, F_ref17_Rightr16_W, F_ref17_Rightr17b, F_ref17_Rightr17_W, F_ref17_Rightr17_g8, F_ref17_Rightr17_g18, F_ref17_Rightr17_g25, F_ref17_Rightr17_g29, F_ref17_Rightr18b, F_ref17_Rightr18_W, F_ref17_Rightr19b, F_ref17_Rightr19_W, F_ref17_Rightr15b, F_ref17_Rightr15_W, F_ref17_Rightl1b, F_ref17_Rightl1_W, F_ref17_Rightr20b, F_ref17_Rightr20_W, F_ref17_Rightr21b, F_ref17_Rightr21_W, F_ref17_Rightr23b, F_ref17_Rightr23_g7, F_ref17_Rightr23_g10, F_ref17_Rightr23_W, F_ref17_Rightr24b, F_ref17_Rightr24_W, F_ref17_Rightr25b, F_ref17_Rightr25_W, F_ref17_Rightr22b, F_ref17_Rightr22_W, F_ref17_Rightl2b, F_ref17_Rightl2_W, F_ref17_Rightr26b, F_ref17_Rightr26_W, F_ref17_Rightr27b, F_ref17_Rightr27_W, F_ref17_Rightr29b, F_ref17_Rightr29_W, F_ref17_Rightr30b, F_ref17_Rightr30_W, F_ref17_Rightr31b, F_ref17_Rightr31_W, F_ref17_Rightr32b, F_ref17_Rightr32_W, F_ref17_Rightr34b, F_ref17_Rightr34_W, F_ref17_Rightr35b, F_ref17_Rightr35_W, F_ref17_Rightr33b, F_ref17_Rightr33_W, F_ref17_Rightl4b, F_ref17_Rightr28b, F_ref17_Rightr28_W, F_ref17_Rightl3b, F_ref17_Rightl3_W, F_ref17_Rightr36b, F_ref17_Rightr36_W, F_ref17_Rightcb, F_ref17_Rightc_W, v1, v4, v8, hlen, q, a1, a2, L10, L11, wr, wu, CC_of c]
      exact .inr ⟨trivial, trivial, trivial⟩
    | true =>
      rw [hb] at c
      simp only [fws, seval, cond_true, cond_false, if_true, if_false, unV, isNil, optI, iV, stepI, evalR, IntKind.bits, ini, faI_ptr, Nat.zero_add, lenI_sl, F_ref17_Rightr0b, F_ref17_Rightr0_W, F_ref17_Rightr1b, F_ref17_Rightr1_W, F_ref17_Rightr1_g3, F_ref17_Rightr1_g8, F_ref17_Rightr1_g14, F_ref17_Rightr1_g20, F_ref17_Rightr2b, F_ref17_Rightr2_W, F_ref17_Rightr3b, F_ref17_Rightr3_W, F_ref17_Rightr4b, F_ref17_Rightr4_W, F_ref17_Rightr6b, F_ref17_Rightr6_W, F_ref17_Rightr6_g7, F_ref17_Rightr7b, F_ref17_Rightr7_W, F_ref17_Rightr5b, F_ref17_Rightr5_W, F_ref17_Rightl0b, F_ref17_Rightl0_W, F_ref17_Rightr8b, F_ref17_Rightr8_W, F_ref17_Rightr8_g4, F_ref17_Rightr8_g9, F_ref17_Rightr8_g14, F_ref17_Rightr8_g19, F_ref17_Rightr8_g28, F_ref17_Rightr8_g33, F_ref17_Rightr8_g38, F_ref17_Rightr8_g43, F_ref17_Rightr9b, F_ref17_Rightr9_W, F_ref17_Rightr10b, F_ref17_Rightr10_W, F_ref17_Rightr10_g3, F_ref17_Rightr11b, F_ref17_Rightr11_W, F_ref17_Rightr12b, F_ref17_Rightr12_W, F_ref17_Rightr13b, F_ref17_Rightr13_W, F_ref17_Rightr14b, F_ref17_Rightr14_W, F_ref17_Rightr16b, F_ref17_Rightr16_W, F_ref17_Rightr17b, F_ref17_Rightr17_W, F_ref17_Rightr17_g8, F_ref17_Rightr17_g18, F_ref17_Rightr17_g25, F_ref17_Rightr17_g29, F_ref17_Rightr18b, F_ref17_Rightr18_W, F_ref17_Rightr19b, F_ref17_Rightr19_W, F_ref17_Rightr15b, F_ref17_Rightr15_W, F_ref17_Rightl1b, F_ref17_Rightl1_W, F_ref17_Rightr20b, F_ref17_Rightr20_W, F_ref17_Rightr21b, F_ref17_Rightr21_W, F_ref17_Rightr23b, F_ref17_Rightr23_g7, F_ref17_Rightr23_g10, F_ref17_Rightr23_W, F_ref17_Rightr24b, F_ref17_Rightr24_W, F_ref17_Rightr25b, F_ref17_Rightr25_W, F_ref17_Rightr22b, F_ref17_Rightr22_W, F_ref17_Rightl2b, F_ref17_Rightl2_W, F_ref17_Rightr26b, F_ref17_Rightr26_W, F_ref17_Rightr27b, F_ref17_Rightr27_W, F_ref17_Rightr29b, F_ref17_Rightr29_W, F_ref17_Rightr30b, F_ref17_Rightr30_W, F_ref17_Rightr31b, F_ref17_Rightr31_W, F_ref17_Rightr32b, F_ref17_Rightr32_W, F_ref17_Rightr34b, F_ref17_Rightr34_W, F_ref17_Rightr35b, F_ref17_Rightr35_W, F_ref17_Rightr33b, F_ref17_Rightr33_W, F_ref17_Rightl4b, F_ref17_Rightr28b, F_ref17_Rightr28_W, F_ref17_Rightl3b, F_ref17_Rightl3_W, F_ref17_Rightr36b, F_ref17_Rightr36_W, F_ref17_Rightcb, F_ref17_Rightc_W, v1, v4, v8, hlen, q, a1, a2, L10, L11, wr, wu, CC_of c]
      refine W.mono (key (P.take i) 0 _ rfl ?_ ?_ ?_) fun z e h ⟨hh, hz⟩ => ?_
      · (first | assumption | rfl)
      · (first | assumption | rfl)
      · (first | assumption | rfl)
      subst hh
      rcases hz with ⟨rfl, hz, e1, e4, e8⟩ | ⟨rfl, hz, hz2⟩
      · rw [hz]
        have e8' : e 8 = .int .i64 i := e8.trans v8
        simp only [fws, seval, cond_true, cond_false, if_true, if_false, unV, isNil, optI, iV, stepI, evalR, IntKind.bits, ini, F_ref17_Rightr0b, F_ref17_Rightr0_W, F_ref17_Rightr1b, F_ref17_Rightr1_W, F_ref17_Rightr1_g3, F_ref17_Rightr1_g8, F_ref17_Rightr1_g14, F_ref17_Rightr1_g20, F_ref17_Rightr2b, F_ref17_Rightr2_W, F_ref17_Rightr3b, F_ref17_Rightr3_W, F_ref17_Rightr4b, F_ref17_Rightr4_W, F_ref17_Rightr6b, F_ref17_Rightr6_W, F_ref17_Rightr6_g7, F_ref17_Rightr7b, F_ref17_Rightr7_W, F_ref17_Rightr5b, F_ref17_Rightr5_W, F_ref17_Rightl0b, F_ref17_Rightl0_W, F_ref17_Rightr8b, F_ref17_Rightr8_W, F_ref17_Rightr8_g4, F_ref17_Rightr8_g9, F_ref17_Rightr8_g14, F_ref17_Rightr8_g19, F_ref17_Rightr8_g28, F_ref17_Rightr8_g33, F_ref17_Rightr8_g38, F_ref17_Rightr8_g43, F_ref17_Rightr9b, F_ref17_Rightr9_W, F_ref17_Rightr10b, F_ref17_Rightr10_W, F_ref17_Rightr10_g3, F_ref17_Rightr11b, F_ref17_Rightr11_W, F_ref17_Rightr12b, F_ref17_Rightr12_W, F_ref17_Rightr13b, F_ref17_Rightr13_W, F_ref17_Rightr14b, F_ref17_Rightr14_W, F_ref17_Rightr16b, F_ref17_Rightr16_W, F_ref17_Rightr17b, F_ref17_Rightr17_W, F_ref17_Rightr17_g8, F_ref17_Rightr17_g18, F_ref17_Rightr17_g25, F_ref17_Rightr17_g29, F_ref17_Rightr18b, F_ref17_Rightr18_W, F_ref17_Rightr19b, F_ref17_Rightr19_W, F_ref17_Rightr15b, F_ref17_Rightr15_W, F_ref17_Rightl1b, F_ref17_Rightl1_W, F_ref17_Rightr20b, F_ref17_Rightr20_W, F_ref17_Rightr21b, F_ref17_Rightr21_W, F_ref17_Rightr23b, F_ref17_Rightr23_g7, F_ref17_Rightr23_g10, F_ref17_Rightr23_W, F_ref17_Rightr24b, F_ref17_Rightr24_W, F_ref17_Rightr25b, F_ref17_Rightr25_W, F_ref17_Rightr22b, F_ref17_Rightr22_W, F_ref17_Rightl2b, F_ref17_Rightl2_W, F_ref17_Rightr26b, F_ref17_Rightr26_W, F_ref17_Rightr27b, F_ref17_Rightr27_W, F_ref17_Rightr29b, F_ref17_Rightr29_W, F_ref17_Rightr30b, F_ref17_Rightr30_W, F_ref17_Rightr31b, F_ref17_Rightr31_W, F_ref17_Rightr32b, F_ref17_Rightr32_W, F_ref17_Rightr34b, F_ref17_Rightr34_W, F_ref17_Rightr35b, F_ref17_Rightr35_W, F_ref17_Rightr33b, F_ref17_Rightr33_W, F_ref17_Rightl4b, F_ref17_Rightr28b, F_ref17_Rightr28_W, F_ref17_Rightl3b, F_ref17_Rightl3_W, F_ref17_Rightr36b, F_ref17_Rightr36_W, F_ref17_Rightcb, F_ref17_Rightc_W, e8', w2]
        refine ih (i + 1) _ hr2 ?_ ?_ ?_
        · exact e1.trans v1
        · exact e4.trans v4
        · rfl
      · rw [hz2]
        simp only [fws, seval, cond_true, cond_false, if_true, if_false, unV, isNil, optI, iV, stepI, evalR, IntKind.bits, ini, F_ref17_Rightr0b, F_ref17_Rightr0_W, F_ref17_Rightr1b, F_ref17_Rightr1_W, F_ref17_Rightr1_g3, F_ref17_Rightr1_g8, F_ref17_Rightr1_g14, F_ref17_Rightr1_g20, F_ref17_Rightr2b, F_ref17_Rightr2_W, F_ref17_Rightr3b, F_ref17_Rightr3_W, F_ref17_Rightr4b, F_ref17_Rightr4_W, F_ref17_Rightr6b, F_ref17_Rightr6_W, F_ref17_Rightr6_g7, F_ref17_Rightr7b, F_ref17_Rightr7_W, F_ref17_Rightr5b, F_ref17_Rightr5_W, F_ref17_Rightl0b, F_ref17_Rightl0_W, F_ref17_Rightr8b, F_ref17_Rightr8_W, F_ref17_Rightr8_g4, F_ref17_Rightr8_g9, F_ref17_Rightr8_g14, F_ref17_Rightr8_g19, F_ref17_Rightr8_g28, F_ref17_Rightr8_g33, F_ref17_Rightr8_g38, F_ref17_Rightr8_g43, F_ref17_Rightr9b, F_ref17_Rightr9_W, F_ref17_Rightr10b, F_ref17_Rightr10_W, F_ref17_Rightr10_g3, F_ref17_Rightr11b, F_ref17_Rightr11_W, F_ref17_Rightr12b, F_ref17_Rightr12_W, F_ref17_Rightr13b, F_ref17_Rightr13_W, F_ref17_Rightr14b, F_ref17_Rightr14_W, F_ref17_Rightr16b, F_ref17_Rightr16_W, F_ref17_Rightr17b, F_ref17_Rightr17_W, F_ref17_Rightr17_g8, F_ref17_Rightr17_g18, F_ref17_Rightr17_g25, F_ref17_Rightr17_g29, F_ref17_Rightr18b, F_ref17_Rightr18_W, F_ref17_Rightr19b, F_ref17_Rightr19_W, F_ref17_Rightr15b, F_ref17_Rightr15_W, F_ref17_Rightl1b, F_ref17_Rightl1_W, F_ref17_Rightr20b, F_ref17_Rightr20_W, F_ref17_Rightr21b, F_ref17_Rightr21_W, F_ref17_Rightr23b, F_ref17_Rightr23_g7, F_ref17_Rightr23_g10, F_ref17_Rightr23_W, F_ref17_Rightr24b, F_ref17_Rightr24_W, F_ref17_Rightr25b, F_ref17_Rightr25_W, F_ref17_Rightr22b, F_ref17_Rightr22_W, F_ref17_Rightl2b, F_ref17_Rightl2_W, F_ref17_Rightr26b, F_ref17_Rightr26_W, F_ref17_Rightr27b, F_ref17_Rightr27_W, F_ref17_Rightr29b, F_ref17_Rightr29_W, F_ref17_Rightr30b, F_ref17_Rightr30_W, F_ref17_Rightr31b, F_ref17_Rightr31_W, F_ref17_Rightr32b, F_ref17_Rightr32_W, F_ref17_Rightr34b, F_ref17_Rightr34_W, F_ref17_Rightr35b, F_ref17_Rightr35_W, F_ref17_Rightr33b, F_ref17_Rightr33_W, F_ref17_Rightl4b, F_ref17_Rightr28b, F_ref17_Rightr28_W, F_ref17_Rightl3b, F_ref17_Rightl3_W, F_ref17_Rightr36b, F_ref17_Rightr36_W, F_ref17_Rightcb, F_ref17_Rightc_W]
        exact .inr ⟨trivial, hz, trivial⟩
end
end Go.Proofs.YtdjgknlhpdnhbaaGreat
/- Of what a library can be made: both sides. -/
namespace Go.Proofs.YtdjgknlhpdnhbaaGreat
open Go Fw
set_option linter.unusedSimpArgs false
set_option linter.unusedVariables false
set_option linter.unusedSectionVars false

def plsM (s : S_api_Spec) : List Int := (lst s.Rels).map (·.At) ++ lst s.Relr
def relsM (s : S_api_Spec) : Bool :=
  !decide (512 < (lst s.Rels).length + (lst s.Relr).length) && ((lst s.Rels).all (relOk s) && (relrC (lst s.Relr) (lst s.Relr) 0 && placesC (plsM s) (roomI s) (plsM s) 0))
def rngM (s : S_api_Spec) : Bool :=
  !decide ((4096 : Int) < (lst s.Data).length) && !decide (s.Zeros < 0) && !decide (4096 < s.Zeros) && !decide (s.Relro < 0) && !decide (((lst s.Data).length : Int) / 256 < s.Relro) && !decide (s.Init < 0) && !decide (8 < s.Init) && !decide (s.Fini < 0) && !decide (8 < s.Fini)
def namesM (s : S_api_Spec) : Bool := (decide (s.Machine = 62) || decide (s.Machine = 183)) && plain s.Soname && plain s.Runpath && !decide ((16 : Int) < (lst s.Needed).length)
def ndOk (n : List UInt8) : Bool := plain n && decide (n ≠ [])
def rightM (s : S_api_Spec) : Bool := namesM s && ((lst s.Needed).all ndOk && (rngM s && (symsM s && relsM s)))
theorem rng_of {s : S_api_Spec} (h : rngM s = true) : 0 ≤ s.Zeros ∧ s.Zeros ≤ 4096 := by
  unfold rngM at h
  simp only [Bool.and_eq_true, Bool.not_eq_true', decide_eq_false_iff_not] at h
  omega
theorem pls_ok {s : S_api_Spec} (k : OkSp s) : (plsM s).length ≤ 2000 ∧ ∀ x ∈ plsM s, isU64 x := by
  have h1 := k.rl
  have h2 := k.rr
  refine ⟨by unfold plsM; rw [List.length_append, List.length_map]; omega, fun x hx => ?_⟩
  unfold plsM at hx
  rcases List.mem_append.1 hx with hx | hx
  · obtain ⟨r, hr, rfl⟩ := List.mem_map.1 hx
    exact (k.rw r hr).1
  · exact k.ru x hx
section
variable {T : Tab} {s : S_api_Spec}
theorem f_mrelocs (t : MrF T) (k : OkSp s) (hz0 : 0 ≤ s.Zeros) (hz1 : s.Zeros ≤ 4096) : FnV T 23 [spA s] (.bool (relsM s)) := by
  refine FnV_of (pure_sp s) ?_
  rw [Ev_fn t.mr rfl]
  have h1 := k.rl
  have h2 := k.rr
  have h3 := k.da
  obtain ⟨pl, pu⟩ := pls_ok k
  have L8 : loadI [spEn s] (.pointer (some ⟨0, 8, none⟩)) = some (slV S_api_RelE s.Rels, [spEn s]) := sp8 rfl
  have L9 : loadI [spEn s] (.pointer (some ⟨0, 9, none⟩)) = some (slV (intE .u64) s.Relr, [spEn s]) := sp9 rfl
  have L10 : loadI [spEn s] (.pointer (some ⟨0, 10, none⟩)) = some (slV byteE s.Data, [spEn s]) := sp10 rfl
  have L11 : loadI [spEn s] (.pointer (some ⟨0, 11, none⟩)) = some (.int .i64 s.Zeros, [spEn s]) := sp11 rfl
  have wa : IntKind.i64.wrap (((lst s.Rels).length : Int) + ((lst s.Relr).length : Int)) = ((lst s.Rels).length : Int) + ((lst s.Relr).length : Int) := wrapI64 (by omega) (by omega)
  have wr : IntKind.i64.wrap (((lst s.Data).length : Int) + s.Zeros) = roomI s := wrapI64 (by omega) (by omega)
  have wu : IntKind.u64.wrap (roomI s) = roomI s := by rw [wrap_u64]; unfold roomI; omega
  have hrm : isU64 (roomI s) := by unfold roomI isU64; omega
  simp only [F_maker_relocations, fws, box_sp, F_maker_relocationsr0b, F_maker_relocationsr0_W, F_maker_relocationsr1b, F_maker_relocationsr2b, F_maker_relocationsr2_W, F_maker_relocationsr3b, F_maker_relocationsr4b, F_maker_relocationsr5b, F_maker_relocationsr6b, F_maker_relocationsr6_W, F_maker_relocationsr7b, F_maker_relocationsr7_W, F_maker_relocationsr8b, F_maker_relocationsr8_W, F_maker_relocationsr9b, F_maker_relocationsr9_W, F_maker_relocationsr9_g2, F_maker_relocationsr9_g6, F_maker_relocationsr9_g16, F_maker_relocationsr9_g23, F_maker_relocationsr9_g27, F_maker_relocationsr10b, F_maker_relocationsr10_W, F_maker_relocationsr11b, F_maker_relocationsr11_W, F_maker_relocationsr12b, F_maker_relocationsr12_W, F_maker_relocationsl0b, F_maker_relocationsr13b, F_maker_relocationsr14b, F_maker_relocationsr14_W, F_maker_relocationsr15b, F_maker_relocationsr15_W, F_maker_relocationsr16b, F_maker_relocationsr16_W, F_maker_relocationsr16_g3, F_maker_relocationsr16_g6, F_maker_relocationsr17b, F_maker_relocationsr17_W, F_maker_relocationsr18b, F_maker_relocationsr18_W, F_maker_relocationsl1b, F_maker_relocationsr19b, F_maker_relocationsr20b, F_maker_relocationsr21b, F_maker_relocationsr21_W, F_maker_relocationsr22b, F_maker_relocationsr22_W, F_maker_relocationsr23b, F_maker_relocationsr23_W, F_maker_relocationsr24b, F_maker_relocationsr24_W, F_maker_relocationsr25b, F_maker_relocationsr25_W, F_maker_relocationsr26b, F_maker_relocationsr26_W, F_maker_relocationsr27b, F_maker_relocationsr27_W, F_maker_relocationsr28b, F_maker_relocationsr28_W, F_maker_relocationsr29b, F_maker_relocationsr29_W, F_maker_relocationsr30b, F_maker_relocationsr30_W, F_maker_relocationsl3b, F_maker_relocationsl3_W, F_maker_relocationsr31b, F_maker_relocationsr31_W, F_maker_relocationsl2b, F_maker_relocationsr32b, F_maker_relocationsr32_W, F_maker_relocationscb, F_maker_relocationsc_W]
  unfold relsM
  by_cases a1 : (512 : Int) < ((lst s.Rels).length : Int) + ((lst s.Relr).length : Int)
  · have e1 : decide (512 < (lst s.Rels).length + (lst s.Relr).length) = true := decide_eq_true (by omega)
    simp only [fws, seval, cond_true, cond_false, if_true, if_false, unV, isNil, optI, iV, stepI, evalR, IntKind.bits, ini, faI_ptr, Nat.zero_add, lenI_sl, F_maker_relocationsr0b, F_maker_relocationsr0_W, F_maker_relocationsr1b, F_maker_relocationsr1_W, F_maker_relocationsr2b, F_maker_relocationsr2_W, F_maker_relocationsr3b, F_maker_relocationsr3_W, F_maker_relocationsr4b, F_maker_relocationsr4_W, F_maker_relocationsr5b, F_maker_relocationsr5_W, F_maker_relocationsr6b, F_maker_relocationsr6_W, F_maker_relocationsr7b, F_maker_relocationsr7_W, F_maker_relocationsr8b, F_maker_relocationsr8_W, F_maker_relocationsr9b, F_maker_relocationsr9_W, F_maker_relocationsr9_g2, F_maker_relocationsr9_g6, F_maker_relocationsr9_g16, F_maker_relocationsr9_g23, F_maker_relocationsr9_g27, F_maker_relocationsr10b, F_maker_relocationsr10_W, F_maker_relocationsr11b, F_maker_relocationsr11_W, F_maker_relocationsr12b, F_maker_relocationsr12_W, F_maker_relocationsl0b, F_maker_relocationsr13b, F_maker_relocationsr13_W, F_maker_relocationsr14b, F_maker_relocationsr14_W, F_maker_relocationsr15b, F_maker_relocationsr15_W, F_maker_relocationsr16b, F_maker_relocationsr16_W, F_maker_relocationsr16_g3, F_maker_relocationsr16_g6, F_maker_relocationsr17b, F_maker_relocationsr17_W, F_maker_relocationsr18b, F_maker_relocationsr18_W, F_maker_relocationsl1b, F_maker_relocationsr19b, F_maker_relocationsr19_W, F_maker_relocationsr20b, F_maker_relocationsr20_W, F_maker_relocationsr21b, F_maker_relocationsr21_W, F_maker_relocationsr22b, F_maker_relocationsr22_W, F_maker_relocationsr23b, F_maker_relocationsr23_W, F_maker_relocationsr24b, F_maker_relocationsr24_W, F_maker_relocationsr25b, F_maker_relocationsr25_W, F_maker_relocationsr26b, F_maker_relocationsr26_W, F_maker_relocationsr27b, F_maker_relocationsr27_W, F_maker_relocationsr28b, F_maker_relocationsr28_W, F_maker_relocationsr29b, F_maker_relocationsr29_W, F_maker_relocationsr30b, F_maker_relocationsr30_W, F_maker_relocationsl3b, F_maker_relocationsl3_W, F_maker_relocationsr31b, F_maker_relocationsr31_W, F_maker_relocationsl2b, F_maker_relocationsr32b, F_maker_relocationsr32_W, F_maker_relocationscb, F_maker_relocationsc_W, L8, L9, wa, a1, e1]
    rfl
  have e1 : decide (512 < (lst s.Rels).length + (lst s.Relr).length) = false := decide_eq_false (by omega)
  simp only [fws, seval, cond_true, cond_false, if_true, if_false, unV, isNil, optI, iV, stepI, evalR, IntKind.bits, ini, faI_ptr, Nat.zero_add, lenI_sl, F_maker_relocationsr0b, F_maker_relocationsr0_W, F_maker_relocationsr1b, F_maker_relocationsr1_W, F_maker_relocationsr2b, F_maker_relocationsr2_W, F_maker_relocationsr3b, F_maker_relocationsr3_W, F_maker_relocationsr4b, F_maker_relocationsr4_W, F_maker_relocationsr5b, F_maker_relocationsr5_W, F_maker_relocationsr6b, F_maker_relocationsr6_W, F_maker_relocationsr7b, F_maker_relocationsr7_W, F_maker_relocationsr8b, F_maker_relocationsr8_W, F_maker_relocationsr9b, F_maker_relocationsr9_W, F_maker_relocationsr9_g2, F_maker_relocationsr9_g6, F_maker_relocationsr9_g16, F_maker_relocationsr9_g23, F_maker_relocationsr9_g27, F_maker_relocationsr10b, F_maker_relocationsr10_W, F_maker_relocationsr11b, F_maker_relocationsr11_W, F_maker_relocationsr12b, F_maker_relocationsr12_W, F_maker_relocationsl0b, F_maker_relocationsr13b, F_maker_relocationsr13_W, F_maker_relocationsr14b, F_maker_relocationsr14_W, F_maker_relocationsr15b, F_maker_relocationsr15_W, F_maker_relocationsr16b, F_maker_relocationsr16_W, F_maker_relocationsr16_g3, F_maker_relocationsr16_g6, F_maker_relocationsr17b, F_maker_relocationsr17_W, F_maker_relocationsr18b, F_maker_relocationsr18_W, F_maker_relocationsl1b, F_maker_relocationsr19b, F_maker_relocationsr19_W, F_maker_relocationsr20b, F_maker_relocationsr20_W, F_maker_relocationsr21b, F_maker_relocationsr21_W, F_maker_relocationsr22b, F_maker_relocationsr22_W, F_maker_relocationsr23b, F_maker_relocationsr23_W, F_maker_relocationsr24b, F_maker_relocationsr24_W, F_maker_relocationsr25b, F_maker_relocationsr25_W, F_maker_relocationsr26b, F_maker_relocationsr26_W, F_maker_relocationsr27b, F_maker_relocationsr27_W, F_maker_relocationsr28b, F_maker_relocationsr28_W, F_maker_relocationsr29b, F_maker_relocationsr29_W, F_maker_relocationsr30b, F_maker_relocationsr30_W, F_maker_relocationsl3b, F_maker_relocationsl3_W, F_maker_relocationsr31b, F_maker_relocationsr31_W, F_maker_relocationsl2b, F_maker_relocationsr32b, F_maker_relocationsr32_W, F_maker_relocationscb, F_maker_relocationsc_W, L8, L9, L10, L11, wa, wr, wu, a1, e1]
  refine W.mono (loop_mrels t k (lst s.Rels) 0 [] (.slice none 0 0) _ _ rfl ⟨rfl, Own.nil, by simp [blkV]⟩ (by simp) ?_ ?_ ?_ ?_ ?_) fun z e h hz => ?_
  · (first | assumption | rfl)
  · (first | assumption | rfl)
  · (first | assumption | rfl)
  · (first | assumption | rfl)
  · (first | assumption | rfl)
  rcases hz with ⟨rfl, hz, g1, g3, gS⟩ | ⟨rfl, hz, hz2⟩
  · rw [hz]
    have L9' := sp9 gS.z
    simp only [fws, seval, cond_true, cond_false, if_true, if_false, unV, isNil, optI, iV, stepI, evalR, IntKind.bits, ini, faI_ptr, Nat.zero_add, lenI_sl, F_maker_relocationsr0b, F_maker_relocationsr0_W, F_maker_relocationsr1b, F_maker_relocationsr1_W, F_maker_relocationsr2b, F_maker_relocationsr2_W, F_maker_relocationsr3b, F_maker_relocationsr3_W, F_maker_relocationsr4b, F_maker_relocationsr4_W, F_maker_relocationsr5b, F_maker_relocationsr5_W, F_maker_relocationsr6b, F_maker_relocationsr6_W, F_maker_relocationsr7b, F_maker_relocationsr7_W, F_maker_relocationsr8b, F_maker_relocationsr8_W, F_maker_relocationsr9b, F_maker_relocationsr9_W, F_maker_relocationsr9_g2, F_maker_relocationsr9_g6, F_maker_relocationsr9_g16, F_maker_relocationsr9_g23, F_maker_relocationsr9_g27, F_maker_relocationsr10b, F_maker_relocationsr10_W, F_maker_relocationsr11b, F_maker_relocationsr11_W, F_maker_relocationsr12b, F_maker_relocationsr12_W, F_maker_relocationsl0b, F_maker_relocationsl0_W, F_maker_relocationsr13b, F_maker_relocationsr13_W, F_maker_relocationsr14b, F_maker_relocationsr14_W, F_maker_relocationsr15b, F_maker_relocationsr15_W, F_maker_relocationsr16b, F_maker_relocationsr16_W, F_maker_relocationsr16_g3, F_maker_relocationsr16_g6, F_maker_relocationsr17b, F_maker_relocationsr17_W, F_maker_relocationsr18b, F_maker_relocationsr18_W, F_maker_relocationsl1b, F_maker_relocationsr19b, F_maker_relocationsr19_W, F_maker_relocationsr20b, F_maker_relocationsr20_W, F_maker_relocationsr21b, F_maker_relocationsr21_W, F_maker_relocationsr22b, F_maker_relocationsr22_W, F_maker_relocationsr23b, F_maker_relocationsr23_W, F_maker_relocationsr24b, F_maker_relocationsr24_W, F_maker_relocationsr25b, F_maker_relocationsr25_W, F_maker_relocationsr26b, F_maker_relocationsr26_W, F_maker_relocationsr27b, F_maker_relocationsr27_W, F_maker_relocationsr28b, F_maker_relocationsr28_W, F_maker_relocationsr29b, F_maker_relocationsr29_W, F_maker_relocationsr30b, F_maker_relocationsr30_W, F_maker_relocationsl3b, F_maker_relocationsl3_W, F_maker_relocationsr31b, F_maker_relocationsr31_W, F_maker_relocationsl2b, F_maker_relocationsr32b, F_maker_relocationsr32_W, F_maker_relocationscb, F_maker_relocationsc_W, g1, L9']
    refine W.mono (loop_mrelr k (lst s.Relr) 0 (e 4) h _ rfl gS ?_ ?_ ?_ ?_ ?_) fun z e' h' hz => ?_
    · (first | assumption | rfl)
    · (first | assumption | rfl)
    · (first | assumption | rfl)
    · (first | assumption | rfl)
    · (first | assumption | rfl)
    rcases hz with ⟨rfl, hz, g1', g3', g4', rfl⟩ | ⟨rfl, hz, hz2⟩
    · rw [hz]
      obtain ⟨v', H', a1, a2⟩ := gS.app (m := lst s.Relr) (n := 1) (eb := 8) rfl rfl (by simp; omega)
      have sr : ∀ H, srcOf H 1 (slV (intE .u64) s.Relr) = some ((intE .u64).cs (lst s.Relr), (lst s.Relr).length) := fun H => srcOf_sl rfl
      have hO : Own (intE .u64) H' v' (plsM s) := a2.o
      have hlen := hO.len
      have v3 : e' 3 = .int .u64 (roomI s) := by rw [g3']; exact g3
      simp only [fws, seval, cond_true, cond_false, if_true, if_false, unV, isNil, optI, iV, stepI, evalR, IntKind.bits, ini, faI_ptr, Nat.zero_add, lenI_sl, F_maker_relocationsr0b, F_maker_relocationsr0_W, F_maker_relocationsr1b, F_maker_relocationsr1_W, F_maker_relocationsr2b, F_maker_relocationsr2_W, F_maker_relocationsr3b, F_maker_relocationsr3_W, F_maker_relocationsr4b, F_maker_relocationsr4_W, F_maker_relocationsr5b, F_maker_relocationsr5_W, F_maker_relocationsr6b, F_maker_relocationsr6_W, F_maker_relocationsr7b, F_maker_relocationsr7_W, F_maker_relocationsr8b, F_maker_relocationsr8_W, F_maker_relocationsr9b, F_maker_relocationsr9_W, F_maker_relocationsr9_g2, F_maker_relocationsr9_g6, F_maker_relocationsr9_g16, F_maker_relocationsr9_g23, F_maker_relocationsr9_g27, F_maker_relocationsr10b, F_maker_relocationsr10_W, F_maker_relocationsr11b, F_maker_relocationsr11_W, F_maker_relocationsr12b, F_maker_relocationsr12_W, F_maker_relocationsl0b, F_maker_relocationsl0_W, F_maker_relocationsr13b, F_maker_relocationsr13_W, F_maker_relocationsr14b, F_maker_relocationsr14_W, F_maker_relocationsr15b, F_maker_relocationsr15_W, F_maker_relocationsr16b, F_maker_relocationsr16_W, F_maker_relocationsr16_g3, F_maker_relocationsr16_g6, F_maker_relocationsr17b, F_maker_relocationsr17_W, F_maker_relocationsr18b, F_maker_relocationsr18_W, F_maker_relocationsl1b, F_maker_relocationsl1_W, F_maker_relocationsr19b, F_maker_relocationsr19_W, F_maker_relocationsr20b, F_maker_relocationsr20_W, F_maker_relocationsr21b, F_maker_relocationsr21_W, F_maker_relocationsr22b, F_maker_relocationsr22_W, F_maker_relocationsr23b, F_maker_relocationsr23_W, F_maker_relocationsr24b, F_maker_relocationsr24_W, F_maker_relocationsr25b, F_maker_relocationsr25_W, F_maker_relocationsr26b, F_maker_relocationsr26_W, F_maker_relocationsr27b, F_maker_relocationsr27_W, F_maker_relocationsr28b, F_maker_relocationsr28_W, F_maker_relocationsr29b, F_maker_relocationsr29_W, F_maker_relocationsr30b, F_maker_relocationsr30_W, F_maker_relocationsl3b, F_maker_relocationsl3_W, F_maker_relocationsr31b, F_maker_relocationsr31_W, F_maker_relocationsl2b, F_maker_relocationsr32b, F_maker_relocationsr32_W, F_maker_relocationscb, F_maker_relocationsc_W, g1', g4', L9', sr, a1, hlen]
      refine W.mono (loop_mplaces t pl pu hO hrm (plsM s) 0 _ rfl ?_ ?_ ?_ ?_ ?_) fun z e h hz => ?_
      · (first | assumption | rfl)
      · (first | assumption | rfl)
      · (first | assumption | rfl)
      · (first | assumption | rfl)
      · (first | assumption | rfl)
      rcases hz with ⟨rfl, hz⟩ | ⟨rfl, hz, hz2⟩
      · rw [hz]
        simp only [fws, seval, cond_true, cond_false, if_true, if_false, unV, isNil, optI, iV, stepI, evalR, IntKind.bits, ini, N_maker_relocations]
        rfl
      · rw [hz2]
        simp only [fws, seval, cond_true, cond_false, if_true, if_false, unV, isNil, optI, iV, stepI, evalR, IntKind.bits, ini, N_maker_relocations, hz]
        rfl
    · rw [hz2]
      simp only [fws, seval, cond_true, cond_false, if_true, if_false, unV, isNil, optI, iV, stepI, evalR, IntKind.bits, ini, N_maker_relocations, hz]
      rfl
  · rw [hz2]
    simp only [fws, seval, cond_true, cond_false, if_true, if_false, unV, isNil, optI, iV, stepI, evalR, IntKind.bits, ini, N_maker_relocations, hz]
    rfl
/-! ### names -/
theorem loop_mneeded (t : MrF T) (k : OkSp s) : ∀ (r : List (List UInt8)) (i : Nat) (env : Env), (lst s.Needed).drop i = r → env 1 = p0 → env 32 = slV strE s.Needed → env 33 = .int .i64 (lst s.Needed).length → env 34 = .int .i64 i →
    W T (.loop F_maker_Rightl0) env [spEn s] fun z e h => h = [spEn s] ∧ ((z = .exit 0 ∧ r.all ndOk = true ∧ e 1 = p0) ∨ (z = .ret ∧ e 2 = .bool false ∧ r.all ndOk = false)) := by
  have hn := k.nd
  intro r
  induction r with
  | nil =>
    intro i env hr v1 v32 v33 v34
    have hi := drop_end hr
    have q : ¬ ((i : Int) < (lst s.Needed).length) := by omega
    rw [w_loop]
    simp only [fws, seval, cond_true, cond_false, if_true, if_false, unV, isNil, optI, iV, stepI, evalR, IntKind.bits, ini, N_maker_Right, v33, v34, q]
    exact ⟨trivial, .inl ⟨trivial, rfl, v1⟩⟩
  | cons p ps ih =>
    intro i env hr v1 v32 v33 v34
    obtain ⟨hi, hp, hr2⟩ := drop_at hr
    have q : ((i : Int) < (lst s.Needed).length) := by omega
    have hxx := fun H => ix_sl (E := strE) (o := s.Needed) (n := 1) rfl hi .i64 H
    have hld : ∀ H, loadI H (atI strE (lst s.Needed) i) = some (strV p, H) := fun H => by rw [at_cons hi, hp]; rfl
    have w2 : IntKind.i64.wrap ((i : Int) + 1) = ((i + 1 : Nat) : Int) := by rw [wrapI64 (by omega) (by omega)]; rfl
    have c := f_mtext t p false
    rw [Bool.or_false] at c
    have c : FnV T 21 [strV p, .bool false] (.bool (ndOk p)) := c
    rw [w_loop]
    simp only [List.all_cons]
    cases hb : ndOk p with
    | false =>
      rw [hb] at c
      simp only [fws, seval, cond_true, cond_false, if_true, if_false, unV, isNil, optI, iV, stepI, evalR, IntKind.bits, ini, N_maker_Right, v32, v33, v34, q, hxx, hld, CC_of c]
      exact ⟨trivial, .inr ⟨trivial, trivial, trivial⟩⟩
    | true =>
      rw [hb] at c
      simp only [fws, seval, cond_true, cond_false, if_true, if_false, unV, isNil, optI, iV, stepI, evalR, IntKind.bits, ini, N_maker_Right, v32, v33, v34, q, hxx, hld, CC_of c, w2]
      refine W.mono (ih (i + 1) _ hr2 ?_ ?_ ?_ ?_) fun z e h hh => hh
      all_goals (first | assumption | rfl)
theorem loop_rneeded (t : MrF T) (k : OkSp s) : ∀ (r : List (List UInt8)) (i : Nat) (env : Env), (lst s.Needed).drop i = r → env 1 = p0 → env 3 = .int .i64 i →
    W T (.loop F_ref17_Rightl0) env [spEn s] fun z e h => h = [spEn s] ∧ ((z = .exit 0 ∧ r.all ndOk = true ∧ e 1 = p0) ∨ (z = .ret ∧ e 2 = .bool false ∧ r.all ndOk = false)) := by
  have hn := k.nd
  have L3 : loadI [spEn s] (.pointer (some ⟨0, 3, none⟩)) = some (slV strE s.Needed, [spEn s]) := sp3 rfl
  intro r
  induction r with
  | nil =>
    intro i env hr v1 v3
    have hi := drop_end hr
    have q : ¬ ((i : Int) < (lst s.Needed).length) := by omega
    rw [w_loop]
    simp only [fws, seval, cond_true, cond_false, if_true, if_false, unV, isNil, optI, iV, stepI, evalR, IntKind.bits, ini, faI_ptr, Nat.zero_add, lenI_sl, N_ref17_Right, v1, v3, L3, q]
    exact ⟨trivial, .inl ⟨trivial, rfl, by first | exact v1 | trivial⟩⟩
  | cons p ps ih =>
    intro i env hr v1 v3
    obtain ⟨hi, hp, hr2⟩ := drop_at hr
    have q : ((i : Int) < (lst s.Needed).length) := by omega
    have hxx := fun H => ix_sl (E := strE) (o := s.Needed) (n := 1) rfl hi .i64 H
    have hld : ∀ H, loadI H (atI strE (lst s.Needed) i) = some (strV p, H) := fun H => by rw [at_cons hi, hp]; rfl
    have w2 : IntKind.i64.wrap ((i : Int) + 1) = ((i + 1 : Nat) : Int) := by rw [wrapI64 (by omega) (by omega)]; rfl
    have c := f_ref02_Plain t.rp p (by have := k.nl p (hp ▸ List.getElem_mem hi); have : maxLen = 9223372036854775807 := rfl; omega)
    rw [w_loop]
    simp only [List.all_cons]
    cases hb : plain p with
    | false =>
      have hf : ndOk p = false := by unfold ndOk; rw [hb]; rfl
      rw [hb] at c
      simp only [fws, seval, cond_true, cond_false, if_true, if_false, unV, isNil, optI, iV, stepI, evalR, IntKind.bits, ini, faI_ptr, Nat.zero_add, lenI_sl, N_ref17_Right, v1, v3, L3, q, hxx, hld, CC_of c, hf]
      exact ⟨trivial, .inr ⟨trivial, trivial, trivial⟩⟩
    | true =>
      rw [hb] at c
      by_cases he : p = []
      · have hf : ndOk p = false := by unfold ndOk; simp [he]
        have z0 := nil_str he
        simp only [fws, seval, cond_true, cond_false, if_true, if_false, unV, isNil, optI, iV, stepI, evalR, IntKind.bits, ini, faI_ptr, Nat.zero_add, lenI_sl, N_ref17_Right, v1, v3, L3, q, hxx, hld, CC_of c, hf, z0]
        exact ⟨trivial, .inr ⟨trivial, trivial, trivial⟩⟩
      · have hf : ndOk p = true := by unfold ndOk; simp [he, hb]
        have z0 := ne_str he
        simp only [fws, seval, cond_true, cond_false, if_true, if_false, unV, isNil, optI, iV, stepI, evalR, IntKind.bits, ini, faI_ptr, Nat.zero_add, lenI_sl, N_ref17_Right, v1, v3, L3, q, hxx, hld, CC_of c, hf, z0, w2]
        refine W.mono (ih (i + 1) _ hr2 ?_ ?_) fun z e h hh => hh
        all_goals (first | assumption | rfl)
theorem st_mnames (t : MrF T) (k : OkSp s) {env : Env} (v1 : env 1 = p0) : W T (.seq (.reg F_maker_Rightr1) (.cond (.t 30) (.seq (.reg F_maker_Rightr2) .ret) .skip)) env [spEn s] fun x e h => h = [spEn s] ∧ e 1 = p0 ∧ ((x = .normal ∧ namesM s = true) ∨ (x = .ret ∧ e 2 = .bool false ∧ namesM s = false)) := by
  have L0 : loadI [spEn s] (.pointer (some ⟨0, 0, none⟩)) = some (.int .u16 s.Machine, [spEn s]) := sp0 rfl
  have L1 : loadI [spEn s] (.pointer (some ⟨0, 1, none⟩)) = some (strV s.Soname, [spEn s]) := sp1 rfl
  have L2 : loadI [spEn s] (.pointer (some ⟨0, 2, none⟩)) = some (strV s.Runpath, [spEn s]) := sp2 rfl
  have L3 : loadI [spEn s] (.pointer (some ⟨0, 3, none⟩)) = some (slV strE s.Needed, [spEn s]) := sp3 rfl
  have c1 := f_mtext t s.Soname true
  have c2 := f_mtext t s.Runpath true
  rw [Bool.or_true, Bool.and_true] at c1 c2
  have main : ∀ (b1 b2 : Bool), decide (s.Machine = 62) = b1 → decide (s.Machine = 183) = b2 → (b1 || b2) = true → W T (.seq (.reg F_maker_Rightr1) (.cond (.t 30) (.seq (.reg F_maker_Rightr2) .ret) .skip)) env [spEn s] fun x e h => h = [spEn s] ∧ e 1 = p0 ∧ ((x = .normal ∧ namesM s = true) ∨ (x = .ret ∧ e 2 = .bool false ∧ namesM s = false)) := by
    intro b1 b2 h1 h2 h3
    unfold namesM
    rw [h1, h2, h3, Bool.true_and]
    cases hs : plain s.Soname with
    | false =>
      rw [hs] at c1
      cases b1 <;> cases b2 <;> first | (cases h3; done) | skip
      all_goals
        simp only [fws, seval, cond_true, cond_false, if_true, if_false, unV, isNil, optI, iV, stepI, evalR, IntKind.bits, ini, faI_ptr, Nat.zero_add, lenI_sl, N_maker_Right, v1, L0, L1, L2, L3, h1, h2, CC_of c1]
        exact ⟨trivial, trivial, .inr ⟨trivial, trivial, trivial⟩⟩
    | true =>
      rw [hs] at c1
      cases hr : plain s.Runpath with
      | false =>
        rw [hr] at c2
        cases b1 <;> cases b2 <;> first | (cases h3; done) | skip
        all_goals
          simp only [fws, seval, cond_true, cond_false, if_true, if_false, unV, isNil, optI, iV, stepI, evalR, IntKind.bits, ini, faI_ptr, Nat.zero_add, lenI_sl, N_maker_Right, v1, L0, L1, L2, L3, h1, h2, CC_of c1, CC_of c2]
          exact ⟨trivial, trivial, .inr ⟨trivial, trivial, trivial⟩⟩
      | true =>
        rw [hr] at c2
        by_cases hn : (16 : Int) < (lst s.Needed).length
        · cases b1 <;> cases b2 <;> first | (cases h3; done) | skip
          all_goals
            simp only [fws, seval, cond_true, cond_false, if_true, if_false, unV, isNil, optI, iV, stepI, evalR, IntKind.bits, ini, faI_ptr, Nat.zero_add, lenI_sl, N_maker_Right, v1, L0, L1, L2, L3, h1, h2, CC_of c1, CC_of c2, hn]
            exact ⟨trivial, trivial, .inr ⟨trivial, trivial, trivial⟩⟩
        · cases b1 <;> cases b2 <;> first | (cases h3; done) | skip
          all_goals
            simp only [fws, seval, cond_true, cond_false, if_true, if_false, unV, isNil, optI, iV, stepI, evalR, IntKind.bits, ini, faI_ptr, Nat.zero_add, lenI_sl, N_maker_Right, v1, L0, L1, L2, L3, h1, h2, CC_of c1, CC_of c2, hn]
            exact ⟨trivial, trivial, .inl ⟨trivial, trivial⟩⟩
  by_cases m1 : s.Machine = 62
  · exact main true false (decide_eq_true m1) (decide_eq_false (by omega)) rfl
  · by_cases m2 : s.Machine = 183
    · exact main false true (decide_eq_false m1) (decide_eq_true m2) rfl
    · have hf : namesM s = false := by unfold namesM; rw [decide_eq_false m1, decide_eq_false m2]; rfl
      simp only [fws, seval, cond_true, cond_false, if_true, if_false, unV, isNil, optI, iV, stepI, evalR, IntKind.bits, ini, faI_ptr, Nat.zero_add, lenI_sl, N_maker_Right, v1, L0, L1, L2, L3, m1, m2, hf]
      exact ⟨trivial, trivial, .inr ⟨trivial, trivial, trivial⟩⟩
theorem st_mrng {env : Env} (h3 : (lst s.Data).length ≤ 5000) (v1 : env 1 = p0) : W T (.seq (.reg F_maker_Rightr9) (.cond (.t 89) (.seq (.reg F_maker_Rightr10) .ret) .skip)) env [spEn s] fun x e h => h = [spEn s] ∧ e 1 = p0 ∧ ((x = .normal ∧ rngM s = true) ∨ (x = .ret ∧ e 2 = .bool false ∧ rngM s = false)) := by
  have L10 : loadI [spEn s] (.pointer (some ⟨0, 10, none⟩)) = some (slV byteE s.Data, [spEn s]) := sp10 rfl
  have L11 : loadI [spEn s] (.pointer (some ⟨0, 11, none⟩)) = some (.int .i64 s.Zeros, [spEn s]) := sp11 rfl
  have L12 : loadI [spEn s] (.pointer (some ⟨0, 12, none⟩)) = some (.int .i64 s.Relro, [spEn s]) := sp12 rfl
  have L16 : loadI [spEn s] (.pointer (some ⟨0, 16, none⟩)) = some (.int .i64 s.Init, [spEn s]) := sp16 rfl
  have L17 : loadI [spEn s] (.pointer (some ⟨0, 17, none⟩)) = some (.int .i64 s.Fini, [spEn s]) := sp17 rfl
  have td : ((lst s.Data).length : Int).tdiv 256 = ((lst s.Data).length : Int) / 256 := tdivN (by omega)
  have wd : IntKind.i64.wrap (((lst s.Data).length : Int) / 256) = ((lst s.Data).length : Int) / 256 := wrapI64 (by omega) (by omega)
  have e256 : ¬ (256 : Int) = 0 := by decide
  by_cases q1 : (4096 : Int) < (lst s.Data).length
  · skip
    have hf : rngM s = false := by simp [rngM, q1]
    simp only [fws, seval, cond_true, cond_false, if_true, if_false, unV, isNil, optI, iV, stepI, evalR, IntKind.bits, ini, faI_ptr, Nat.zero_add, lenI_sl, N_maker_Right, v1, L10, L11, L12, L16, L17, td, wd, e256, q1, hf]
    exact ⟨trivial, trivial, .inr ⟨trivial, trivial, trivial⟩⟩
  by_cases q2 : s.Zeros < 0
  · skip
    have hf : rngM s = false := by simp [rngM, q1, q2]
    simp only [fws, seval, cond_true, cond_false, if_true, if_false, unV, isNil, optI, iV, stepI, evalR, IntKind.bits, ini, faI_ptr, Nat.zero_add, lenI_sl, N_maker_Right, v1, L10, L11, L12, L16, L17, td, wd, e256, q1, q2, hf]
    exact ⟨trivial, trivial, .inr ⟨trivial, trivial, trivial⟩⟩
  by_cases q3 : 4096 < s.Zeros
  · skip
    have hf : rngM s = false := by simp [rngM, q1, q2, q3]
    simp only [fws, seval, cond_true, cond_false, if_true, if_false, unV, isNil, optI, iV, stepI, evalR, IntKind.bits, ini, faI_ptr, Nat.zero_add, lenI_sl, N_maker_Right, v1, L10, L11, L12, L16, L17, td, wd, e256, q1, q2, q3, hf]
    exact ⟨trivial, trivial, .inr ⟨trivial, trivial, trivial⟩⟩
  by_cases q4 : s.Relro < 0
  · skip
    have hf : rngM s = false := by simp [rngM, q1, q2, q3, q4]
    simp only [fws, seval, cond_true, cond_false, if_true, if_false, unV, isNil, optI, iV, stepI, evalR, IntKind.bits, ini, faI_ptr, Nat.zero_add, lenI_sl, N_maker_Right, v1, L10, L11, L12, L16, L17, td, wd, e256, q1, q2, q3, q4, hf]
    exact ⟨trivial, trivial, .inr ⟨trivial, trivial, trivial⟩⟩
  by_cases q5 : ((lst s.Data).length : Int) / 256 < s.Relro
  · skip
    have hf : rngM s = false := by simp [rngM, q1, q2, q3, q4, q5]
    simp only [fws, seval, cond_true, cond_false, if_true, if_false, unV, isNil, optI, iV, stepI, evalR, IntKind.bits, ini, faI_ptr, Nat.zero_add, lenI_sl, N_maker_Right, v1, L10, L11, L12, L16, L17, td, wd, e256, q1, q2, q3, q4, q5, hf]
    exact ⟨trivial, trivial, .inr ⟨trivial, trivial, trivial⟩⟩
  by_cases q6 : s.Init < 0
  · skip
    have hf : rngM s = false := by simp [rngM, q1, q2, q3, q4, q5, q6]
    simp only [fws, seval, cond_true, cond_false, if_true, if_false, unV, isNil, optI, iV, stepI, evalR, IntKind.bits, ini, faI_ptr, Nat.zero_add, lenI_sl, N_maker_Right, v1, L10, L11, L12, L16, L17, td, wd, e256, q1, q2, q3, q4, q5, q6, hf]
    exact ⟨trivial, trivial, .inr ⟨trivial, trivial, trivial⟩⟩
  by_cases q7 : 8 < s.Init
  · skip
    have hf : rngM s = false := by simp [rngM, q1, q2, q3, q4, q5, q6, q7]
    simp only [fws, seval, cond_true, cond_false, if_true, if_false, unV, isNil, optI, iV, stepI, evalR, IntKind.bits, ini, faI_ptr, Nat.zero_add, lenI_sl, N_maker_Right, v1, L10, L11, L12, L16, L17, td, wd, e256, q1, q2, q3, q4, q5, q6, q7, hf]
    exact ⟨trivial, trivial, .inr ⟨trivial, trivial, trivial⟩⟩
  by_cases q8 : s.Fini < 0
  · skip
    have hf : rngM s = false := by simp [rngM, q1, q2, q3, q4, q5, q6, q7, q8]
    simp only [fws, seval, cond_true, cond_false, if_true, if_false, unV, isNil, optI, iV, stepI, evalR, IntKind.bits, ini, faI_ptr, Nat.zero_add, lenI_sl, N_maker_Right, v1, L10, L11, L12, L16, L17, td, wd, e256, q1, q2, q3, q4, q5, q6, q7, q8, hf]
    exact ⟨trivial, trivial, .inr ⟨trivial, trivial, trivial⟩⟩
  by_cases q9 : 8 < s.Fini
  · skip
    have hf : rngM s = false := by simp [rngM, q1, q2, q3, q4, q5, q6, q7, q8, q9]
    simp only [fws, seval, cond_true, cond_false, if_true, if_false, unV, isNil, optI, iV, stepI, evalR, IntKind.bits, ini, faI_ptr, Nat.zero_add, lenI_sl, N_maker_Right, v1, L10, L11, L12, L16, L17, td, wd, e256, q1, q2, q3, q4, q5, q6, q7, q8, q9, hf]
    exact ⟨trivial, trivial, .inr ⟨trivial, trivial, trivial⟩⟩
  have hf : rngM s = true := by simp only [rngM, q1, q2, q3, q4, q5, q6, q7, q8, q9, decide_false, Bool.not_false, Bool.and_self]
  simp only [fws, seval, cond_true, cond_false, if_true, if_false, unV, isNil, optI, iV, stepI, evalR, IntKind.bits, ini, faI_ptr, Nat.zero_add, lenI_sl, N_maker_Right, v1, L10, L11, L12, L16, L17, td, wd, e256, q1, q2, q3, q4, q5, q6, q7, q8, q9, hf]
  exact ⟨trivial, trivial, .inl ⟨trivial, trivial⟩⟩
theorem f_mright (t : MrF T) (k : OkSp s) : FnV T 8 [spA s] (.bool (rightM s)) := by
  refine FnV_of (pure_sp s) ?_
  rw [Ev_fn t.mR rfl]
  have L3 : loadI [spEn s] (.pointer (some ⟨0, 3, none⟩)) = some (slV strE s.Needed, [spEn s]) := sp3 rfl
  have LA : loadNI [spEn s] 18 p0 = some (spA s, [spEn s]) := spAll rfl
  simp only [F_maker_Right, fws, box_sp, F_maker_Rightr0b, F_maker_Rightr0_W, F_maker_Rightr1b, F_maker_Rightr2b, F_maker_Rightr2_W, F_maker_Rightr3b, F_maker_Rightr4b, F_maker_Rightr4_W, F_maker_Rightr5b, F_maker_Rightr5_W, F_maker_Rightr6b, F_maker_Rightr6_W, F_maker_Rightr7b, F_maker_Rightr7_W, F_maker_Rightr8b, F_maker_Rightr8_W, F_maker_Rightl0b, F_maker_Rightr9b, F_maker_Rightr10b, F_maker_Rightr10_W, F_maker_Rightr11b, F_maker_Rightcb, F_maker_Rightc_W]
  simp only [fws, seval, cond_true, cond_false, if_true, if_false, unV, isNil, optI, iV, stepI, evalR, IntKind.bits, ini, F_maker_Rightr0b, F_maker_Rightr0_W, F_maker_Rightr1b, F_maker_Rightr2b, F_maker_Rightr2_W, F_maker_Rightr3b, F_maker_Rightr4b, F_maker_Rightr4_W, F_maker_Rightr5b, F_maker_Rightr5_W, F_maker_Rightr6b, F_maker_Rightr6_W, F_maker_Rightr7b, F_maker_Rightr7_W, F_maker_Rightr8b, F_maker_Rightr8_W, F_maker_Rightl0b, F_maker_Rightr9b, F_maker_Rightr10b, F_maker_Rightr10_W, F_maker_Rightr11b, F_maker_Rightcb, F_maker_Rightc_W]
  rw [← w_seq]
  refine W.mono (st_mnames t k ?_) fun x e h ⟨hh, g1, hx⟩ => ?_
  · (first | assumption | rfl)
  subst hh
  unfold rightM
  rcases hx with ⟨rfl, hx⟩ | ⟨rfl, hx, hx2⟩
  · rw [hx, seqQ_normal]
    simp only [fws, seval, cond_true, cond_false, if_true, if_false, unV, isNil, optI, iV, stepI, evalR, IntKind.bits, ini, faI_ptr, Nat.zero_add, lenI_sl, F_maker_Rightr0b, F_maker_Rightr0_W, F_maker_Rightr1b, F_maker_Rightr1_W, F_maker_Rightr1_g3, F_maker_Rightr1_g8, F_maker_Rightr1_g14, F_maker_Rightr1_g20, F_maker_Rightr2b, F_maker_Rightr2_W, F_maker_Rightr3b, F_maker_Rightr3_W, F_maker_Rightr4b, F_maker_Rightr4_W, F_maker_Rightr5b, F_maker_Rightr5_W, F_maker_Rightr6b, F_maker_Rightr6_W, F_maker_Rightr7b, F_maker_Rightr7_W, F_maker_Rightr8b, F_maker_Rightr8_W, F_maker_Rightl0b, F_maker_Rightr9b, F_maker_Rightr10b, F_maker_Rightr10_W, F_maker_Rightr11b, F_maker_Rightr11_W, F_maker_Rightr11_g2, F_maker_Rightcb, F_maker_Rightc_W, L3, g1]
    refine W.mono (loop_mneeded t k (lst s.Needed) 0 _ rfl ?_ ?_ ?_ ?_) fun x e h ⟨hh, hx⟩ => ?_
    · (first | assumption | rfl)
    · (first | assumption | rfl)
    · (first | assumption | rfl)
    · (first | assumption | rfl)
    subst hh
    rcases hx with ⟨rfl, hx, g1⟩ | ⟨rfl, hx, hx2⟩
    · rw [hx]
      simp only [fws, seval, cond_true, cond_false, if_true, if_false, unV, isNil, optI, iV, stepI, evalR, IntKind.bits, ini, F_maker_Rightr0b, F_maker_Rightr0_W, F_maker_Rightr1b, F_maker_Rightr1_W, F_maker_Rightr1_g3, F_maker_Rightr1_g8, F_maker_Rightr1_g14, F_maker_Rightr1_g20, F_maker_Rightr2b, F_maker_Rightr2_W, F_maker_Rightr3b, F_maker_Rightr3_W, F_maker_Rightr4b, F_maker_Rightr4_W, F_maker_Rightr5b, F_maker_Rightr5_W, F_maker_Rightr6b, F_maker_Rightr6_W, F_maker_Rightr7b, F_maker_Rightr7_W, F_maker_Rightr8b, F_maker_Rightr8_W, F_maker_Rightl0b, F_maker_Rightr9b, F_maker_Rightr10b, F_maker_Rightr10_W, F_maker_Rightr11b, F_maker_Rightcb, F_maker_Rightc_W]
      rw [← w_seq]
      refine W.mono (st_mrng k.da g1) fun x e h ⟨hh, g1, hx⟩ => ?_
      subst hh
      rcases hx with ⟨rfl, hx⟩ | ⟨rfl, hx, hx2⟩
      · obtain ⟨z0, z1⟩ := rng_of hx
        rw [hx, seqQ_normal]
        have c1 := f_msyms t k z0 z1
        have c2 := f_mrelocs t k z0 z1
        cases hs : symsM s with
        | false =>
          rw [hs] at c1
          simp only [fws, seval, cond_true, cond_false, if_true, if_false, unV, isNil, optI, iV, stepI, evalR, IntKind.bits, ini, F_maker_Rightr0b, F_maker_Rightr0_W, F_maker_Rightr1b, F_maker_Rightr1_W, F_maker_Rightr1_g3, F_maker_Rightr1_g8, F_maker_Rightr1_g14, F_maker_Rightr1_g20, F_maker_Rightr2b, F_maker_Rightr2_W, F_maker_Rightr3b, F_maker_Rightr3_W, F_maker_Rightr4b, F_maker_Rightr4_W, F_maker_Rightr5b, F_maker_Rightr5_W, F_maker_Rightr6b, F_maker_Rightr6_W, F_maker_Rightr7b, F_maker_Rightr7_W, F_maker_Rightr8b, F_maker_Rightr8_W, F_maker_Rightl0b, F_maker_Rightr9b, F_maker_Rightr10b, F_maker_Rightr10_W, F_maker_Rightr11b, F_maker_Rightr11_W, F_maker_Rightr11_g2, F_maker_Rightcb, F_maker_Rightc_W, g1, LA, CC_of c1]
          rfl
        | true =>
          rw [hs] at c1
          simp only [fws, seval, cond_true, cond_false, if_true, if_false, unV, isNil, optI, iV, stepI, evalR, IntKind.bits, ini, F_maker_Rightr0b, F_maker_Rightr0_W, F_maker_Rightr1b, F_maker_Rightr1_W, F_maker_Rightr1_g3, F_maker_Rightr1_g8, F_maker_Rightr1_g14, F_maker_Rightr1_g20, F_maker_Rightr2b, F_maker_Rightr2_W, F_maker_Rightr3b, F_maker_Rightr3_W, F_maker_Rightr4b, F_maker_Rightr4_W, F_maker_Rightr5b, F_maker_Rightr5_W, F_maker_Rightr6b, F_maker_Rightr6_W, F_maker_Rightr7b, F_maker_Rightr7_W, F_maker_Rightr8b, F_maker_Rightr8_W, F_maker_Rightl0b, F_maker_Rightr9b, F_maker_Rightr10b, F_maker_Rightr10_W, F_maker_Rightr11b, F_maker_Rightr11_W, F_maker_Rightr11_g2, F_maker_Rightcb, F_maker_Rightc_W, g1, LA, CC_of c1, CC_of c2]
          rfl
      · rw [hx2]
        simp only [fws, seval, cond_true, cond_false, if_true, if_false, unV, isNil, optI, iV, stepI, evalR, IntKind.bits, ini, N_maker_Right, hx]
        rfl
    · rw [hx2]
      simp only [fws, seval, cond_true, cond_false, if_true, if_false, unV, isNil, optI, iV, stepI, evalR, IntKind.bits, ini, N_maker_Right, hx]
      rfl
  · rw [hx2]
    simp only [fws, seval, cond_true, cond_false, if_true, if_false, unV, isNil, optI, iV, stepI, evalR, IntKind.bits, ini, N_maker_Right, hx]
    rfl
end
end Go.Proofs.YtdjgknlhpdnhbaaGreat
/- Of what a library can be made: the document's side; the law. -/
namespace Go.Proofs.YtdjgknlhpdnhbaaGreat
open Go Fw
set_option linter.unusedSimpArgs false
set_option linter.unusedVariables false
set_option linter.unusedSectionVars false

section
variable {T : Tab} {s : S_api_Spec}
theorem st_rnames (t : MrF T) (k : OkSp s) {env : Env} (v1 : env 1 = p0) : W T (.seq (.reg F_ref17_Rightr1) (.cond (.t 35) (.seq (.reg F_ref17_Rightr2) .ret) .skip)) env [spEn s] fun x e h => h = [spEn s] ∧ e 1 = p0 ∧ ((x = .normal ∧ namesM s = true) ∨ (x = .ret ∧ e 2 = .bool false ∧ namesM s = false)) := by
  have L0 : loadI [spEn s] (.pointer (some ⟨0, 0, none⟩)) = some (.int .u16 s.Machine, [spEn s]) := sp0 rfl
  have L1 : loadI [spEn s] (.pointer (some ⟨0, 1, none⟩)) = some (strV s.Soname, [spEn s]) := sp1 rfl
  have L2 : loadI [spEn s] (.pointer (some ⟨0, 2, none⟩)) = some (strV s.Runpath, [spEn s]) := sp2 rfl
  have L3 : loadI [spEn s] (.pointer (some ⟨0, 3, none⟩)) = some (slV strE s.Needed, [spEn s]) := sp3 rfl
  have hm : maxLen = 9223372036854775807 := rfl
  have c1 := f_ref02_Plain t.rp s.Soname (by have := k.so; omega)
  have c2 := f_ref02_Plain t.rp s.Runpath (by have := k.rp; omega)
  have main : ∀ (b1 b2 : Bool), decide (s.Machine = 62) = b1 → decide (s.Machine = 183) = b2 → (b1 || b2) = true → W T (.seq (.reg F_ref17_Rightr1) (.cond (.t 35) (.seq (.reg F_ref17_Rightr2) .ret) .skip)) env [spEn s] fun x e h => h = [spEn s] ∧ e 1 = p0 ∧ ((x = .normal ∧ namesM s = true) ∨ (x = .ret ∧ e 2 = .bool false ∧ namesM s = false)) := by
    intro b1 b2 h1 h2 h3
    unfold namesM
    rw [h1, h2, h3, Bool.true_and]
    cases hs : plain s.Soname with
    | false =>
      rw [hs] at c1
      cases b1 <;> cases b2 <;> first | (cases h3; done) | skip
      all_goals
        simp only [fws, seval, cond_true, cond_false, if_true, if_false, unV, isNil, optI, iV, stepI, evalR, IntKind.bits, ini, faI_ptr, Nat.zero_add, lenI_sl, N_ref17_Right, v1, L0, L1, L2, L3, h1, h2, CC_of c1]
        exact ⟨trivial, trivial, .inr ⟨trivial, trivial, trivial⟩⟩
    | true =>
      rw [hs] at c1
      cases hr : plain s.Runpath with
      | false =>
        rw [hr] at c2
        cases b1 <;> cases b2 <;> first | (cases h3; done) | skip
        all_goals
          simp only [fws, seval, cond_true, cond_false, if_true, if_false, unV, isNil, optI, iV, stepI, evalR, IntKind.bits, ini, faI_ptr, Nat.zero_add, lenI_sl, N_ref17_Right, v1, L0, L1, L2, L3, h1, h2, CC_of c1, CC_of c2]
          exact ⟨trivial, trivial, .inr ⟨trivial, trivial, trivial⟩⟩
      | true =>
        rw [hr] at c2
        by_cases hn : (16 : Int) < (lst s.Needed).length
        · cases b1 <;> cases b2 <;> first | (cases h3; done) | skip
          all_goals
            simp only [fws, seval, cond_true, cond_false, if_true, if_false, unV, isNil, optI, iV, stepI, evalR, IntKind.bits, ini, faI_ptr, Nat.zero_add, lenI_sl, N_ref17_Right, v1, L0, L1, L2, L3, h1, h2, CC_of c1, CC_of c2, hn]
            exact ⟨trivial, trivial, .inr ⟨trivial, trivial, trivial⟩⟩
        · cases b1 <;> cases b2 <;> first | (cases h3; done) | skip
          all_goals
            simp only [fws, seval, cond_true, cond_false, if_true, if_false, unV, isNil, optI, iV, stepI, evalR, IntKind.bits, ini, faI_ptr, Nat.zero_add, lenI_sl, N_ref17_Right, v1, L0, L1, L2, L3, h1, h2, CC_of c1, CC_of c2, hn]
            exact ⟨trivial, trivial, .inl ⟨trivial, trivial⟩⟩
  by_cases m1 : s.Machine = 62
  · exact main true false (decide_eq_true m1) (decide_eq_false (by omega)) rfl
  · by_cases m2 : s.Machine = 183
    · exact main false true (decide_eq_false m1) (decide_eq_true m2) rfl
    · have hf : namesM s = false := by unfold namesM; rw [decide_eq_false m1, decide_eq_false m2]; rfl
      simp only [fws, seval, cond_true, cond_false, if_true, if_false, unV, isNil, optI, iV, stepI, evalR, IntKind.bits, ini, faI_ptr, Nat.zero_add, lenI_sl, N_ref17_Right, v1, L0, L1, L2, L3, m1, m2, hf]
      exact ⟨trivial, trivial, .inr ⟨trivial, trivial, trivial⟩⟩
theorem st_rrng {env : Env} (h3 : (lst s.Data).length ≤ 5000) (v1 : env 1 = p0) : W T (.seq (.reg F_ref17_Rightr8) (.cond (.t 105) (.seq (.reg F_ref17_Rightr9) .ret) .skip)) env [spEn s] fun x e h => h = [spEn s] ∧ e 1 = p0 ∧ ((x = .normal ∧ rngM s = true) ∨ (x = .ret ∧ e 2 = .bool false ∧ rngM s = false)) := by
  have L10 : loadI [spEn s] (.pointer (some ⟨0, 10, none⟩)) = some (slV byteE s.Data, [spEn s]) := sp10 rfl
  have L11 : loadI [spEn s] (.pointer (some ⟨0, 11, none⟩)) = some (.int .i64 s.Zeros, [spEn s]) := sp11 rfl
  have L12 : loadI [spEn s] (.pointer (some ⟨0, 12, none⟩)) = some (.int .i64 s.Relro, [spEn s]) := sp12 rfl
  have L16 : loadI [spEn s] (.pointer (some ⟨0, 16, none⟩)) = some (.int .i64 s.Init, [spEn s]) := sp16 rfl
  have L17 : loadI [spEn s] (.pointer (some ⟨0, 17, none⟩)) = some (.int .i64 s.Fini, [spEn s]) := sp17 rfl
  have td : ((lst s.Data).length : Int).tdiv 256 = ((lst s.Data).length : Int) / 256 := tdivN (by omega)
  have wd : IntKind.i64.wrap (((lst s.Data).length : Int) / 256) = ((lst s.Data).length : Int) / 256 := wrapI64 (by omega) (by omega)
  have e256 : ¬ (256 : Int) = 0 := by decide
  by_cases q1 : (4096 : Int) < (lst s.Data).length
  · skip
    have hf : rngM s = false := by simp [rngM, q1]
    simp only [fws, seval, cond_true, cond_false, if_true, if_false, unV, isNil, optI, iV, stepI, evalR, IntKind.bits, ini, faI_ptr, Nat.zero_add, lenI_sl, N_ref17_Right, v1, L10, L11, L12, L16, L17, td, wd, e256, q1, hf]
    exact ⟨trivial, trivial, .inr ⟨trivial, trivial, trivial⟩⟩
  by_cases q2 : s.Zeros < 0
  · skip
    have hf : rngM s = false := by simp [rngM, q1, q2]
    simp only [fws, seval, cond_true, cond_false, if_true, if_false, unV, isNil, optI, iV, stepI, evalR, IntKind.bits, ini, faI_ptr, Nat.zero_add, lenI_sl, N_ref17_Right, v1, L10, L11, L12, L16, L17, td, wd, e256, q1, q2, hf]
    exact ⟨trivial, trivial, .inr ⟨trivial, trivial, trivial⟩⟩
  by_cases q3 : 4096 < s.Zeros
  · skip
    have hf : rngM s = false := by simp [rngM, q1, q2, q3]
    simp only [fws, seval, cond_true, cond_false, if_true, if_false, unV, isNil, optI, iV, stepI, evalR, IntKind.bits, ini, faI_ptr, Nat.zero_add, lenI_sl, N_ref17_Right, v1, L10, L11, L12, L16, L17, td, wd, e256, q1, q2, q3, hf]
    exact ⟨trivial, trivial, .inr ⟨trivial, trivial, trivial⟩⟩
  by_cases q4 : s.Relro < 0
  · skip
    have hf : rngM s = false := by simp [rngM, q1, q2, q3, q4]
    simp only [fws, seval, cond_true, cond_false, if_true, if_false, unV, isNil, optI, iV, stepI, evalR, IntKind.bits, ini, faI_ptr, Nat.zero_add, lenI_sl, N_ref17_Right, v1, L10, L11, L12, L16, L17, td, wd, e256, q1, q2, q3, q4, hf]
    exact ⟨trivial, trivial, .inr ⟨trivial, trivial, trivial⟩⟩
  by_cases q5 : ((lst s.Data).length : Int) / 256 < s.Relro
  · skip
    have hf : rngM s = false := by simp [rngM, q1, q2, q3, q4, q5]
    simp only [fws, seval, cond_true, cond_false, if_true, if_false, unV, isNil, optI, iV, stepI, evalR, IntKind.bits, ini, faI_ptr, Nat.zero_add, lenI_sl, N_ref17_Right, v1, L10, L11, L12, L16, L17, td, wd, e256, q1, q2, q3, q4, q5, hf]
    exact ⟨trivial, trivial, .inr ⟨trivial, trivial, trivial⟩⟩
  by_cases q6 : s.Init < 0
  · skip
    have hf : rngM s = false := by simp [rngM, q1, q2, q3, q4, q5, q6]
    simp only [fws, seval, cond_true, cond_false, if_true, if_false, unV, isNil, optI, iV, stepI, evalR, IntKind.bits, ini, faI_ptr, Nat.zero_add, lenI_sl, N_ref17_Right, v1, L10, L11, L12, L16, L17, td, wd, e256, q1, q2, q3, q4, q5, q6, hf]
    exact ⟨trivial, trivial, .inr ⟨trivial, trivial, trivial⟩⟩
  by_cases q7 : 8 < s.Init
  · skip
    have hf : rngM s = false := by simp [rngM, q1, q2, q3, q4, q5, q6, q7]
    simp only [fws, seval, cond_true, cond_false, if_true, if_false, unV, isNil, optI, iV, stepI, evalR, IntKind.bits, ini, faI_ptr, Nat.zero_add, lenI_sl, N_ref17_Right, v1, L10, L11, L12, L16, L17, td, wd, e256, q1, q2, q3, q4, q5, q6, q7, hf]
    exact ⟨trivial, trivial, .inr ⟨trivial, trivial, trivial⟩⟩
  by_cases q8 : s.Fini < 0
  · skip
    have hf : rngM s = false := by simp [rngM, q1, q2, q3, q4, q5, q6, q7, q8]
    simp only [fws, seval, cond_true, cond_false, if_true, if_false, unV, isNil, optI, iV, stepI, evalR, IntKind.bits, ini, faI_ptr, Nat.zero_add, lenI_sl, N_ref17_Right, v1, L10, L11, L12, L16, L17, td, wd, e256, q1, q2, q3, q4, q5, q6, q7, q8, hf]
    exact ⟨trivial, trivial, .inr ⟨trivial, trivial, trivial⟩⟩
  by_cases q9 : 8 < s.Fini
  · skip
    have hf : rngM s = false := by simp [rngM, q1, q2, q3, q4, q5, q6, q7, q8, q9]
    simp only [fws, seval, cond_true, cond_false, if_true, if_false, unV, isNil, optI, iV, stepI, evalR, IntKind.bits, ini, faI_ptr, Nat.zero_add, lenI_sl, N_ref17_Right, v1, L10, L11, L12, L16, L17, td, wd, e256, q1, q2, q3, q4, q5, q6, q7, q8, q9, hf]
    exact ⟨trivial, trivial, .inr ⟨trivial, trivial, trivial⟩⟩
  have hf : rngM s = true := by simp only [rngM, q1, q2, q3, q4, q5, q6, q7, q8, q9, decide_false, Bool.not_false, Bool.and_self]
  simp only [fws, seval, cond_true, cond_false, if_true, if_false, unV, isNil, optI, iV, stepI, evalR, IntKind.bits, ini, faI_ptr, Nat.zero_add, lenI_sl, N_ref17_Right, v1, L10, L11, L12, L16, L17, td, wd, e256, q1, q2, q3, q4, q5, q6, q7, q8, q9, hf]
  exact ⟨trivial, trivial, .inl ⟨trivial, trivial⟩⟩
theorem f_rright (t : MrF T) (k : OkSp s) : FnV T 9 [spA s] (.bool (rightM s)) := by
  refine FnV_of (pure_sp s) ?_
  rw [Ev_fn t.rR rfl]
  have h1 := k.rl
  have h2 := k.rr
  obtain ⟨pl, pu⟩ := pls_ok k
  have L3 : loadI [spEn s] (.pointer (some ⟨0, 3, none⟩)) = some (slV strE s.Needed, [spEn s]) := sp3 rfl
  have L8 : loadI [spEn s] (.pointer (some ⟨0, 8, none⟩)) = some (slV S_api_RelE s.Rels, [spEn s]) := sp8 rfl
  have L9 : loadI [spEn s] (.pointer (some ⟨0, 9, none⟩)) = some (slV (intE .u64) s.Relr, [spEn s]) := sp9 rfl
  have LA : loadNI [spEn s] 18 p0 = some (spA s, [spEn s]) := spAll rfl
  have wa : IntKind.i64.wrap (((lst s.Rels).length : Int) + ((lst s.Relr).length : Int)) = ((lst s.Rels).length : Int) + ((lst s.Relr).length : Int) := wrapI64 (by omega) (by omega)
  simp only [F_ref17_Right, fws, box_sp, F_ref17_Rightr0b, F_ref17_Rightr0_W, F_ref17_Rightr1b, F_ref17_Rightr2b, F_ref17_Rightr2_W, F_ref17_Rightr3b, F_ref17_Rightr4b, F_ref17_Rightr4_W, F_ref17_Rightr6b, F_ref17_Rightr6_W, F_ref17_Rightr6_g7, F_ref17_Rightr7b, F_ref17_Rightr7_W, F_ref17_Rightr5b, F_ref17_Rightr5_W, F_ref17_Rightl0b, F_ref17_Rightr8b, F_ref17_Rightr9b, F_ref17_Rightr9_W, F_ref17_Rightr10b, F_ref17_Rightr11b, F_ref17_Rightr11_W, F_ref17_Rightr12b, F_ref17_Rightr12_W, F_ref17_Rightr13b, F_ref17_Rightr13_W, F_ref17_Rightr14b, F_ref17_Rightr14_W, F_ref17_Rightr16b, F_ref17_Rightr16_W, F_ref17_Rightr17b, F_ref17_Rightr17_W, F_ref17_Rightr17_g8, F_ref17_Rightr17_g18, F_ref17_Rightr17_g25, F_ref17_Rightr17_g29, F_ref17_Rightr18b, F_ref17_Rightr18_W, F_ref17_Rightr19b, F_ref17_Rightr19_W, F_ref17_Rightr15b, F_ref17_Rightr15_W, F_ref17_Rightl1b, F_ref17_Rightr20b, F_ref17_Rightr20_W, F_ref17_Rightr21b, F_ref17_Rightr21_W, F_ref17_Rightr23b, F_ref17_Rightr23_g7, F_ref17_Rightr23_g10, F_ref17_Rightr23_W, F_ref17_Rightr24b, F_ref17_Rightr24_W, F_ref17_Rightr25b, F_ref17_Rightr25_W, F_ref17_Rightr22b, F_ref17_Rightr22_W, F_ref17_Rightl2b, F_ref17_Rightr26b, F_ref17_Rightr26_W, F_ref17_Rightr27b, F_ref17_Rightr27_W, F_ref17_Rightr29b, F_ref17_Rightr29_W, F_ref17_Rightr30b, F_ref17_Rightr30_W, F_ref17_Rightr31b, F_ref17_Rightr31_W, F_ref17_Rightr32b, F_ref17_Rightr32_W, F_ref17_Rightr34b, F_ref17_Rightr34_W, F_ref17_Rightr35b, F_ref17_Rightr35_W, F_ref17_Rightr33b, F_ref17_Rightr33_W, F_ref17_Rightl4b, F_ref17_Rightl4_W, F_ref17_Rightr28b, F_ref17_Rightr28_W, F_ref17_Rightl3b, F_ref17_Rightr36b, F_ref17_Rightr36_W, F_ref17_Rightcb, F_ref17_Rightc_W]
  simp only [fws, seval, cond_true, cond_false, if_true, if_false, unV, isNil, optI, iV, stepI, evalR, IntKind.bits, ini, F_ref17_Rightr0b, F_ref17_Rightr0_W, F_ref17_Rightr1b, F_ref17_Rightr2b, F_ref17_Rightr2_W, F_ref17_Rightr3b, F_ref17_Rightr4b, F_ref17_Rightr4_W, F_ref17_Rightr6b, F_ref17_Rightr6_W, F_ref17_Rightr6_g7, F_ref17_Rightr7b, F_ref17_Rightr7_W, F_ref17_Rightr5b, F_ref17_Rightr5_W, F_ref17_Rightl0b, F_ref17_Rightr8b, F_ref17_Rightr9b, F_ref17_Rightr9_W, F_ref17_Rightr10b, F_ref17_Rightr11b, F_ref17_Rightr11_W, F_ref17_Rightr12b, F_ref17_Rightr12_W, F_ref17_Rightr13b, F_ref17_Rightr13_W, F_ref17_Rightr14b, F_ref17_Rightr14_W, F_ref17_Rightr16b, F_ref17_Rightr16_W, F_ref17_Rightr17b, F_ref17_Rightr17_W, F_ref17_Rightr17_g8, F_ref17_Rightr17_g18, F_ref17_Rightr17_g25, F_ref17_Rightr17_g29, F_ref17_Rightr18b, F_ref17_Rightr18_W, F_ref17_Rightr19b, F_ref17_Rightr19_W, F_ref17_Rightr15b, F_ref17_Rightr15_W, F_ref17_Rightl1b, F_ref17_Rightr20b, F_ref17_Rightr20_W, F_ref17_Rightr21b, F_ref17_Rightr21_W, F_ref17_Rightr23b, F_ref17_Rightr23_g7, F_ref17_Rightr23_g10, F_ref17_Rightr23_W, F_ref17_Rightr24b, F_ref17_Rightr24_W, F_ref17_Rightr25b, F_ref17_Rightr25_W, F_ref17_Rightr22b, F_ref17_Rightr22_W, F_ref17_Rightl2b, F_ref17_Rightr26b, F_ref17_Rightr26_W, F_ref17_Rightr27b, F_ref17_Rightr27_W, F_ref17_Rightr29b, F_ref17_Rightr29_W, F_ref17_Rightr30b, F_ref17_Rightr30_W, F_ref17_Rightr31b, F_ref17_Rightr31_W, F_ref17_Rightr32b, F_ref17_Rightr32_W, F_ref17_Rightr34b, F_ref17_Rightr34_W, F_ref17_Rightr35b, F_ref17_Rightr35_W, F_ref17_Rightr33b, F_ref17_Rightr33_W, F_ref17_Rightl4b, F_ref17_Rightl4_W, F_ref17_Rightr28b, F_ref17_Rightr28_W, F_ref17_Rightl3b, F_ref17_Rightr36b, F_ref17_Rightr36_W, F_ref17_Rightcb, F_ref17_Rightc_W]
  rw [← w_seq]
  refine W.mono (st_rnames t k ?_) fun x e h ⟨hh, g1, hx⟩ => ?_
  · (first | assumption | rfl)
  subst hh
  unfold rightM
  rcases hx with ⟨rfl, hx⟩ | ⟨rfl, hx, hx2⟩
  · rw [hx, seqQ_normal]
    simp only [fws, seval, cond_true, cond_false, if_true, if_false, unV, isNil, optI, iV, stepI, evalR, IntKind.bits, ini, F_ref17_Rightr0b, F_ref17_Rightr0_W, F_ref17_Rightr1b, F_ref17_Rightr1_W, F_ref17_Rightr1_g3, F_ref17_Rightr1_g8, F_ref17_Rightr1_g14, F_ref17_Rightr1_g20, F_ref17_Rightr2b, F_ref17_Rightr2_W, F_ref17_Rightr3b, F_ref17_Rightr3_W, F_ref17_Rightr4b, F_ref17_Rightr4_W, F_ref17_Rightr6b, F_ref17_Rightr6_W, F_ref17_Rightr6_g7, F_ref17_Rightr7b, F_ref17_Rightr7_W, F_ref17_Rightr5b, F_ref17_Rightr5_W, F_ref17_Rightl0b, F_ref17_Rightr8b, F_ref17_Rightr9b, F_ref17_Rightr9_W, F_ref17_Rightr10b, F_ref17_Rightr11b, F_ref17_Rightr11_W, F_ref17_Rightr12b, F_ref17_Rightr12_W, F_ref17_Rightr13b, F_ref17_Rightr13_W, F_ref17_Rightr14b, F_ref17_Rightr14_W, F_ref17_Rightr16b, F_ref17_Rightr16_W, F_ref17_Rightr17b, F_ref17_Rightr17_W, F_ref17_Rightr17_g8, F_ref17_Rightr17_g18, F_ref17_Rightr17_g25, F_ref17_Rightr17_g29, F_ref17_Rightr18b, F_ref17_Rightr18_W, F_ref17_Rightr19b, F_ref17_Rightr19_W, F_ref17_Rightr15b, F_ref17_Rightr15_W, F_ref17_Rightl1b, F_ref17_Rightr20b, F_ref17_Rightr20_W, F_ref17_Rightr21b, F_ref17_Rightr21_W, F_ref17_Rightr23b, F_ref17_Rightr23_g7, F_ref17_Rightr23_g10, F_ref17_Rightr23_W, F_ref17_Rightr24b, F_ref17_Rightr24_W, F_ref17_Rightr25b, F_ref17_Rightr25_W, F_ref17_Rightr22b, F_ref17_Rightr22_W, F_ref17_Rightl2b, F_ref17_Rightr26b, F_ref17_Rightr26_W, F_ref17_Rightr27b, F_ref17_Rightr27_W, F_ref17_Rightr29b, F_ref17_Rightr29_W, F_ref17_Rightr30b, F_ref17_Rightr30_W, F_ref17_Rightr31b, F_ref17_Rightr31_W, F_ref17_Rightr32b, F_ref17_Rightr32_W, F_ref17_Rightr34b, F_ref17_Rightr34_W, F_ref17_Rightr35b, F_ref17_Rightr35_W, F_ref17_Rightr33b, F_ref17_Rightr33_W, F_ref17_Rightl4b, F_ref17_Rightl4_W, F_ref17_Rightr28b, F_ref17_Rightr28_W, F_ref17_Rightl3b, F_ref17_Rightr36b, F_ref17_Rightr36_W, F_ref17_Rightcb, F_ref17_Rightc_W]
    refine W.mono (loop_rneeded t k (lst s.Needed) 0 _ rfl ?_ ?_) fun x e h ⟨hh, hx⟩ => ?_
    · exact g1
    · (first | assumption | rfl)
    subst hh
    rcases hx with ⟨rfl, hx, g1⟩ | ⟨rfl, hx, hx2⟩
    · rw [hx]
      simp only [fws, seval, cond_true, cond_false, if_true, if_false, unV, isNil, optI, iV, stepI, evalR, IntKind.bits, ini, F_ref17_Rightr0b, F_ref17_Rightr0_W, F_ref17_Rightr1b, F_ref17_Rightr1_W, F_ref17_Rightr1_g3, F_ref17_Rightr1_g8, F_ref17_Rightr1_g14, F_ref17_Rightr1_g20, F_ref17_Rightr2b, F_ref17_Rightr2_W, F_ref17_Rightr3b, F_ref17_Rightr3_W, F_ref17_Rightr4b, F_ref17_Rightr4_W, F_ref17_Rightr6b, F_ref17_Rightr6_W, F_ref17_Rightr6_g7, F_ref17_Rightr7b, F_ref17_Rightr7_W, F_ref17_Rightr5b, F_ref17_Rightr5_W, F_ref17_Rightl0b, F_ref17_Rightr8b, F_ref17_Rightr9b, F_ref17_Rightr9_W, F_ref17_Rightr10b, F_ref17_Rightr11b, F_ref17_Rightr11_W, F_ref17_Rightr12b, F_ref17_Rightr12_W, F_ref17_Rightr13b, F_ref17_Rightr13_W, F_ref17_Rightr14b, F_ref17_Rightr14_W, F_ref17_Rightr16b, F_ref17_Rightr16_W, F_ref17_Rightr17b, F_ref17_Rightr17_W, F_ref17_Rightr17_g8, F_ref17_Rightr17_g18, F_ref17_Rightr17_g25, F_ref17_Rightr17_g29, F_ref17_Rightr18b, F_ref17_Rightr18_W, F_ref17_Rightr19b, F_ref17_Rightr19_W, F_ref17_Rightr15b, F_ref17_Rightr15_W, F_ref17_Rightl1b, F_ref17_Rightr20b, F_ref17_Rightr20_W, F_ref17_Rightr21b, F_ref17_Rightr21_W, F_ref17_Rightr23b, F_ref17_Rightr23_g7, F_ref17_Rightr23_g10, F_ref17_Rightr23_W, F_ref17_Rightr24b, F_ref17_Rightr24_W, F_ref17_Rightr25b, F_ref17_Rightr25_W, F_ref17_Rightr22b, F_ref17_Rightr22_W, F_ref17_Rightl2b, F_ref17_Rightr26b, F_ref17_Rightr26_W, F_ref17_Rightr27b, F_ref17_Rightr27_W, F_ref17_Rightr29b, F_ref17_Rightr29_W, F_ref17_Rightr30b, F_ref17_Rightr30_W, F_ref17_Rightr31b, F_ref17_Rightr31_W, F_ref17_Rightr32b, F_ref17_Rightr32_W, F_ref17_Rightr34b, F_ref17_Rightr34_W, F_ref17_Rightr35b, F_ref17_Rightr35_W, F_ref17_Rightr33b, F_ref17_Rightr33_W, F_ref17_Rightl4b, F_ref17_Rightl4_W, F_ref17_Rightr28b, F_ref17_Rightr28_W, F_ref17_Rightl3b, F_ref17_Rightr36b, F_ref17_Rightr36_W, F_ref17_Rightcb, F_ref17_Rightc_W]
      rw [← w_seq]
      refine W.mono (st_rrng k.da g1) fun x e h ⟨hh, g1, hx⟩ => ?_
      subst hh
      rcases hx with ⟨rfl, hx⟩ | ⟨rfl, hx, hx2⟩
      · obtain ⟨z0, z1⟩ := rng_of hx
        rw [hx, seqQ_normal]
        have c1 := f_rsyms t k z0 z1
        cases hs : symsM s with
        | false =>
          rw [hs] at c1
          simp only [fws, seval, cond_true, cond_false, if_true, if_false, unV, isNil, optI, iV, stepI, evalR, IntKind.bits, ini, F_ref17_Rightr0b, F_ref17_Rightr0_W, F_ref17_Rightr1b, F_ref17_Rightr1_W, F_ref17_Rightr1_g3, F_ref17_Rightr1_g8, F_ref17_Rightr1_g14, F_ref17_Rightr1_g20, F_ref17_Rightr2b, F_ref17_Rightr2_W, F_ref17_Rightr3b, F_ref17_Rightr3_W, F_ref17_Rightr4b, F_ref17_Rightr4_W, F_ref17_Rightr6b, F_ref17_Rightr6_W, F_ref17_Rightr6_g7, F_ref17_Rightr7b, F_ref17_Rightr7_W, F_ref17_Rightr5b, F_ref17_Rightr5_W, F_ref17_Rightl0b, F_ref17_Rightr8b, F_ref17_Rightr9b, F_ref17_Rightr9_W, F_ref17_Rightr10b, F_ref17_Rightr10_W, F_ref17_Rightr10_g3, F_ref17_Rightr11b, F_ref17_Rightr11_W, F_ref17_Rightr12b, F_ref17_Rightr12_W, F_ref17_Rightr13b, F_ref17_Rightr13_W, F_ref17_Rightr14b, F_ref17_Rightr14_W, F_ref17_Rightr16b, F_ref17_Rightr16_W, F_ref17_Rightr17b, F_ref17_Rightr17_W, F_ref17_Rightr17_g8, F_ref17_Rightr17_g18, F_ref17_Rightr17_g25, F_ref17_Rightr17_g29, F_ref17_Rightr18b, F_ref17_Rightr18_W, F_ref17_Rightr19b, F_ref17_Rightr19_W, F_ref17_Rightr15b, F_ref17_Rightr15_W, F_ref17_Rightl1b, F_ref17_Rightr20b, F_ref17_Rightr20_W, F_ref17_Rightr21b, F_ref17_Rightr21_W, F_ref17_Rightr23b, F_ref17_Rightr23_g7, F_ref17_Rightr23_g10, F_ref17_Rightr23_W, F_ref17_Rightr24b, F_ref17_Rightr24_W, F_ref17_Rightr25b, F_ref17_Rightr25_W, F_ref17_Rightr22b, F_ref17_Rightr22_W, F_ref17_Rightl2b, F_ref17_Rightr26b, F_ref17_Rightr26_W, F_ref17_Rightr27b, F_ref17_Rightr27_W, F_ref17_Rightr29b, F_ref17_Rightr29_W, F_ref17_Rightr30b, F_ref17_Rightr30_W, F_ref17_Rightr31b, F_ref17_Rightr31_W, F_ref17_Rightr32b, F_ref17_Rightr32_W, F_ref17_Rightr34b, F_ref17_Rightr34_W, F_ref17_Rightr35b, F_ref17_Rightr35_W, F_ref17_Rightr33b, F_ref17_Rightr33_W, F_ref17_Rightl4b, F_ref17_Rightl4_W, F_ref17_Rightr28b, F_ref17_Rightr28_W, F_ref17_Rightl3b, F_ref17_Rightr36b, F_ref17_Rightr36_W, F_ref17_Rightcb, F_ref17_Rightc_W, g1, LA, CC_of c1]
          rfl
        | true =>
          rw [hs] at c1
          unfold relsM
          by_cases a1 : (512 : Int) < ((lst s.Rels).length : Int) + ((lst s.Relr).length : Int)
          · have e1 : decide (512 < (lst s.Rels).length + (lst s.Relr).length) = true := decide_eq_true (by omega)
            simp only [fws, seval, cond_true, cond_false, if_true, if_false, unV, isNil, optI, iV, stepI, evalR, IntKind.bits, ini, faI_ptr, Nat.zero_add, lenI_sl, F_ref17_Rightr0b, F_ref17_Rightr0_W, F_ref17_Rightr1b, F_ref17_Rightr1_W, F_ref17_Rightr1_g3, F_ref17_Rightr1_g8, F_ref17_Rightr1_g14, F_ref17_Rightr1_g20, F_ref17_Rightr2b, F_ref17_Rightr2_W, F_ref17_Rightr3b, F_ref17_Rightr3_W, F_ref17_Rightr4b, F_ref17_Rightr4_W, F_ref17_Rightr6b, F_ref17_Rightr6_W, F_ref17_Rightr6_g7, F_ref17_Rightr7b, F_ref17_Rightr7_W, F_ref17_Rightr5b, F_ref17_Rightr5_W, F_ref17_Rightl0b, F_ref17_Rightr8b, F_ref17_Rightr9b, F_ref17_Rightr9_W, F_ref17_Rightr10b, F_ref17_Rightr10_W, F_ref17_Rightr10_g3, F_ref17_Rightr11b, F_ref17_Rightr11_W, F_ref17_Rightr12b, F_ref17_Rightr12_W, F_ref17_Rightr13b, F_ref17_Rightr13_W, F_ref17_Rightr14b, F_ref17_Rightr14_W, F_ref17_Rightr16b, F_ref17_Rightr16_W, F_ref17_Rightr17b, F_ref17_Rightr17_W, F_ref17_Rightr17_g8, F_ref17_Rightr17_g18, F_ref17_Rightr17_g25, F_ref17_Rightr17_g29, F_ref17_Rightr18b, F_ref17_Rightr18_W, F_ref17_Rightr19b, F_ref17_Rightr19_W, F_ref17_Rightr15b, F_ref17_Rightr15_W, F_ref17_Rightl1b, F_ref17_Rightr20b, F_ref17_Rightr20_W, F_ref17_Rightr21b, F_ref17_Rightr21_W, F_ref17_Rightr23b, F_ref17_Rightr23_g7, F_ref17_Rightr23_g10, F_ref17_Rightr23_W, F_ref17_Rightr24b, F_ref17_Rightr24_W, F_ref17_Rightr25b, F_ref17_Rightr25_W, F_ref17_Rightr22b, F_ref17_Rightr22_W, F_ref17_Rightl2b, F_ref17_Rightr26b, F_ref17_Rightr26_W, F_ref17_Rightr27b, F_ref17_Rightr27_W, F_ref17_Rightr29b, F_ref17_Rightr29_W, F_ref17_Rightr30b, F_ref17_Rightr30_W, F_ref17_Rightr31b, F_ref17_Rightr31_W, F_ref17_Rightr32b, F_ref17_Rightr32_W, F_ref17_Rightr34b, F_ref17_Rightr34_W, F_ref17_Rightr35b, F_ref17_Rightr35_W, F_ref17_Rightr33b, F_ref17_Rightr33_W, F_ref17_Rightl4b, F_ref17_Rightl4_W, F_ref17_Rightr28b, F_ref17_Rightr28_W, F_ref17_Rightl3b, F_ref17_Rightr36b, F_ref17_Rightr36_W, F_ref17_Rightcb, F_ref17_Rightc_W, g1, LA, CC_of c1, L8, L9, wa, a1, e1]
            rfl
          have e1 : decide (512 < (lst s.Rels).length + (lst s.Relr).length) = false := decide_eq_false (by omega)
          simp only [fws, seval, cond_true, cond_false, if_true, if_false, unV, isNil, optI, iV, stepI, evalR, IntKind.bits, ini, faI_ptr, Nat.zero_add, lenI_sl, F_ref17_Rightr0b, F_ref17_Rightr0_W, F_ref17_Rightr1b, F_ref17_Rightr1_W, F_ref17_Rightr1_g3, F_ref17_Rightr1_g8, F_ref17_Rightr1_g14, F_ref17_Rightr1_g20, F_ref17_Rightr2b, F_ref17_Rightr2_W, F_ref17_Rightr3b, F_ref17_Rightr3_W, F_ref17_Rightr4b, F_ref17_Rightr4_W, F_ref17_Rightr6b, F_ref17_Rightr6_W, F_ref17_Rightr6_g7, F_ref17_Rightr7b, F_ref17_Rightr7_W, F_ref17_Rightr5b, F_ref17_Rightr5_W, F_ref17_Rightl0b, F_ref17_Rightr8b, F_ref17_Rightr9b, F_ref17_Rightr9_W, F_ref17_Rightr10b, F_ref17_Rightr10_W, F_ref17_Rightr10_g3, F_ref17_Rightr11b, F_ref17_Rightr11_W, F_ref17_Rightr12b, F_ref17_Rightr12_W, F_ref17_Rightr13b, F_ref17_Rightr13_W, F_ref17_Rightr14b, F_ref17_Rightr14_W, F_ref17_Rightr16b, F_ref17_Rightr16_W, F_ref17_Rightr17b, F_ref17_Rightr17_W, F_ref17_Rightr17_g8, F_ref17_Rightr17_g18, F_ref17_Rightr17_g25, F_ref17_Rightr17_g29, F_ref17_Rightr18b, F_ref17_Rightr18_W, F_ref17_Rightr19b, F_ref17_Rightr19_W, F_ref17_Rightr15b, F_ref17_Rightr15_W, F_ref17_Rightl1b, F_ref17_Rightr20b, F_ref17_Rightr20_W, F_ref17_Rightr21b, F_ref17_Rightr21_W, F_ref17_Rightr23b, F_ref17_Rightr23_g7, F_ref17_Rightr23_g10, F_ref17_Rightr23_W, F_ref17_Rightr24b, F_ref17_Rightr24_W, F_ref17_Rightr25b, F_ref17_Rightr25_W, F_ref17_Rightr22b, F_ref17_Rightr22_W, F_ref17_Rightl2b, F_ref17_Rightr26b, F_ref17_Rightr26_W, F_ref17_Rightr27b, F_ref17_Rightr27_W, F_ref17_Rightr29b, F_ref17_Rightr29_W, F_ref17_Rightr30b, F_ref17_Rightr30_W, F_ref17_Rightr31b, F_ref17_Rightr31_W, F_ref17_Rightr32b, F_ref17_Rightr32_W, F_ref17_Rightr34b, F_ref17_Rightr34_W, F_ref17_Rightr35b, F_ref17_Rightr35_W, F_ref17_Rightr33b, F_ref17_Rightr33_W, F_ref17_Rightl4b, F_ref17_Rightl4_W, F_ref17_Rightr28b, F_ref17_Rightr28_W, F_ref17_Rightl3b, F_ref17_Rightr36b, F_ref17_Rightr36_W, F_ref17_Rightcb, F_ref17_Rightc_W, g1, LA, CC_of c1, L8, L9, wa, a1, e1]
          refine W.mono (loop_rrels t k (lst s.Rels) 0 [] (.slice none 0 0) _ _ rfl ⟨rfl, Own.nil, by simp [blkV]⟩ (by simp) ?_ ?_ ?_) fun z e h hz => ?_
          · exact g1
          · (first | assumption | rfl)
          · (first | assumption | rfl)
          rcases hz with ⟨rfl, hz, g1, gS⟩ | ⟨rfl, hz, hz2⟩
          · rw [hz]
            simp only [fws, seval, cond_true, cond_false, if_true, if_false, unV, isNil, optI, iV, stepI, evalR, IntKind.bits, ini, F_ref17_Rightr0b, F_ref17_Rightr0_W, F_ref17_Rightr1b, F_ref17_Rightr1_W, F_ref17_Rightr1_g3, F_ref17_Rightr1_g8, F_ref17_Rightr1_g14, F_ref17_Rightr1_g20, F_ref17_Rightr2b, F_ref17_Rightr2_W, F_ref17_Rightr3b, F_ref17_Rightr3_W, F_ref17_Rightr4b, F_ref17_Rightr4_W, F_ref17_Rightr6b, F_ref17_Rightr6_W, F_ref17_Rightr6_g7, F_ref17_Rightr7b, F_ref17_Rightr7_W, F_ref17_Rightr5b, F_ref17_Rightr5_W, F_ref17_Rightl0b, F_ref17_Rightr8b, F_ref17_Rightr9b, F_ref17_Rightr9_W, F_ref17_Rightr10b, F_ref17_Rightr10_W, F_ref17_Rightr10_g3, F_ref17_Rightr11b, F_ref17_Rightr11_W, F_ref17_Rightr12b, F_ref17_Rightr12_W, F_ref17_Rightr13b, F_ref17_Rightr13_W, F_ref17_Rightr14b, F_ref17_Rightr14_W, F_ref17_Rightr16b, F_ref17_Rightr16_W, F_ref17_Rightr17b, F_ref17_Rightr17_W, F_ref17_Rightr17_g8, F_ref17_Rightr17_g18, F_ref17_Rightr17_g25, F_ref17_Rightr17_g29, F_ref17_Rightr18b, F_ref17_Rightr18_W, F_ref17_Rightr19b, F_ref17_Rightr19_W, F_ref17_Rightr15b, F_ref17_Rightr15_W, F_ref17_Rightl1b, F_ref17_Rightr20b, F_ref17_Rightr20_W, F_ref17_Rightr21b, F_ref17_Rightr21_W, F_ref17_Rightr23b, F_ref17_Rightr23_g7, F_ref17_Rightr23_g10, F_ref17_Rightr23_W, F_ref17_Rightr24b, F_ref17_Rightr24_W, F_ref17_Rightr25b, F_ref17_Rightr25_W, F_ref17_Rightr22b, F_ref17_Rightr22_W, F_ref17_Rightl2b, F_ref17_Rightr26b, F_ref17_Rightr26_W, F_ref17_Rightr27b, F_ref17_Rightr27_W, F_ref17_Rightr29b, F_ref17_Rightr29_W, F_ref17_Rightr30b, F_ref17_Rightr30_W, F_ref17_Rightr31b, F_ref17_Rightr31_W, F_ref17_Rightr32b, F_ref17_Rightr32_W, F_ref17_Rightr34b, F_ref17_Rightr34_W, F_ref17_Rightr35b, F_ref17_Rightr35_W, F_ref17_Rightr33b, F_ref17_Rightr33_W, F_ref17_Rightl4b, F_ref17_Rightl4_W, F_ref17_Rightr28b, F_ref17_Rightr28_W, F_ref17_Rightl3b, F_ref17_Rightr36b, F_ref17_Rightr36_W, F_ref17_Rightcb, F_ref17_Rightc_W]
            refine W.mono (loop_rrelr k (lst s.Relr) 0 _ (e 4) h _ rfl gS (by simp; omega) ?_ ?_ ?_) fun z e' h' hz => ?_
            · exact g1
            · (first | assumption | rfl)
            · (first | assumption | rfl)
            rcases hz with ⟨rfl, hz, g1', gS'⟩ | ⟨rfl, hz, hz2⟩
            · rw [hz]
              simp only [fws, seval, cond_true, cond_false, if_true, if_false, unV, isNil, optI, iV, stepI, evalR, IntKind.bits, ini, F_ref17_Rightr0b, F_ref17_Rightr0_W, F_ref17_Rightr1b, F_ref17_Rightr1_W, F_ref17_Rightr1_g3, F_ref17_Rightr1_g8, F_ref17_Rightr1_g14, F_ref17_Rightr1_g20, F_ref17_Rightr2b, F_ref17_Rightr2_W, F_ref17_Rightr3b, F_ref17_Rightr3_W, F_ref17_Rightr4b, F_ref17_Rightr4_W, F_ref17_Rightr6b, F_ref17_Rightr6_W, F_ref17_Rightr6_g7, F_ref17_Rightr7b, F_ref17_Rightr7_W, F_ref17_Rightr5b, F_ref17_Rightr5_W, F_ref17_Rightl0b, F_ref17_Rightr8b, F_ref17_Rightr9b, F_ref17_Rightr9_W, F_ref17_Rightr10b, F_ref17_Rightr10_W, F_ref17_Rightr10_g3, F_ref17_Rightr11b, F_ref17_Rightr11_W, F_ref17_Rightr12b, F_ref17_Rightr12_W, F_ref17_Rightr13b, F_ref17_Rightr13_W, F_ref17_Rightr14b, F_ref17_Rightr14_W, F_ref17_Rightr16b, F_ref17_Rightr16_W, F_ref17_Rightr17b, F_ref17_Rightr17_W, F_ref17_Rightr17_g8, F_ref17_Rightr17_g18, F_ref17_Rightr17_g25, F_ref17_Rightr17_g29, F_ref17_Rightr18b, F_ref17_Rightr18_W, F_ref17_Rightr19b, F_ref17_Rightr19_W, F_ref17_Rightr15b, F_ref17_Rightr15_W, F_ref17_Rightl1b, F_ref17_Rightr20b, F_ref17_Rightr20_W, F_ref17_Rightr21b, F_ref17_Rightr21_W, F_ref17_Rightr23b, F_ref17_Rightr23_g7, F_ref17_Rightr23_g10, F_ref17_Rightr23_W, F_ref17_Rightr24b, F_ref17_Rightr24_W, F_ref17_Rightr25b, F_ref17_Rightr25_W, F_ref17_Rightr22b, F_ref17_Rightr22_W, F_ref17_Rightl2b, F_ref17_Rightr26b, F_ref17_Rightr26_W, F_ref17_Rightr27b, F_ref17_Rightr27_W, F_ref17_Rightr29b, F_ref17_Rightr29_W, F_ref17_Rightr30b, F_ref17_Rightr30_W, F_ref17_Rightr31b, F_ref17_Rightr31_W, F_ref17_Rightr32b, F_ref17_Rightr32_W, F_ref17_Rightr34b, F_ref17_Rightr34_W, F_ref17_Rightr35b, F_ref17_Rightr35_W, F_ref17_Rightr33b, F_ref17_Rightr33_W, F_ref17_Rightl4b, F_ref17_Rightl4_W, F_ref17_Rightr28b, F_ref17_Rightr28_W, F_ref17_Rightl3b, F_ref17_Rightr36b, F_ref17_Rightr36_W, F_ref17_Rightcb, F_ref17_Rightc_W]
              refine W.mono (loop_rplaces t pl pu k.da z0 z1 gS' (plsM s) 0 _ rfl ?_ ?_ ?_) fun z e h hz => ?_
              · exact g1'
              · (first | assumption | rfl)
              · (first | assumption | rfl)
              rcases hz with ⟨rfl, hz⟩ | ⟨rfl, hz, hz2⟩
              · rw [hz]
                simp only [fws, seval, cond_true, cond_false, if_true, if_false, unV, isNil, optI, iV, stepI, evalR, IntKind.bits, ini, N_ref17_Right]
                rfl
              · rw [hz2]
                simp only [fws, seval, cond_true, cond_false, if_true, if_false, unV, isNil, optI, iV, stepI, evalR, IntKind.bits, ini, N_ref17_Right, hz]
                rfl
            · rw [hz2]
              simp only [fws, seval, cond_true, cond_false, if_true, if_false, unV, isNil, optI, iV, stepI, evalR, IntKind.bits, ini, N_ref17_Right, hz]
              rfl
          · rw [hz2]
            simp only [fws, seval, cond_true, cond_false, if_true, if_false, unV, isNil, optI, iV, stepI, evalR, IntKind.bits, ini, N_ref17_Right, hz]
            rfl
      · rw [hx2]
        simp only [fws, seval, cond_true, cond_false, if_true, if_false, unV, isNil, optI, iV, stepI, evalR, IntKind.bits, ini, N_ref17_Right, hx]
        rfl
    · rw [hx2]
      simp only [fws, seval, cond_true, cond_false, if_true, if_false, unV, isNil, optI, iV, stepI, evalR, IntKind.bits, ini, N_ref17_Right, hx]
      rfl
  · rw [hx2]
    simp only [fws, seval, cond_true, cond_false, if_true, if_false, unV, isNil, optI, iV, stepI, evalR, IntKind.bits, ini, N_ref17_Right, hx]
    rfl
/-! ### the law -/
def greatM (s : S_api_Spec) : Bool := decide ((5000 : Int) < (lst s.Data).length) || (decide ((300 : Int) < (lst s.Syms).length) || (decide ((600 : Int) < (lst s.Rels).length) || (decide ((600 : Int) < (lst s.Relr).length) || decide ((100 : Int) < (lst s.Needed).length))))
theorem f_mgreat (t : MrF T) (s : S_api_Spec) : FnV T 7 [spA s] (.bool (greatM s)) := by
  refine FnV_of (pure_sp s) ?_
  rw [Ev_fn t.gr rfl]
  have L3 : loadI [spEn s] (.pointer (some ⟨0, 3, none⟩)) = some (slV strE s.Needed, [spEn s]) := sp3 rfl
  have L7 : loadI [spEn s] (.pointer (some ⟨0, 7, none⟩)) = some (slV S_api_SymE s.Syms, [spEn s]) := sp7 rfl
  have L8 : loadI [spEn s] (.pointer (some ⟨0, 8, none⟩)) = some (slV S_api_RelE s.Rels, [spEn s]) := sp8 rfl
  have L9 : loadI [spEn s] (.pointer (some ⟨0, 9, none⟩)) = some (slV (intE .u64) s.Relr, [spEn s]) := sp9 rfl
  have L10 : loadI [spEn s] (.pointer (some ⟨0, 10, none⟩)) = some (slV byteE s.Data, [spEn s]) := sp10 rfl
  simp only [F_law17_great, fws, box_sp, F_law17_greatr0b, F_law17_greatr0_W, F_law17_greatr1b, F_law17_greatcb, F_law17_greatc_W]
  unfold greatM
  by_cases q1 : (5000 : Int) < (lst s.Data).length
  · simp only [fws, seval, cond_true, cond_false, if_true, if_false, unV, isNil, optI, iV, stepI, evalR, IntKind.bits, ini, faI_ptr, Nat.zero_add, lenI_sl, N_law17_great, L10, L7, L8, L9, L3, q1]; rfl
  by_cases q2 : (300 : Int) < (lst s.Syms).length
  · simp only [fws, seval, cond_true, cond_false, if_true, if_false, unV, isNil, optI, iV, stepI, evalR, IntKind.bits, ini, faI_ptr, Nat.zero_add, lenI_sl, N_law17_great, L10, L7, L8, L9, L3, q1, q2]; rfl
  by_cases q3 : (600 : Int) < (lst s.Rels).length
  · simp only [fws, seval, cond_true, cond_false, if_true, if_false, unV, isNil, optI, iV, stepI, evalR, IntKind.bits, ini, faI_ptr, Nat.zero_add, lenI_sl, N_law17_great, L10, L7, L8, L9, L3, q1, q2, q3]; rfl
  by_cases q4 : (600 : Int) < (lst s.Relr).length
  · simp only [fws, seval, cond_true, cond_false, if_true, if_false, unV, isNil, optI, iV, stepI, evalR, IntKind.bits, ini, faI_ptr, Nat.zero_add, lenI_sl, N_law17_great, L10, L7, L8, L9, L3, q1, q2, q3, q4]; rfl
  by_cases q5 : (100 : Int) < (lst s.Needed).length
  · simp only [fws, seval, cond_true, cond_false, if_true, if_false, unV, isNil, optI, iV, stepI, evalR, IntKind.bits, ini, faI_ptr, Nat.zero_add, lenI_sl, N_law17_great, L10, L7, L8, L9, L3, q1, q2, q3, q4, q5]; rfl
  simp only [fws, seval, cond_true, cond_false, if_true, if_false, unV, isNil, optI, iV, stepI, evalR, IntKind.bits, ini, faI_ptr, Nat.zero_add, lenI_sl, N_law17_great, L10, L7, L8, L9, L3, q1, q2, q3, q4, q5]; rfl
theorem wf_u16 {n : Int} (h : (Lit.int .u16 n).wf = true) : 0 ≤ n ∧ n < 65536 := by
  simp [Lit.wf, IntKind.min, IntKind.max, IntKind.bits, IntKind.signed] at h
  omega
theorem wf_u32 {n : Int} (h : (Lit.int .u32 n).wf = true) : 0 ≤ n ∧ n < 4294967296 := by
  simp [Lit.wf, IntKind.min, IntKind.max, IntKind.bits, IntKind.signed] at h
  omega
theorem ok_sp {s : S_api_Spec} (w : s.wf) (h : greatM s = false) : OkSp s := by
  obtain ⟨w1, w2, w3, w4, _, _, _, w8, w9, w10, w11, _⟩ := w
  unfold greatM at h
  simp only [Bool.or_eq_false_iff, decide_eq_false_iff_not] at h
  obtain ⟨h1, h2, h3, h4, h5⟩ := h
  obtain ⟨m0, m1⟩ := wf_u16 w1
  exact ⟨m0, m1, w2, w3, by omega, w4.2, by omega, fun x hx => ⟨(w8.2 x hx).1, (w8.2 x hx).2.1⟩, by omega, fun x hx => ⟨u64_of (w9.2 x hx).1, wf_u32 (w9.2 x hx).2.1, wf_u32 (w9.2 x hx).2.2.1⟩, by omega, fun x hx => u64_of (w10.2 x hx), by omega⟩
theorem law_MakerRight (t : MrF T) (hl : T 3 = some F_law17_MakerRight) (ha : FnV T 10 [] (.bool true)) (s : S_api_Spec) (w : s.wf) : Ev T 3 [spA s] [] fun v _ => v = .bool true := by
  rw [Ev_fn hl rfl]
  have c0 := f_mgreat t s
  have LA : loadNI [spEn s] 18 p0 = some (spA s, [spEn s]) := spAll rfl
  simp only [F_law17_MakerRight, fws, box_sp, F_law17_MakerRightr0b, F_law17_MakerRightr0_W, F_law17_MakerRightr1b, F_law17_MakerRightcb, F_law17_MakerRightc_W]
  cases hg : greatM s with
  | true =>
    rw [hg] at c0
    simp only [fws, seval, cond_true, cond_false, if_true, if_false, unV, isNil, optI, iV, stepI, evalR, IntKind.bits, ini, N_law17_MakerRight, LA, CC_of c0]
  | false =>
    rw [hg] at c0
    have k := ok_sp w hg
    have c1 := f_mright t k
    have c2 := f_rright t k
    simp only [fws, seval, cond_true, cond_false, if_true, if_false, unV, isNil, optI, iV, stepI, evalR, IntKind.bits, ini, N_law17_MakerRight, LA, CC_of c0, CC_of c1, CC_of c2, CC_of ha]
theorem mr_f : MrF TIm := by constructor <;> first | rfl | (constructor <;> rfl)
end
theorem makerRight_t (s : S_api_Spec) (w : s.wf) : Ev TIm 3 [.agg (S_api_SpecE.e s).toArray] [] fun v _ => v = .bool true := law_MakerRight mr_f rfl mr_alive s w
end Go.Proofs.YtdjgknlhpdnhbaaGreat
