/- The lines of a dynamic section: the writer's. -/
import Derived.Test.YtdajdgjacajemaaGreatDB
namespace Go.Proofs.YtdajdgjacajemaaGreat
open Go Fw
set_option linter.unusedSimpArgs false
set_option linter.unusedVariables false
set_option linter.unusedSectionVars false

abbrev wSoname : List UInt8 := [115, 111, 110, 97, 109, 101]
abbrev wRunpath : List UInt8 := [114, 117, 110, 112, 97, 116, 104]
abbrev wNeeded : List UInt8 := [110, 101, 101, 100, 101, 100]
abbrev wFlags : List UInt8 := [102, 108, 97, 103, 115]
abbrev wSymbolic : List UInt8 := [115, 121, 109, 98, 111, 108, 105, 99]
abbrev wGlobal : List UInt8 := [103, 108, 111, 98, 97, 108]
abbrev wNodelete : List UInt8 := [110, 111, 100, 101, 108, 101, 116, 101]
abbrev AR := List UInt8 × S_api_Area
def arE : Enc AR where
  e q := [strV q.1, .bool q.2.Has, .int .u64 q.2.At, .int .u64 q.2.Size]
  u := 4
  d := 0
  hu _ := rfl
  hp k q := by simp [pure_string, pure_bool, pure_int]
  ho _ := rfl
theorem arE_e {q : AR} : arE.e q = [strV q.1, .bool q.2.Has, .int .u64 q.2.At, .int .u64 q.2.Size] := rfl
def areas (d : S_api_Dyn) : List AR := [([114, 101, 108], d.Rel), ([114, 101, 108, 97], d.Rela), ([112, 108, 116], d.Plt), ([114, 101, 108, 114], d.Relr), ([112, 97, 99, 107, 101, 100], d.Packed), ([105, 110, 105, 116], d.Init), ([102, 105, 110, 105], d.Fini)]
structure OkA (x : S_api_Area) : Prop where
  a : isU 18446744073709551616 x.At
  s : isU 18446744073709551616 x.Size
def areaM (q : AR) : List UInt8 := if q.2.Has = true then lineM [q.1, hexI q.2.At, hexI q.2.Size] else []
def sonM (d : S_api_Dyn) : List UInt8 := if d.Soname = [] then [] else lineM [wSoname, d.Soname]
def runM (d : S_api_Dyn) : List UInt8 := if d.Runpath = [] then [] else lineM [wRunpath, d.Runpath]
def needM (d : S_api_Dyn) : List UInt8 := (lst d.Needed).flatMap fun n => lineM [wNeeded, n]
def flagM (d : S_api_Dyn) : List UInt8 := if (d.Symbolic || d.Global || d.Nodelete) = true then lineM [wFlags, whenM d.Symbolic wSymbolic, whenM d.Global wGlobal, whenM d.Nodelete wNodelete] else []
def dynM (d : S_api_Dyn) : List UInt8 := sonM d ++ runM d ++ needM d ++ flagM d ++ (areas d).flatMap areaM
structure OkD (d : S_api_Dyn) : Prop where
  n : (lst d.Needed).length ≤ 1000000
  ar : ∀ q ∈ areas d, OkA q.2
abbrev dEn (d : S_api_Dyn) : Entry := ⟨0, .cells false 40 (S_api_DynE.e d)⟩
/-- The section lies in the first entry, the writer in the second. -/
def DS (d : S_api_Dyn) (l : List UInt8) (e : Env) (h : Heap) : Prop := e 1 = .pointer (some ⟨0, 0, none⟩) ∧ e 3 = ptrS 1 0 ∧ ∃ bb, Bd h 1 0 TW l bb ∧ h[0]? = some (dEn d) ∧ bb ≠ some 0
section
variable {T : Tab} {d : S_api_Dyn} {l : List UInt8} {env : Env} {H : Heap}
theorem dyn_st2 (t : DuF T) (hs : DS d l env H) (hl : l.length + (sonM d).length ≤ 140737488355328) :
    W T (.seq (.reg F_dump_Dynr2) (.cond (.t 12) (.reg F_dump_Dynr3) .skip)) env H fun x e h => x = .normal ∧ DS d (l ++ sonM d) e h := by
  obtain ⟨v1, v3, bb, hB, h0, hb⟩ := hs
  have h0' := h0
  rw [dEn, S_api_DynE_e] at h0'
  unfold sonM at hl ⊢
  by_cases hz : d.Soname = []
  · have b0 : strEq ⟨d.Soname.toArray⟩ ⟨#[]⟩ = true := by rw [hz]; rfl
    rw [if_pos hz, List.append_nil]
    simp only [fws, seval, cond_true, cond_false, if_true, if_false, unV, isNil, optI, iV, stepI, evalR, IntKind.bits, ini, fwh, lk, cellsAt, tagOf, spotOf, rdN, spl, fillL, zr, faI_ptr, loadI_ptr, N_dump_Dyn, v1, v3, h0', b0, Bool.not_true]
    exact ⟨trivial, v1, v3, bb, hB, h0, hb⟩
  · have b0 := ne_str hz
    rw [if_neg hz] at hl ⊢
    have ce := ev_line t.toLnF (P := [wSoname, d.Soname]) (by simp) hB (by omega)
    simp only [fws, seval, cond_true, cond_false, if_true, if_false, unV, isNil, optI, iV, stepI, evalR, IntKind.bits, ini, fwh, lk, cellsAt, tagOf, spotOf, rdN, spl, fillL, zr, faI_ptr, loadI_ptr, N_dump_Dyn, v1, v3, h0', b0, Bool.not_false]
    refine ce.mono fun v h ⟨hv, bb', g1, g2⟩ => ?_
    subst hv
    obtain ⟨k1, k2⟩ := g2.keep (q := 0) (List.getElem?_eq_some_iff.1 h0).1 (by decide) hb
    simp only [fws, seval, cond_true, cond_false, if_true, if_false, unV, isNil, optI, iV, stepI, evalR, IntKind.bits, ini, fwh, lk, cellsAt, tagOf, spotOf, rdN, spl, fillL, zr, N_dump_Dyn]
    exact ⟨trivial, v1, v3, bb', g1, k1.trans h0, k2⟩
theorem dyn_st4 (t : DuF T) (hs : DS d l env H) (hl : l.length + (runM d).length ≤ 140737488355328) :
    W T (.seq (.reg F_dump_Dynr4) (.cond (.t 20) (.reg F_dump_Dynr5) .skip)) env H fun x e h => x = .normal ∧ DS d (l ++ runM d) e h := by
  obtain ⟨v1, v3, bb, hB, h0, hb⟩ := hs
  have h0' := h0
  rw [dEn, S_api_DynE_e] at h0'
  unfold runM at hl ⊢
  by_cases hz : d.Runpath = []
  · have b0 : strEq ⟨d.Runpath.toArray⟩ ⟨#[]⟩ = true := by rw [hz]; rfl
    rw [if_pos hz, List.append_nil]
    simp only [fws, seval, cond_true, cond_false, if_true, if_false, unV, isNil, optI, iV, stepI, evalR, IntKind.bits, ini, fwh, lk, cellsAt, tagOf, spotOf, rdN, spl, fillL, zr, faI_ptr, loadI_ptr, N_dump_Dyn, v1, v3, h0', b0, Bool.not_true]
    exact ⟨trivial, v1, v3, bb, hB, h0, hb⟩
  · have b0 := ne_str hz
    rw [if_neg hz] at hl ⊢
    have ce := ev_line t.toLnF (P := [wRunpath, d.Runpath]) (by simp) hB (by omega)
    simp only [fws, seval, cond_true, cond_false, if_true, if_false, unV, isNil, optI, iV, stepI, evalR, IntKind.bits, ini, fwh, lk, cellsAt, tagOf, spotOf, rdN, spl, fillL, zr, faI_ptr, loadI_ptr, N_dump_Dyn, v1, v3, h0', b0, Bool.not_false]
    refine ce.mono fun v h ⟨hv, bb', g1, g2⟩ => ?_
    subst hv
    obtain ⟨k1, k2⟩ := g2.keep (q := 0) (List.getElem?_eq_some_iff.1 h0).1 (by decide) hb
    simp only [fws, seval, cond_true, cond_false, if_true, if_false, unV, isNil, optI, iV, stepI, evalR, IntKind.bits, ini, fwh, lk, cellsAt, tagOf, spotOf, rdN, spl, fillL, zr, N_dump_Dyn]
    exact ⟨trivial, v1, v3, bb', g1, k1.trans h0, k2⟩
theorem dyn_st11 (t : DuF T) (hs : DS d l env H) (hl : l.length + (flagM d).length ≤ 140737488355328) :
    W T (.seq (.reg F_dump_Dynr11) (.cond (.t 47) (.dreg F_dump_Dynr12 []) .skip)) env H fun x e h => x = .normal ∧ DS d (l ++ flagM d) e h := by
  obtain ⟨v1, v3, bb, hB, h0, hb⟩ := hs
  have h0' := h0
  rw [dEn, S_api_DynE_e] at h0'
  unfold flagM at hl ⊢
  have x1 := f_when t d.Symbolic wSymbolic
  have x2 := f_when t d.Global wGlobal
  have x3 := f_when t d.Nodelete wNodelete
  cases q1 : d.Symbolic <;> cases q2 : d.Global <;> cases q3 : d.Nodelete <;> rw [q1, q2, q3] at hl h0' <;> rw [q1] at x1 <;> rw [q2] at x2 <;> rw [q3] at x3
  · simp only [fws, seval, cond_true, cond_false, if_true, if_false, unV, isNil, optI, iV, stepI, evalR, IntKind.bits, ini, fwh, lk, cellsAt, tagOf, spotOf, rdN, spl, fillL, zr, faI_ptr, loadI_ptr, N_dump_Dyn, v1, v3, h0', Bool.or_false, Bool.false_eq_true]
    exact ⟨trivial, v1, v3, bb, by first | exact hB | (rw [List.append_nil]; exact hB), h0, hb⟩
  all_goals
    simp only [Bool.or_true, Bool.or_false, Bool.true_or, if_true] at hl
    have ce := ev_line t.toLnF (P := [wFlags, whenM d.Symbolic wSymbolic, whenM d.Global wGlobal, whenM d.Nodelete wNodelete]) (by simp) hB (by rw [q1, q2, q3]; omega)
    rw [q1, q2, q3] at ce
    simp only [fws, seval, cond_true, cond_false, if_true, if_false, unV, isNil, optI, iV, stepI, evalR, IntKind.bits, ini, fwh, lk, cellsAt, tagOf, spotOf, rdN, spl, fillL, zr, faI_ptr, loadI_ptr, N_dump_Dyn, v1, v3, h0', CC_of x1, CC_of x2, CC_of x3, Bool.or_true, Bool.or_false, Bool.true_or]
    refine ce.mono fun v h ⟨hv, bb', g1, g2⟩ => ?_
    subst hv
    obtain ⟨k1, k2⟩ := g2.keep (q := 0) (List.getElem?_eq_some_iff.1 h0).1 (by decide) hb
    simp only [fws, seval, cond_true, cond_false, if_true, if_false, unV, isNil, optI, iV, stepI, evalR, IntKind.bits, ini, fwh, lk, cellsAt, tagOf, spotOf, rdN, spl, fillL, zr, N_dump_Dyn]
    exact ⟨trivial, v1, v3, bb', g1, k1.trans h0, k2⟩
theorem loop_need (t : DuF T) {o : Option (List (List UInt8))} (hn : (lst o).length ≤ 1000000) : ∀ (r : List (List UInt8)) (i : Nat) (l : List UInt8) (H : Heap) (env : Env), (lst o).drop i = r → DS d l env H → l.length + (r.flatMap fun n => lineM [wNeeded, n]).length ≤ 140737488355328 →
    env 27 = slV strE o → env 28 = .int .i64 (lst o).length → env 29 = .int .i64 i →
    W T (.loop F_dump_Dynl0) env H fun x e h => x = .exit 0 ∧ DS d (l ++ r.flatMap fun n => lineM [wNeeded, n]) e h := by
  intro r
  induction r with
  | nil =>
    intro i l H env hr hs hl v27 v28 v29
    obtain ⟨v1, v3, bb, hB, h0, hb⟩ := hs
    have hi := drop_end hr
    have q : ¬ ((i : Int) < (lst o).length) := by omega
    rw [w_loop]
    simp only [fws, seval, cond_true, cond_false, if_true, if_false, unV, isNil, optI, iV, stepI, evalR, IntKind.bits, ini, fwi, N_dump_Dyn, v28, v29, q]
    exact ⟨trivial, v1, v3, bb, by rw [List.flatMap_nil, List.append_nil]; exact hB, h0, hb⟩
  | cons p ps ih =>
    intro i l H env hr hs hl v27 v28 v29
    obtain ⟨v1, v3, bb, hB, h0, hb⟩ := hs
    obtain ⟨hi, hp, hr2⟩ := drop_at hr
    have q : ((i : Int) < (lst o).length) := by omega
    have hxx := fun H => ix_sl (E := strE) (o := o) (n := 1) rfl hi .i64 H
    have hld := fun H => ld_str hi H
    rw [hp] at hld
    have w2 : IntKind.i64.wrap ((i : Int) + 1) = ((i + 1 : Nat) : Int) := by rw [wrapI64 (by omega) (by omega)]; rfl
    rw [List.flatMap_cons, List.length_append] at hl
    have ce := ev_line t.toLnF (P := [wNeeded, p]) (by simp) hB (by omega)
    rw [w_loop]
    simp only [fws, seval, cond_true, cond_false, if_true, if_false, unV, isNil, optI, iV, stepI, evalR, IntKind.bits, ini, fwh, lk, cellsAt, tagOf, spotOf, rdN, spl, fillL, zr, N_dump_Dyn, v1, v3, v27, v28, v29, q, hxx, hld, w2]
    refine ce.mono fun v h ⟨hv, bb', g1, g2⟩ => ?_
    subst hv
    obtain ⟨k1, k2⟩ := g2.keep (q := 0) (List.getElem?_eq_some_iff.1 h0).1 (by decide) hb
    simp only [fws, seval, cond_true, cond_false, if_true, if_false, unV, isNil, optI, iV, stepI, evalR, IntKind.bits, ini, fwh, lk, cellsAt, tagOf, spotOf, rdN, spl, fillL, zr, N_dump_Dyn, v1, v3, v27, v28, v29, w2]
    refine W.mono (ih (i + 1) (l ++ lineM [wNeeded, p]) h _ hr2 ⟨?_, ?_, bb', g1, k1.trans h0, k2⟩ (by rw [List.length_append]; omega) ?_ ?_ ?_) fun x e h' ⟨u1, u2⟩ => ⟨u1, by rw [List.flatMap_cons, ← List.append_assoc]; exact u2⟩
    all_goals (first | assumption | rfl)
theorem loop_area (t : DuF T) {R : List AR} (hR : ∀ q ∈ R, OkA q.2) (hn : R.length ≤ 1000) : ∀ (r : List AR) (i : Nat) (l : List UInt8) (H : Heap) (env : Env), R.drop i = r → DS d l env H → l.length + (r.flatMap areaM).length ≤ 140737488355328 →
    env 81 = imm arE R → env 82 = .int .i64 R.length → env 83 = .int .i64 i →
    W T (.loop F_dump_Dynl1) env H fun x e h => x = .exit 2 ∧ DS d (l ++ r.flatMap areaM) e h := by
  intro r
  induction r with
  | nil =>
    intro i l H env hr hs hl v81 v82 v83
    obtain ⟨v1, v3, bb, hB, h0, hb⟩ := hs
    have hi := drop_end hr
    have q : ¬ ((i : Int) < R.length) := by omega
    rw [w_loop]
    simp only [fws, seval, cond_true, cond_false, if_true, if_false, unV, isNil, optI, iV, stepI, evalR, IntKind.bits, ini, fwi, N_dump_Dyn, v82, v83, q]
    exact ⟨trivial, v1, v3, bb, by rw [List.flatMap_nil, List.append_nil]; exact hB, h0, hb⟩
  | cons p ps ih =>
    intro i l H env hr hs hl v81 v82 v83
    obtain ⟨v1, v3, bb, hB, h0, hb⟩ := hs
    obtain ⟨hi, hp, hr2⟩ := drop_at hr
    have hok : OkA p.2 := hR p (hp ▸ List.getElem_mem hi)
    have q : ((i : Int) < R.length) := by omega
    have hxx := fun H => ix_at (E := arE) (l := R) (n := 4) rfl hi .i64 H
    have hld := fun H => loadNI_at (E := arE) (n := 4) (H := H) rfl hi
    rw [hp] at hld
    simp only [arE_e] at hld
    have w2 : IntKind.i64.wrap ((i : Int) + 1) = ((i + 1 : Nat) : Int) := by rw [wrapI64 (by omega) (by omega)]; rfl
    rw [List.flatMap_cons, List.length_append] at hl
    have lt0 := (List.getElem?_eq_some_iff.1 h0).1
    rw [w_loop, List.flatMap_cons]
    unfold areaM at hl ⊢
    cases hh : p.2.Has with
    | false =>
      rw [hh] at hld hl
      simp only [fws, seval, cond_true, cond_false, if_true, if_false, unV, isNil, optI, iV, stepI, evalR, IntKind.bits, ini, fwh, lk, cellsAt, tagOf, spotOf, rdN, spl, fillL, zr, faI_ptr, loadI_ptr, loadNI_ptr, N_dump_Dyn, v1, v3, v81, v82, v83, q, hxx, hld, w2]
      refine W.mono (ih (i + 1) l _ _ hr2 ⟨?_, ?_, bb, hB.push _, by rw [List.getElem?_append_left lt0]; exact h0, hb⟩ (by unfold areaM; omega) ?_ ?_ ?_) fun x e h' ⟨u1, u2⟩ => ⟨u1, u2⟩
      all_goals (first | assumption | rfl)
    | true =>
      rw [hh] at hld hl
      simp only [if_true] at hl
      have x1 := f_hex t hok.a.1 hok.a.2
      have x2 := f_hex t hok.s.1 hok.s.2
      have ce := ev_line t.toLnF (P := [p.1, hexI p.2.At, hexI p.2.Size]) (by simp) (hB.push ⟨0, .cells false 4 [strV p.1, .bool true, .int .u64 p.2.At, .int .u64 p.2.Size]⟩) (by omega)
      simp only [fws, seval, cond_true, cond_false, if_true, if_false, unV, isNil, optI, iV, stepI, evalR, IntKind.bits, ini, fwh, lk, cellsAt, tagOf, spotOf, rdN, spl, fillL, zr, faI_ptr, loadI_ptr, loadNI_ptr, N_dump_Dyn, v1, v3, v81, v82, v83, q, hxx, hld, w2, CC_of x1, CC_of x2]
      refine ce.mono fun v h ⟨hv, bb', g1, g2⟩ => ?_
      subst hv
      obtain ⟨k1, k2⟩ := g2.keep (q := 0) (by simp) (by decide) hb
      simp only [fws, seval, cond_true, cond_false, if_true, if_false, unV, isNil, optI, iV, stepI, evalR, IntKind.bits, ini, fwh, lk, cellsAt, tagOf, spotOf, rdN, spl, fillL, zr, N_dump_Dyn, v1, v3, v81, v82, v83, w2]
      refine W.mono (ih (i + 1) (l ++ lineM [p.1, hexI p.2.At, hexI p.2.Size]) h _ hr2 ⟨?_, ?_, bb', g1, by rw [k1, List.getElem?_append_left lt0]; exact h0, k2⟩ (by unfold areaM; rw [List.length_append]; omega) ?_ ?_ ?_) fun x e h' ⟨u1, u2⟩ => ⟨u1, by rw [← List.append_assoc]; exact u2⟩
      all_goals (first | assumption | rfl)
end
end Go.Proofs.YtdajdgjacajemaaGreat
/- A dynamic section's lines: the writer's, whole. -/
namespace Go.Proofs.YtdajdgjacajemaaGreat
open Go Fw
set_option linter.unusedSimpArgs false
set_option linter.unusedVariables false
set_option linter.unusedSectionVars false

section
variable {T : Tab}
theorem f_Dyn (t : DuF T) {d : S_api_Dyn} (hk : OkD d) (hl : (dynM d).length ≤ 140737488355328) : FnV T 17 [.agg (S_api_DynE.e d).toArray] (strV (dynM d)) := by
  refine FnV_of (by simp [pure_aggE (E := S_api_DynE) (by decide)]) ?_
  have hl' := hl
  unfold dynM at hl' ⊢
  rw [List.length_append, List.length_append, List.length_append, List.length_append] at hl'
  rw [Ev_fn t.dy rfl, S_api_DynE_e]
  have hB0 : Bd [dEn d, ⟨0, .cells false 1000000084 [.pointer none, .slice none 0 0]⟩] 1 0 TW [] none := ⟨.pointer none, .slice none 0 0, rfl, .inl rfl, .inl ⟨rfl, rfl, rfl⟩⟩
  simp only [F_dump_Dyn, fws, seval, cond_true, cond_false, if_true, if_false, unV, isNil, optI, iV, stepI, evalR, IntKind.bits, ini, fwh, lk, cellsAt, tagOf, spotOf, rdN, spl, fillL, zr, oneC_sl, F_dump_Dynr0b, F_dump_Dynr0_W, F_dump_Dynr1b, F_dump_Dynr1_W, F_dump_Dynr2b, F_dump_Dynr3b, F_dump_Dynr3_W, F_dump_Dynr4b, F_dump_Dynr5b, F_dump_Dynr5_W, F_dump_Dynr6b, F_dump_Dynr6_W, F_dump_Dynr7b, F_dump_Dynr7_W, F_dump_Dynr8b, F_dump_Dynr8_W, F_dump_Dynr9b, F_dump_Dynr9_W, F_dump_Dynr10b, F_dump_Dynr10_W, F_dump_Dynl0b, F_dump_Dynr11b, F_dump_Dynr12b, F_dump_Dynr12_W, F_dump_Dynr13b, F_dump_Dynr13_W, F_dump_Dynr14b, F_dump_Dynr14_W, F_dump_Dynr15b, F_dump_Dynr15_W, F_dump_Dynr16b, F_dump_Dynr16_W, F_dump_Dynr17b, F_dump_Dynr17_W, F_dump_Dynr18b, F_dump_Dynr18_W, F_dump_Dynl1b, F_dump_Dynr19b, F_dump_Dynr19_W, F_dump_Dyncb, F_dump_Dync_W]
  rw [← w_seq]
  refine W.mono (dyn_st2 t (d := d) (l := []) ⟨?_, ?_, none, hB0, rfl, by simp⟩ (by simp only [List.length_nil]; omega)) fun x e H ⟨hx, h1⟩ => ?_
  · (first | assumption | rfl)
  · (first | assumption | rfl)
  subst hx
  rw [seqQ_normal]
  simp only [fws, seval, cond_true, cond_false, if_true, if_false, unV, isNil, optI, iV, stepI, evalR, IntKind.bits, ini, F_dump_Dynr0b, F_dump_Dynr0_W, F_dump_Dynr1b, F_dump_Dynr1_W, F_dump_Dynr2b, F_dump_Dynr3b, F_dump_Dynr3_W, F_dump_Dynr4b, F_dump_Dynr5b, F_dump_Dynr5_W, F_dump_Dynr6b, F_dump_Dynr6_W, F_dump_Dynr7b, F_dump_Dynr7_W, F_dump_Dynr8b, F_dump_Dynr8_W, F_dump_Dynr9b, F_dump_Dynr9_W, F_dump_Dynr10b, F_dump_Dynr10_W, F_dump_Dynl0b, F_dump_Dynr11b, F_dump_Dynr12b, F_dump_Dynr12_W, F_dump_Dynr13b, F_dump_Dynr13_W, F_dump_Dynr14b, F_dump_Dynr14_W, F_dump_Dynr15b, F_dump_Dynr15_W, F_dump_Dynr16b, F_dump_Dynr16_W, F_dump_Dynr17b, F_dump_Dynr17_W, F_dump_Dynr18b, F_dump_Dynr18_W, F_dump_Dynl1b, F_dump_Dynr19b, F_dump_Dynr19_W, F_dump_Dyncb, F_dump_Dync_W]
  rw [← w_seq]
  refine W.mono (dyn_st4 t h1 (by rw [List.length_append]; simp only [List.length_nil]; omega)) fun x e H ⟨hx, h2⟩ => ?_
  subst hx
  rw [seqQ_normal]
  obtain ⟨v1, v3, bb, hB, h0, hb⟩ := h2
  have h0' := h0
  rw [dEn, S_api_DynE_e] at h0'
  simp only [fws, seval, cond_true, cond_false, if_true, if_false, unV, isNil, optI, iV, stepI, evalR, IntKind.bits, ini, fwh, lk, cellsAt, tagOf, spotOf, rdN, spl, fillL, zr, faI_ptr, loadI_ptr, lenI_sl, F_dump_Dynr0b, F_dump_Dynr0_W, F_dump_Dynr1b, F_dump_Dynr1_W, F_dump_Dynr2b, F_dump_Dynr3b, F_dump_Dynr3_W, F_dump_Dynr4b, F_dump_Dynr5b, F_dump_Dynr5_W, F_dump_Dynr6b, F_dump_Dynr6_W, F_dump_Dynr7b, F_dump_Dynr7_W, F_dump_Dynr8b, F_dump_Dynr8_W, F_dump_Dynr9b, F_dump_Dynr9_W, F_dump_Dynr10b, F_dump_Dynr10_W, F_dump_Dynl0b, F_dump_Dynr11b, F_dump_Dynr12b, F_dump_Dynr12_W, F_dump_Dynr13b, F_dump_Dynr13_W, F_dump_Dynr14b, F_dump_Dynr14_W, F_dump_Dynr15b, F_dump_Dynr15_W, F_dump_Dynr16b, F_dump_Dynr16_W, F_dump_Dynr17b, F_dump_Dynr17_W, F_dump_Dynr18b, F_dump_Dynr18_W, F_dump_Dynl1b, F_dump_Dynr19b, F_dump_Dynr19_W, F_dump_Dyncb, F_dump_Dync_W, v1, v3, h0']
  refine W.mono (loop_need t hk.n (lst d.Needed) 0 _ H _ rfl ⟨?_, ?_, bb, hB, h0, hb⟩ (by unfold needM at hl'; simp only [List.nil_append, List.length_append]; omega) ?_ ?_ ?_) fun x e H3 ⟨hx, h3⟩ => ?_
  · (first | assumption | rfl)
  · (first | assumption | rfl)
  · (first | assumption | rfl)
  · (first | assumption | rfl)
  · (first | assumption | rfl)
  subst hx
  simp only [fws, seval, cond_true, cond_false, if_true, if_false, unV, isNil, optI, iV, stepI, evalR, IntKind.bits, ini, F_dump_Dynr0b, F_dump_Dynr0_W, F_dump_Dynr1b, F_dump_Dynr1_W, F_dump_Dynr2b, F_dump_Dynr3b, F_dump_Dynr3_W, F_dump_Dynr4b, F_dump_Dynr5b, F_dump_Dynr5_W, F_dump_Dynr6b, F_dump_Dynr6_W, F_dump_Dynr7b, F_dump_Dynr7_W, F_dump_Dynr8b, F_dump_Dynr8_W, F_dump_Dynr9b, F_dump_Dynr9_W, F_dump_Dynr10b, F_dump_Dynr10_W, F_dump_Dynl0b, F_dump_Dynr11b, F_dump_Dynr12b, F_dump_Dynr12_W, F_dump_Dynr13b, F_dump_Dynr13_W, F_dump_Dynr14b, F_dump_Dynr14_W, F_dump_Dynr15b, F_dump_Dynr15_W, F_dump_Dynr16b, F_dump_Dynr16_W, F_dump_Dynr17b, F_dump_Dynr17_W, F_dump_Dynr18b, F_dump_Dynr18_W, F_dump_Dynl1b, F_dump_Dynr19b, F_dump_Dynr19_W, F_dump_Dyncb, F_dump_Dync_W]
  rw [← w_seq]
  have h3 : DS d (([] ++ sonM d) ++ runM d ++ needM d) e H3 := h3
  refine W.mono (dyn_st11 t h3 (by simp only [List.nil_append, List.length_append]; omega)) fun x e H4 ⟨hx, h4⟩ => ?_
  subst hx
  rw [seqQ_normal]
  obtain ⟨v1, v3, bb, hB, h0, hb⟩ := h4
  have h0' := h0
  rw [dEn, S_api_DynE_e] at h0'
  have hli : ∀ H cs, lenI H 1 (immV 7 cs) = some (.int .i64 7, H) := fun H cs => rfl
  simp only [fws, seval, cond_true, cond_false, if_true, if_false, unV, isNil, optI, iV, stepI, evalR, IntKind.bits, ini, fwh, lk, cellsAt, tagOf, spotOf, rdN, spl, fillL, zr, faI_ptr, loadI_ptr, loadNI_ptr, hli, F_dump_Dynr0b, F_dump_Dynr0_W, F_dump_Dynr1b, F_dump_Dynr1_W, F_dump_Dynr2b, F_dump_Dynr3b, F_dump_Dynr3_W, F_dump_Dynr4b, F_dump_Dynr5b, F_dump_Dynr5_W, F_dump_Dynr6b, F_dump_Dynr6_W, F_dump_Dynr7b, F_dump_Dynr7_W, F_dump_Dynr8b, F_dump_Dynr8_W, F_dump_Dynr9b, F_dump_Dynr9_W, F_dump_Dynr10b, F_dump_Dynr10_W, F_dump_Dynl0b, F_dump_Dynr11b, F_dump_Dynr12b, F_dump_Dynr12_W, F_dump_Dynr13b, F_dump_Dynr13_W, F_dump_Dynr14b, F_dump_Dynr14_W, F_dump_Dynr15b, F_dump_Dynr15_W, F_dump_Dynr16b, F_dump_Dynr16_W, F_dump_Dynr17b, F_dump_Dynr17_W, F_dump_Dynr18b, F_dump_Dynr18_W, F_dump_Dynl1b, F_dump_Dynr19b, F_dump_Dynr19_W, F_dump_Dyncb, F_dump_Dync_W, v1, v3, h0']
  have hlen : (areas d).length = 7 := rfl
  refine W.mono (loop_area t (R := areas d) hk.ar (by rw [hlen]; decide) (areas d) 0 _ H4 _ rfl ⟨?_, ?_, bb, hB, h0, hb⟩ (by simp only [List.nil_append, List.length_append]; omega) ?_ ?_ ?_) fun x e H5 ⟨hx, h5⟩ => ?_
  · (first | assumption | rfl)
  · (first | assumption | rfl)
  · (first | assumption | rfl)
  · (first | assumption | rfl)
  · (first | assumption | rfl)
  subst hx
  obtain ⟨v1, v3, bb, hB, h0, hb⟩ := h5
  simp only [fws, seval, cond_true, cond_false, if_true, if_false, unV, isNil, optI, iV, stepI, evalR, IntKind.bits, ini, fwh, lk, cellsAt, tagOf, spotOf, rdN, spl, fillL, zr, faI_ptr, N_dump_Dyn, v3]
  refine (ev_String t.bf hB (by simp only [List.nil_append, List.length_append]; omega)).mono fun v H6 ⟨hv, _⟩ => ?_
  subst hv
  simp only [fws, seval, cond_true, cond_false, if_true, if_false, unV, isNil, optI, iV, stepI, evalR, IntKind.bits, ini, N_dump_Dyn, List.nil_append, List.append_assoc]
  rfl
end
end Go.Proofs.YtdajdgjacajemaaGreat
/- The document's parts, headers, relocations. -/
namespace Go.Proofs.YtdajdgjacajemaaGreat
open Go Fw
set_option linter.unusedSimpArgs false
set_option linter.unusedVariables false
set_option linter.unusedSectionVars false

/-- A text behind a text, as the program joins them. -/
theorem app_at {a b : List UInt8} (h : a.length + b.length ≤ 9223372036854775807) : binS .add ⟨a.toArray⟩ ⟨b.toArray⟩ = some (strV (a ++ b)) := by
  have h' : (⟨a.toArray⟩ : ByteArray).size + (⟨b.toArray⟩ : ByteArray).size ≤ 9223372036854775807 := h
  simp only [binS, if_pos h', append_str]
theorem lineM_one {w : List UInt8} (h : w ≠ []) : lineM [w] = w ++ [10] := by
  unfold lineM; rw [lnB_t h, lnB_nil, List.append_nil]
theorem lineM_two {w v : List UInt8} (h : w ≠ []) (hv : v ≠ []) : lineM [w, v] = w ++ 32 :: v ++ [10] := by
  unfold lineM; rw [lnB_t h, lnB_f hv, lnB_nil, List.append_nil]
section
variable {T : Tab}
theorem f_rpart (t : DuF T) {w : List UInt8} {p : S_api_Phdr} (hp : OkP p) (hl : (partM w p).length ≤ 140737488355328) : FnV T 44 [strV w, .agg (S_api_PhdrE.e p).toArray] (strV (partM w p)) := by
  obtain ⟨ty, fl, of, va, fs, ms, al⟩ := p
  obtain ⟨⟨a1, a2⟩, ⟨b1, b2⟩, ⟨c1, c2⟩, ⟨d1, d2⟩, ⟨e1, e2⟩⟩ := hp
  simp only [] at a1 a2 b1 b2 c1 c2 d1 d2 e1 e2
  unfold partM at hl ⊢
  simp only [] at hl ⊢
  have x1 := f_rhex t b1 b2
  have x2 := f_rhex t c1 c2
  have x3 := f_rhex t d1 d2
  have x4 := f_rhex t e1 e2
  obtain ⟨f, rfl⟩ := Int.eq_ofNat_of_zero_le a1
  rw [Int.toNat_natCast] at hl ⊢
  have xl := f_rline t.toLnF (P := [w, hexI va, hexI ms, lettM f, hexI of, hexI fs]) (by simp) hl
  unfold lettM at xl ⊢
  have t4 : ((f : Int).tdiv 4).tmod 2 = ((f / 4 % 2 : Nat) : Int) := by rw [tdivN (by omega), tmodN (by omega)]; rfl
  have t2 : ((f : Int).tdiv 2).tmod 2 = ((f / 2 % 2 : Nat) : Int) := by rw [tdivN (by omega), tmodN (by omega)]; rfl
  have t1 : (f : Int).tmod 2 = ((f % 2 : Nat) : Int) := by rw [tmodN (by omega)]; rfl
  have w4 : IntKind.u32.wrap ((f : Int).tdiv 4) = (f : Int).tdiv 4 := by rw [wrap_u32, tdivN (by omega)]; omega
  have w2 : IntKind.u32.wrap ((f : Int).tdiv 2) = (f : Int).tdiv 2 := by rw [wrap_u32, tdivN (by omega)]; omega
  have g4 : decide (((f / 4 % 2 : Nat) : Int) = 1) = decide (f / 4 % 2 = 1) := by by_cases h : f / 4 % 2 = 1 <;> simp [h] <;> omega
  have g2 : decide (((f / 2 % 2 : Nat) : Int) = 1) = decide (f / 2 % 2 = 1) := by by_cases h : f / 2 % 2 = 1 <;> simp [h] <;> omega
  have g1 : decide (((f % 2 : Nat) : Int) = 1) = decide (f % 2 = 1) := by by_cases h : f % 2 = 1 <;> simp [h] <;> omega
  have n4 : ¬ ((4 : Int) = 0) := by decide
  have n2 : ¬ ((2 : Int) = 0) := by decide
  rw [S_api_PhdrE_e]
  refine FnV_of (by simp [pure_agg, pure_tup, pure_int, pure_bool, pure_string, pure_slN, pure_ptrN, pure_mapN, pure_imm, pure_immN, bltN, byteE_d, intE_d, boolE_d, strE_d]) ?_
  rw [Ev_fn t.rp rfl]
  generalize decide (f / 4 % 2 = 1) = q4 at g4 xl ⊢
  generalize decide (f / 2 % 2 = 1) = q2 at g2 xl ⊢
  generalize decide (f % 2 = 1) = q1 at g1 xl ⊢
  cases q4 <;> cases q2 <;> cases q1 <;> (
    simp only [bitC, cond_true, cond_false] at xl ⊢
    simp only [F_ref32_part, fws, seval, cond_true, cond_false, if_true, if_false, unV, isNil, optI, iV, stepI, evalR, IntKind.bits, ini, fwh, lk, cellsAt, tagOf, spotOf, rdN, spl, fillL, zr, fwi, N_ref32_part, CC_of x1, CC_of x2, CC_of x3, CC_of x4, t4, t2, t1, w4, w2, g4, g2, g1, n4, n2]
    exact (CC_of xl).2 (by simp only [fws, seval, cond_true, cond_false, if_true, if_false, unV, isNil, optI, iV, stepI, evalR, IntKind.bits, ini, callC, N_ref32_part]; rfl))
end
end Go.Proofs.YtdajdgjacajemaaGreat
/- The document's headers and relocations. -/
namespace Go.Proofs.YtdajdgjacajemaaGreat
open Go Fw
set_option linter.unusedSimpArgs false
set_option linter.unusedVariables false
set_option linter.unusedSectionVars false

abbrev p0 : Value := .pointer (some ⟨0, 0, none⟩)
abbrev hEn (h : S_api_Heads) : Entry := ⟨0, .cells false 16 (S_api_HeadsE.e h)⟩
section
variable {T : Tab}
theorem boxE {α : Type} {E : Enc α} {u : Nat} {x : α} {o : Opd} {env : Env} {H : Heap} (ho : o.ev env = .agg (E.e x).toArray) : stepI env H (.box u o) = some (.pointer (some ⟨H.length, 0, none⟩), H ++ [⟨0, .cells false u (E.e x)⟩]) := by
  have h1 : oneAll (.agg (E.e x).toArray) = true := by
    have := E.ho x
    simpa [oneAll, Value.cells] using this
  simp only [stepI, ho, h1, cond_true]
  rfl
theorem rh_A {h : S_api_Heads} {n : List UInt8} {env : Env} (v1 : env 1 = p0) (v3 : env 3 = strV n) :
    W T (.seq (.reg F_ref32_Headsr2) (.cond (.t 12) (.reg F_ref32_Headsr3) .skip)) env [hEn h] fun x e h' => x = .normal ∧ h' = [hEn h] ∧ e 1 = p0 ∧ e 3 = strV (if h.Machine = 62 then [120, 56, 54, 45, 54, 52] else n) := by
  rw [hEn, S_api_HeadsE_e]
  by_cases q : h.Machine = 62
  · have d : decide (h.Machine = 62) = true := decide_eq_true q
    rw [if_pos q]
    simp only [fws, seval, cond_true, cond_false, if_true, if_false, unV, isNil, optI, iV, stepI, evalR, IntKind.bits, ini, fwh, lk, cellsAt, tagOf, spotOf, rdN, spl, fillL, zr, faI_ptr, loadI_ptr, N_ref32_Heads, v1, v3, d]
    exact ⟨trivial, trivial, trivial, trivial⟩
  · have d : decide (h.Machine = 62) = false := decide_eq_false q
    rw [if_neg q]
    simp only [fws, seval, cond_true, cond_false, if_true, if_false, unV, isNil, optI, iV, stepI, evalR, IntKind.bits, ini, fwh, lk, cellsAt, tagOf, spotOf, rdN, spl, fillL, zr, faI_ptr, loadI_ptr, N_ref32_Heads, v1, v3, d]
    exact ⟨trivial, trivial, trivial, trivial⟩
theorem rh_B {h : S_api_Heads} {n : List UInt8} {env : Env} (v1 : env 1 = p0) (v3 : env 3 = strV n) :
    W T (.seq (.reg F_ref32_Headsr4) (.cond (.t 15) (.reg F_ref32_Headsr5) .skip)) env [hEn h] fun x e h' => x = .normal ∧ h' = [hEn h] ∧ e 1 = p0 ∧ e 3 = strV (if h.Machine = 183 then [97, 97, 114, 99, 104, 54, 52] else n) := by
  rw [hEn, S_api_HeadsE_e]
  by_cases q : h.Machine = 183
  · have d : decide (h.Machine = 183) = true := decide_eq_true q
    rw [if_pos q]
    simp only [fws, seval, cond_true, cond_false, if_true, if_false, unV, isNil, optI, iV, stepI, evalR, IntKind.bits, ini, fwh, lk, cellsAt, tagOf, spotOf, rdN, spl, fillL, zr, faI_ptr, loadI_ptr, N_ref32_Heads, v1, v3, d]
    exact ⟨trivial, trivial, trivial, trivial⟩
  · have d : decide (h.Machine = 183) = false := decide_eq_false q
    rw [if_neg q]
    simp only [fws, seval, cond_true, cond_false, if_true, if_false, unV, isNil, optI, iV, stepI, evalR, IntKind.bits, ini, fwh, lk, cellsAt, tagOf, spotOf, rdN, spl, fillL, zr, faI_ptr, loadI_ptr, N_ref32_Heads, v1, v3, d]
    exact ⟨trivial, trivial, trivial, trivial⟩
theorem loop_rHeads (t : DuF T) {h : S_api_Heads} (ho : ∀ p ∈ lst h.Loads, OkP p) (hn : (lst h.Loads).length ≤ 1000000) : ∀ (r : List S_api_Phdr) (i : Nat) (l : List UInt8) (env : Env), (lst h.Loads).drop i = r → l.length + (r.flatMap (partM wLoad)).length ≤ 140737488355328 →
    env 1 = p0 → env 4 = strV l → env 5 = .int .i64 i →
    W T (.loop F_ref32_Headsl0) env [hEn h] fun x e h' => x = .exit 0 ∧ h' = [hEn h] ∧ e 1 = p0 ∧ e 4 = strV (l ++ r.flatMap (partM wLoad)) := by
  intro r
  induction r with
  | nil =>
    intro i l env hr hl v1 v4 v5
    have hi := drop_end hr
    have q : ¬ ((i : Int) < (lst h.Loads).length) := by omega
    rw [w_loop, List.flatMap_nil, List.append_nil]
    rw [hEn, S_api_HeadsE_e]
    simp only [fws, seval, cond_true, cond_false, if_true, if_false, unV, isNil, optI, iV, stepI, evalR, IntKind.bits, ini, fwh, lk, cellsAt, tagOf, spotOf, rdN, spl, fillL, zr, faI_ptr, loadI_ptr, lenI_sl, N_ref32_Heads, v1, v4, v5, q]
    exact ⟨trivial, trivial, trivial, trivial⟩
  | cons p ps ih =>
    intro i l env hr hl v1 v4 v5
    obtain ⟨hi, hp, hr2⟩ := drop_at hr
    have hok : OkP p := ho p (hp ▸ List.getElem_mem hi)
    have q : ((i : Int) < (lst h.Loads).length) := by omega
    have hxx := fun H => ix_sl (E := S_api_PhdrE) (o := h.Loads) (n := 7) rfl hi .i64 H
    have hld := fun H => loadNI_at (E := S_api_PhdrE) (n := 7) (H := H) rfl hi
    rw [hp] at hld
    have w2 : IntKind.i64.wrap ((i : Int) + 1) = ((i + 1 : Nat) : Int) := by rw [wrapI64 (by omega) (by omega)]; rfl
    rw [List.flatMap_cons, List.length_append] at hl
    have c := f_rpart t (w := wLoad) hok (by omega)
    have z : l.length + (partM wLoad p).length ≤ 9223372036854775807 := by omega
    have L1 : loadI [hEn h] (.pointer (some ⟨0, 1, none⟩)) = some (slV S_api_PhdrE h.Loads, [hEn h]) := rfl
    rw [w_loop, List.flatMap_cons]
    simp only [fws, seval, cond_true, cond_false, if_true, if_false, unV, isNil, optI, iV, stepI, evalR, IntKind.bits, ini, faI_ptr, lenI_sl, size_str, append_str, N_ref32_Heads, v1, v4, v5, q, L1, hxx, hld, CC_of c, z, w2, Nat.zero_add]
    refine W.mono (ih (i + 1) (l ++ partM wLoad p) _ hr2 (by rw [List.length_append]; omega) ?_ ?_ ?_) fun x e h' ⟨u1, u2, u3, u4⟩ => ⟨u1, u2, u3, by rw [← List.append_assoc]; exact u4⟩
    all_goals (first | assumption | rfl)
theorem f_rHeads (t : DuF T) {h : S_api_Heads} (hk : OkH h) (hn : (lst h.Loads).length ≤ 1000000) (hl : (headsM h).length ≤ 140737488355328) : FnV T 16 [.agg (S_api_HeadsE.e h).toArray] (strV (headsM h)) := by
  refine FnV_of (by simp [pure_aggE (E := S_api_HeadsE) (by decide)]) ?_
  have hl' := hl
  unfold headsM at hl' ⊢
  rw [List.length_append, List.length_append, List.length_append] at hl'
  have cm := f_rtext t.rt h.Machine (by have := hk.mc.2; omega)
  have wm : IntKind.i64.wrap h.Machine = h.Machine := by have := hk.mc.1; have := hk.mc.2; exact wrapI64 (by omega) (by omega)
  have L0 : loadI [hEn h] (.pointer (some ⟨0, 0, none⟩)) = some (.int .u16 h.Machine, [hEn h]) := rfl
  have B1 : stepI (ini [.agg (S_api_HeadsE.e h).toArray]) [] (.box 16 (.t 0)) = some (p0, [hEn h]) := boxE (E := S_api_HeadsE) (H := []) rfl
  rw [Ev_fn t.rh rfl]
  simp only [F_ref32_Heads, fws, B1, F_ref32_Headsr0b, F_ref32_Headsr0_W, F_ref32_Headsr1b, F_ref32_Headsr2b, F_ref32_Headsr3b, F_ref32_Headsr3_W, F_ref32_Headsr4b, F_ref32_Headsr5b, F_ref32_Headsr5_W, F_ref32_Headsr6b, F_ref32_Headsr6_W, F_ref32_Headsr7b, F_ref32_Headsr7_W, F_ref32_Headsr8b, F_ref32_Headsr8_W, F_ref32_Headsr10b, F_ref32_Headsr10_W, F_ref32_Headsr9b, F_ref32_Headsr9_W, F_ref32_Headsl0b, F_ref32_Headsr11b, F_ref32_Headsr11_W, F_ref32_Headsr12b, F_ref32_Headsr12_W, F_ref32_Headsr13b, F_ref32_Headsr13_W, F_ref32_Headsr14b, F_ref32_Headsr14_W, F_ref32_Headscb, F_ref32_Headsc_W]
  simp only [fws, seval, cond_true, cond_false, if_true, if_false, unV, isNil, optI, iV, stepI, evalR, IntKind.bits, ini, faI_ptr, F_ref32_Headsr0b, F_ref32_Headsr0_W, F_ref32_Headsr1b, F_ref32_Headsr1_W, F_ref32_Headsr2b, F_ref32_Headsr3b, F_ref32_Headsr3_W, F_ref32_Headsr4b, F_ref32_Headsr5b, F_ref32_Headsr5_W, F_ref32_Headsr6b, F_ref32_Headsr6_W, F_ref32_Headsr7b, F_ref32_Headsr7_W, F_ref32_Headsr8b, F_ref32_Headsr8_W, F_ref32_Headsr10b, F_ref32_Headsr10_W, F_ref32_Headsr9b, F_ref32_Headsr9_W, F_ref32_Headsl0b, F_ref32_Headsr11b, F_ref32_Headsr11_W, F_ref32_Headsr12b, F_ref32_Headsr12_W, F_ref32_Headsr13b, F_ref32_Headsr13_W, F_ref32_Headsr14b, F_ref32_Headsr14_W, F_ref32_Headscb, F_ref32_Headsc_W, L0, wm, CC_of cm]
  rw [← w_seq]
  refine W.mono (rh_A (h := h) (n := textF h.Machine) ?_ ?_) fun x e H ⟨hx, hh, v1, v3⟩ => ?_
  · (first | assumption | rfl)
  · (first | assumption | rfl)
  subst hx hh
  rw [seqQ_normal]
  simp only [fws, F_ref32_Headsr0b, F_ref32_Headsr0_W, F_ref32_Headsr1b, F_ref32_Headsr1_W, F_ref32_Headsr2b, F_ref32_Headsr3b, F_ref32_Headsr3_W, F_ref32_Headsr4b, F_ref32_Headsr5b, F_ref32_Headsr5_W, F_ref32_Headsr6b, F_ref32_Headsr7b, F_ref32_Headsr7_W, F_ref32_Headsr8b, F_ref32_Headsr8_W, F_ref32_Headsr10b, F_ref32_Headsr10_W, F_ref32_Headsr9b, F_ref32_Headsr9_W, F_ref32_Headsl0b, F_ref32_Headsr11b, F_ref32_Headsr11_W, F_ref32_Headsr12b, F_ref32_Headsr12_W, F_ref32_Headsr13b, F_ref32_Headsr13_W, F_ref32_Headsr14b, F_ref32_Headsr14_W, F_ref32_Headscb, F_ref32_Headsc_W]
  rw [← w_seq]
  refine W.mono (rh_B v1 v3) fun x e H ⟨hx, hh, v1, v3⟩ => ?_
  subst hx hh
  rw [seqQ_normal]
  have hm : (if h.Machine = 183 then [97, 97, 114, 99, 104, 54, 52] else if h.Machine = 62 then [120, 56, 54, 45, 54, 52] else textF h.Machine) = machM h.Machine := by
    unfold machM
    by_cases q1 : h.Machine = 62
    · rw [if_neg (by omega), if_pos q1, if_pos q1]
    · rw [if_neg q1, if_neg q1]
  rw [hm] at v3
  have hml : (machM h.Machine).length ≤ 20 ∧ machM h.Machine ≠ [] := by
    have h1 := textF_len h.Machine
    have h2 := textF_ne (n := h.Machine) (by have := hk.mc.2; omega)
    unfold machM
    split
    · decide
    · split
      · decide
      · exact ⟨h1, h2⟩
  have e1 : lineM [wMachine, machM h.Machine] = ([109, 97, 99, 104, 105, 110, 101, 32] ++ machM h.Machine) ++ [10] := by rw [lineM_two (by decide) hml.2]; simp
  have z0 : (⟨#[109, 97, 99, 104, 105, 110, 101, 32]⟩ : ByteArray).size = 8 := rfl
  have z1 : 8 + (machM h.Machine).length ≤ 9223372036854775807 := by have := hml.1; omega
  have z2 : ([109, 97, 99, 104, 105, 110, 101, 32] ++ machM h.Machine).length + 1 ≤ 9223372036854775807 := by have := hml.1; simp only [List.length_append, List.length_cons, List.length_nil]; omega
  have z3 : (⟨#[10]⟩ : ByteArray).size = 1 := rfl
  have s1 : (⟨#[109, 97, 99, 104, 105, 110, 101, 32]⟩ : ByteArray) ++ ⟨(machM h.Machine).toArray⟩ = ⟨([109, 97, 99, 104, 105, 110, 101, 32] ++ machM h.Machine).toArray⟩ := append_str (l := [109, 97, 99, 104, 105, 110, 101, 32])
  have s2 : (⟨([109, 97, 99, 104, 105, 110, 101, 32] ++ machM h.Machine).toArray⟩ : ByteArray) ++ ⟨#[10]⟩ = ⟨(lineM [wMachine, machM h.Machine]).toArray⟩ := by rw [e1]; exact append_str (m := [10])
  simp only [fws, seval, cond_true, cond_false, if_true, if_false, unV, isNil, optI, iV, stepI, evalR, IntKind.bits, ini, F_ref32_Headsr0b, F_ref32_Headsr0_W, F_ref32_Headsr1b, F_ref32_Headsr1_W, F_ref32_Headsr2b, F_ref32_Headsr2_W, F_ref32_Headsr3b, F_ref32_Headsr3_W, F_ref32_Headsr4b, F_ref32_Headsr4_W, F_ref32_Headsr5b, F_ref32_Headsr5_W, F_ref32_Headsr6b, F_ref32_Headsr6_W, F_ref32_Headsr7b, F_ref32_Headsr7_W, F_ref32_Headsr8b, F_ref32_Headsr8_W, F_ref32_Headsr10b, F_ref32_Headsr10_W, F_ref32_Headsr9b, F_ref32_Headsr9_W, F_ref32_Headsl0b, F_ref32_Headsr11b, F_ref32_Headsr11_W, F_ref32_Headsr12b, F_ref32_Headsr12_W, F_ref32_Headsr13b, F_ref32_Headsr13_W, F_ref32_Headsr14b, F_ref32_Headsr14_W, F_ref32_Headscb, F_ref32_Headsc_W, v3, size_str, z0, z1, z2, z3, s1, s2]
  refine W.mono (loop_rHeads t hk.ld hn (lst h.Loads) 0 (lineM [wMachine, machM h.Machine]) _ rfl (by omega) ?_ ?_ ?_) fun x e H ⟨hx, hh, v1, v4⟩ => ?_
  · (first | assumption | rfl)
  · (first | assumption | rfl)
  · (first | assumption | rfl)
  subst hx hh
  generalize hA : lineM [wMachine, machM h.Machine] ++ (lst h.Loads).flatMap (partM wLoad) = A at v4 ⊢
  have hAl : A.length + (partM wDynamic h.Dynamic).length + (if 0 < h.Relro.Memsz then partM wRelro h.Relro else []).length ≤ 140737488355328 := by rw [← hA, List.length_append]; exact hl'
  have c2 := f_rpart t (w := wDynamic) hk.dy (by omega)
  have z4 : A.length + (partM wDynamic h.Dynamic).length ≤ 9223372036854775807 := by omega
  have L2 : loadNI [hEn h] 7 (.pointer (some ⟨0, 2, none⟩)) = some (.agg (S_api_PhdrE.e h.Dynamic).toArray, [hEn h]) := rfl
  have L3 : loadI [hEn h] (.pointer (some ⟨0, 14, none⟩)) = some (.int .u64 h.Relro.Memsz, [hEn h]) := rfl
  have L4 : loadNI [hEn h] 7 (.pointer (some ⟨0, 9, none⟩)) = some (.agg (S_api_PhdrE.e h.Relro).toArray, [hEn h]) := rfl
  by_cases hr : 0 < h.Relro.Memsz
  · have d : decide (h.Relro.Memsz = 0) = false := decide_eq_false (by omega)
    rw [if_pos hr] at hAl ⊢
    have c3 := f_rpart t (w := wRelro) hk.rl (by omega)
    have z5 : (A ++ partM wDynamic h.Dynamic).length + (partM wRelro h.Relro).length ≤ 9223372036854775807 := by rw [List.length_append]; omega
    simp only [fws, seval, cond_true, cond_false, if_true, if_false, unV, isNil, optI, iV, stepI, evalR, IntKind.bits, ini, faI_ptr, N_ref32_Heads, v1, v4, L2, L3, L4, CC_of c2, CC_of c3, size_str, append_str, z4, z5, d, Nat.zero_add, Nat.reduceAdd, Bool.not_false]
    rfl
  · have d : decide (h.Relro.Memsz = 0) = true := decide_eq_true (by have := hk.rl.ms.1; omega)
    rw [if_neg hr] at hAl ⊢
    simp only [fws, seval, cond_true, cond_false, if_true, if_false, unV, isNil, optI, iV, stepI, evalR, IntKind.bits, ini, faI_ptr, N_ref32_Heads, v1, v4, L2, L3, CC_of c2, size_str, append_str, z4, d, Nat.zero_add, Nat.reduceAdd, Bool.not_true, List.append_nil]
    rfl
end
end Go.Proofs.YtdajdgjacajemaaGreat
/- The document's relocations. -/
namespace Go.Proofs.YtdajdgjacajemaaGreat
open Go Fw
set_option linter.unusedSimpArgs false
set_option linter.unusedVariables false
set_option linter.unusedSectionVars false

abbrev kinds5 : List Value := [.string ⟨#[116, 121, 112, 101]⟩, .string ⟨#[110, 111, 110, 101]⟩, .string ⟨#[97, 98, 115, 111, 108, 117, 116, 101]⟩, .string ⟨#[114, 101, 108, 97, 116, 105, 118, 101]⟩, .string ⟨#[115, 108, 111, 116]⟩]
theorem kind5 (m k : Int) : ∃ q, (∀ H, ixaI H 1 (immV 5 kinds5) (.int .i64 ((ofM m k).getD (-1) + 1)) = some (q, H)) ∧ (∀ H, loadI H q = some (strV (kindM m k), H)) ∧ IntKind.i64.wrap ((ofM m k).getD (-1) + 1) = (ofM m k).getD (-1) + 1 := by
  unfold kindM
  rcases ofM_cases m k with h | h | h | h | h <;> rw [h]
  · exact ⟨iptrV (kinds5.drop 0), fun H => rfl, fun H => rfl, by decide⟩
  · exact ⟨iptrV (kinds5.drop 1), fun H => rfl, fun H => rfl, by decide⟩
  · exact ⟨iptrV (kinds5.drop 2), fun H => rfl, fun H => rfl, by decide⟩
  · exact ⟨iptrV (kinds5.drop 3), fun H => rfl, fun H => rfl, by decide⟩
  · exact ⟨iptrV (kinds5.drop 4), fun H => rfl, fun H => rfl, by decide⟩
section
variable {T : Tab}
theorem loop_rRels (t : DuF T) {m : Int} (hm : isU 65536 m) {o : Option (List S_api_Rel)} (ho : ∀ p ∈ lst o, OkR p) (hn : (lst o).length ≤ 1000000) : ∀ (r : List S_api_Rel) (i : Nat) (l : List UInt8) (H : Heap) (env : Env), (lst o).drop i = r → l.length + (relsM m r).length ≤ 140737488355328 →
    env 0 = .int .u16 m → env 1 = slV S_api_RelE o → env 5 = strV l → env 6 = .int .i64 i →
    W T (.loop F_ref32_Relsl0) env H fun x e h' => x = .exit 0 ∧ e 5 = strV (l ++ relsM m r) := by
  intro r
  induction r with
  | nil =>
    intro i l H env hr hl v0 v1 v5 v6
    have hi := drop_end hr
    have q : ¬ ((i : Int) < (lst o).length) := by omega
    rw [w_loop]
    simp only [fws, seval, cond_true, cond_false, if_true, if_false, unV, isNil, optI, iV, stepI, evalR, IntKind.bits, ini, lenI_sl, N_ref32_Rels, v1, v6, q]
    exact ⟨trivial, by rw [relsM, List.flatMap_nil, List.append_nil]; exact v5⟩
  | cons p ps ih =>
    intro i l H env hr hl v0 v1 v5 v6
    obtain ⟨hi, hp, hr2⟩ := drop_at hr
    have hok : OkR p := ho p (hp ▸ List.getElem_mem hi)
    have q : ((i : Int) < (lst o).length) := by omega
    have hxx := fun H => ix_sl (E := S_api_RelE) (o := o) (n := 5) rfl hi .i64 H
    have hld := fun H => loadNI_at (E := S_api_RelE) (n := 5) (H := H) rfl hi
    have w2 : IntKind.i64.wrap ((i : Int) + 1) = ((i + 1 : Nat) : Int) := by rw [wrapI64 (by omega) (by omega)]; rfl
    have hsum : relsM m (p :: ps) = relM m p ++ relsM m ps := List.flatMap_cons ..
    rw [hsum, List.length_append] at hl
    rw [hp] at hld
    have x1 := f_rhex t hok.a.1 hok.a.2
    have x2 := f_rhex t hok.t.1 (by have := hok.t.2; omega)
    have x3 := f_rhex t hok.s.1 (by have := hok.s.2; omega)
    have x4 := f_ref15 t m p.Typ
    obtain ⟨qk, k1, k2, k3⟩ := kind5 m p.Typ
    have y0 : IntKind.u64.wrap m = m := by rw [wrap_u64]; have := hm.1; have := hm.2; omega
    have y1 : IntKind.u64.wrap p.Typ = p.Typ := by rw [wrap_u64]; have := hok.t.1; have := hok.t.2; omega
    have y2 : IntKind.u64.wrap p.Sym = p.Sym := by rw [wrap_u64]; have := hok.s.1; have := hok.s.2; omega
    have z : l.length + (relM m p).length ≤ 9223372036854775807 := by omega
    have key : ∀ sv : List UInt8, addM p = sv → FnV T 47 [immV 6 [.string ⟨#[114, 101, 108]⟩, strV (hexI p.At), strV (kindM m p.Typ), strV (hexI p.Typ), strV (hexI p.Sym), strV sv]] (strV (relM m p)) := fun sv hs => by
      have := f_rline t.toLnF (P := [wRel, hexI p.At, kindM m p.Typ, hexI p.Typ, hexI p.Sym, addM p]) (by simp) (by unfold relM at hl; omega)
      rw [← hs]
      exact this
    have d0 := hok.d0
    have d1 := hok.d1
    simp only [S_api_RelE_e] at hld
    rw [w_loop]
    cases hh : p.Has with
    | false =>
      have xl := key [105, 109, 112, 108, 105, 99, 105, 116] (by unfold addM; rw [if_pos hh])
      rw [hh] at hld
      simp only [fws, seval, cond_true, cond_false, if_true, if_false, unV, isNil, optI, iV, stepI, evalR, IntKind.bits, ini, fwh, lk, cellsAt, tagOf, spotOf, rdN, spl, fillL, zr, faI_ptr, loadI_ptr, loadNI_ptr, lenI_sl, size_str, append_str, N_ref32_Rels, v0, v1, v5, v6, q, hxx, hld, CC_of x1, CC_of x2, CC_of x3, CC_of x4, CC_of xl, k1, k2, k3, y0, y1, y2, z, w2]
      refine W.mono (ih (i + 1) (l ++ relM m p) _ _ hr2 (by rw [List.length_append]; omega) ?_ ?_ ?_ ?_) fun x e h' ⟨u1, u2⟩ => ⟨u1, by rw [hsum, ← List.append_assoc]; exact u2⟩
      all_goals (first | assumption | rfl)
    | true =>
      rw [hh] at hld
      by_cases hn : p.Add < 0
      · have x5 := f_rhex t (n := -p.Add) (by omega) (by omega)
        have xl := key ([45] ++ hexI (-p.Add)) (by unfold addM; rw [if_neg (by rw [hh]; simp), if_pos hn]; rfl)
        have g1 : ¬ (0 : Int) ≤ p.Add := by omega
        have a1 : IntKind.i64.wrap (p.Add + 1) = p.Add + 1 := wrapI64 (by omega) (by omega)
        have a2 : IntKind.i64.wrap (0 - (p.Add + 1)) = -(p.Add + 1) := by rw [wrapI64 (by omega) (by omega)]; omega
        have a3 : IntKind.u64.wrap (-(p.Add + 1)) = -(p.Add + 1) := by rw [wrap_u64]; omega
        have a4 : IntKind.u64.wrap (-(p.Add + 1) + 1) = -p.Add := by rw [wrap_u64]; omega
        have hl5 := hexI_len (-p.Add)
        have z5 : 1 + (hexI (-p.Add)).length ≤ 9223372036854775807 := by omega
        have sp : (⟨#[45]⟩ : ByteArray) ++ ⟨(hexI (-p.Add)).toArray⟩ = ⟨([45] ++ hexI (-p.Add)).toArray⟩ := append_str (l := [45])
        have sz : (⟨#[45]⟩ : ByteArray).size = 1 := rfl
        simp only [fws, seval, cond_true, cond_false, if_true, if_false, unV, isNil, optI, iV, stepI, evalR, IntKind.bits, ini, lk, cellsAt, tagOf, spotOf, rdN, spl, fillL, zr, fwh, faI_ptr, loadI_ptr, loadNI_ptr, lenI_sl, N_ref32_Rels, v0, v1, v5, v6, q, hxx, hld, g1, hn, a1, a2, a3, a4, CC_of x5, sz, sp, size_str, z5]
        refine (CC_of x1).2 ?_
        simp only [fws, seval, cond_true, cond_false, if_true, if_false, unV, isNil, optI, iV, stepI, evalR, IntKind.bits, ini, fwh, lk, cellsAt, tagOf, spotOf, rdN, spl, fillL, zr, callC, faI_ptr, loadI_ptr, loadNI_ptr, N_ref32_Rels, v0, v1, v5, v6, y0, y1, y2, CC_of x4, CC_of x2, CC_of x3, k1, k2, k3]
        refine (CC_of xl).2 ?_
        simp only [fws, seval, cond_true, cond_false, if_true, if_false, unV, isNil, optI, iV, stepI, evalR, IntKind.bits, ini, callC, size_str, append_str, N_ref32_Rels, v0, v1, v5, v6, z, w2]
        refine W.mono (ih (i + 1) (l ++ relM m p) _ _ hr2 (by rw [List.length_append]; omega) ?_ ?_ ?_ ?_) fun x e h' ⟨u1, u2⟩ => ⟨u1, by rw [hsum, ← List.append_assoc]; exact u2⟩
        all_goals (first | assumption | rfl)
      · have x5 := f_rhex t (n := p.Add) (by omega) (by omega)
        have xl := key (hexI p.Add) (by unfold addM; rw [if_neg (by rw [hh]; simp), if_neg hn])
        have g1 : (0 : Int) ≤ p.Add := by omega
        have a1 : IntKind.u64.wrap p.Add = p.Add := by rw [wrap_u64]; omega
        simp only [fws, seval, cond_true, cond_false, if_true, if_false, unV, isNil, optI, iV, stepI, evalR, IntKind.bits, ini, fwh, lk, cellsAt, tagOf, spotOf, rdN, spl, fillL, zr, faI_ptr, loadI_ptr, loadNI_ptr, lenI_sl, size_str, append_str, N_ref32_Rels, v0, v1, v5, v6, q, hxx, hld, g1, hn, a1, CC_of x5, CC_of x1, CC_of x2, CC_of x3, CC_of x4, CC_of xl, k1, k2, k3, y0, y1, y2, z, w2]
        refine W.mono (ih (i + 1) (l ++ relM m p) _ _ hr2 (by rw [List.length_append]; omega) ?_ ?_ ?_ ?_) fun x e h' ⟨u1, u2⟩ => ⟨u1, by rw [hsum, ← List.append_assoc]; exact u2⟩
        all_goals (first | assumption | rfl)
theorem f_rRels (t : DuF T) {m : Int} (hm : isU 65536 m) {o : Option (List S_api_Rel)} (ho : ∀ p ∈ lst o, OkR p) (hn : (lst o).length ≤ 1000000) (hl : (relsM m (lst o)).length ≤ 140737488355328) : FnV T 22 [.int .u16 m, slV S_api_RelE o] (strV (relsM m (lst o))) := by
  refine FnV_of (by simp [pure_int, pure_sl (E := S_api_RelE) (k := 6) (by rfl)]) ?_
  rw [Ev_fn t.rr rfl]
  simp only [F_ref32_Rels, fws, seval, cond_true, cond_false, if_true, if_false, unV, isNil, optI, iV, stepI, evalR, IntKind.bits, ini, F_ref32_Relsr0b, F_ref32_Relsr0_W, F_ref32_Relsr1b, F_ref32_Relsr1_W, F_ref32_Relsr2b, F_ref32_Relsr2_W, F_ref32_Relsr3b, F_ref32_Relsr3_W, F_ref32_Relsr5b, F_ref32_Relsr5_W, F_ref32_Relsr6b, F_ref32_Relsr6_W, F_ref32_Relsr7b, F_ref32_Relsr7_W, F_ref32_Relsr8b, F_ref32_Relsr8_W, F_ref32_Relsr8_g2, F_ref32_Relsr9b, F_ref32_Relsr9_W, F_ref32_Relsr10b, F_ref32_Relsr10_W, F_ref32_Relsr10_g2, F_ref32_Relsr11b, F_ref32_Relsr11_W, F_ref32_Relsr12b, F_ref32_Relsr12_W, F_ref32_Relsr4b, F_ref32_Relsr4_W, F_ref32_Relsl0b, F_ref32_Relsr13b, F_ref32_Relsr13_W, F_ref32_Relscb, F_ref32_Relsc_W]
  refine W.mono (loop_rRels (m := m) t hm ho hn (lst o) 0 [] _ _ rfl (by simpa using hl) ?_ ?_ ?_ ?_) fun x e H2 ⟨u1, u2⟩ => ?_
  · (first | assumption | rfl)
  · (first | assumption | rfl)
  · (first | assumption | rfl)
  · (first | assumption | rfl)
  subst u1
  simp only [fws, seval, cond_true, cond_false, if_true, if_false, unV, isNil, optI, iV, stepI, evalR, IntKind.bits, ini, N_ref32_Rels, u2]
  rfl
end
end Go.Proofs.YtdajdgjacajemaaGreat
