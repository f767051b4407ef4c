/- Symbols of a Spec, on both sides. Printed by genmr.py. -/
import Derived.Test.YtdjgknlhpdnhbaaGreatDA
namespace Go.Proofs.YtdjgknlhpdnhbaaGreat
open Go Fw
set_option linter.unusedSimpArgs false
set_option linter.unusedVariables false
set_option linter.unusedSectionVars false

def symOk (room : Int) (nd : Nat) (x : S_api_Sym) : Bool :=
  (plain x.Name && decide (x.Name ≠ [])) && plain x.Ver && !decide (x.Bind < 0) && !decide (2 < x.Bind) && (!x.Defined || !decide (room ≤ x.Value)) &&
  (x.Defined || (decide (x.Value = 0) && !x.Hidden && !decide (x.Bind = 0) && (decide (x.Ver = []) || !decide (nd = 0))))
def roomI (s : S_api_Spec) : Int := (lst s.Data).length + s.Zeros
def symsM (s : S_api_Spec) : Bool := !decide (255 < (lst s.Syms).length) && !decide (31 < (versM (lst s.Syms)).length) && (lst s.Syms).all (symOk (roomI s) (lst s.Needed).length)
section
variable {H : Heap} {s : S_api_Spec}
theorem sp0 (h : H[0]? = some (spEn s)) : loadI H (.pointer (some ⟨0, 0, none⟩)) = some (.int .u16 s.Machine, H) := by simp only [loadI_ptr, lk, cellsAt, tagOf, h]; rfl
theorem sp1 (h : H[0]? = some (spEn s)) : loadI H (.pointer (some ⟨0, 1, none⟩)) = some (strV s.Soname, H) := by simp only [loadI_ptr, lk, cellsAt, tagOf, h]; rfl
theorem sp2 (h : H[0]? = some (spEn s)) : loadI H (.pointer (some ⟨0, 2, none⟩)) = some (strV s.Runpath, H) := by simp only [loadI_ptr, lk, cellsAt, tagOf, h]; rfl
theorem sp3 (h : H[0]? = some (spEn s)) : loadI H (.pointer (some ⟨0, 3, none⟩)) = some (slV strE s.Needed, H) := by simp only [loadI_ptr, lk, cellsAt, tagOf, h]; rfl
theorem sp7 (h : H[0]? = some (spEn s)) : loadI H (.pointer (some ⟨0, 7, none⟩)) = some (slV S_api_SymE s.Syms, H) := by simp only [loadI_ptr, lk, cellsAt, tagOf, h]; rfl
theorem sp8 (h : H[0]? = some (spEn s)) : loadI H (.pointer (some ⟨0, 8, none⟩)) = some (slV S_api_RelE s.Rels, H) := by simp only [loadI_ptr, lk, cellsAt, tagOf, h]; rfl
theorem sp9 (h : H[0]? = some (spEn s)) : loadI H (.pointer (some ⟨0, 9, none⟩)) = some (slV (intE .u64) s.Relr, H) := by simp only [loadI_ptr, lk, cellsAt, tagOf, h]; rfl
theorem sp10 (h : H[0]? = some (spEn s)) : loadI H (.pointer (some ⟨0, 10, none⟩)) = some (slV byteE s.Data, H) := by simp only [loadI_ptr, lk, cellsAt, tagOf, h]; rfl
theorem sp11 (h : H[0]? = some (spEn s)) : loadI H (.pointer (some ⟨0, 11, none⟩)) = some (.int .i64 s.Zeros, H) := by simp only [loadI_ptr, lk, cellsAt, tagOf, h]; rfl
theorem sp12 (h : H[0]? = some (spEn s)) : loadI H (.pointer (some ⟨0, 12, none⟩)) = some (.int .i64 s.Relro, H) := by simp only [loadI_ptr, lk, cellsAt, tagOf, h]; rfl
theorem sp15 (h : H[0]? = some (spEn s)) : loadI H (.pointer (some ⟨0, 15, none⟩)) = some (.bool s.Rela, H) := by simp only [loadI_ptr, lk, cellsAt, tagOf, h]; rfl
theorem sp16 (h : H[0]? = some (spEn s)) : loadI H (.pointer (some ⟨0, 16, none⟩)) = some (.int .i64 s.Init, H) := by simp only [loadI_ptr, lk, cellsAt, tagOf, h]; rfl
theorem sp17 (h : H[0]? = some (spEn s)) : loadI H (.pointer (some ⟨0, 17, none⟩)) = some (.int .i64 s.Fini, H) := by simp only [loadI_ptr, lk, cellsAt, tagOf, h]; rfl
theorem spAll (h : H[0]? = some (spEn s)) : loadNI H 18 p0 = some (spA s, H) := by simp only [loadNI_ptr, lk, cellsAt, tagOf, h]; rfl
end
section
variable {T : Tab} {s : S_api_Spec}
theorem loop_msyms (t : MrF T) (hn : (lst s.Syms).length ≤ 300) (hd : (lst s.Data).length ≤ 5000) (hz0 : 0 ≤ s.Zeros) (hz1 : s.Zeros ≤ 4096) (hw : ∀ x ∈ lst s.Syms, x.Name.length ≤ maxLen ∧ x.Ver.length ≤ maxLen) : ∀ (r : List S_api_Sym) (i : Nat) (H : Heap) (env : Env), (lst s.Syms).drop i = r → H[0]? = some (spEn s) →
    env 1 = p0 → env 16 = slV S_api_SymE s.Syms → env 17 = .int .i64 (lst s.Syms).length → env 18 = .int .i64 i →
    W T (.loop F_maker_symbolsl0) env H fun z e h => (z = .exit 0 ∧ r.all (symOk (roomI s) (lst s.Needed).length) = true) ∨ (z = .ret ∧ e 2 = .bool false ∧ r.all (symOk (roomI s) (lst s.Needed).length) = false) := by
  intro r
  induction r with
  | nil =>
    intro i H env hr hz v1 v16 v17 v18
    have hi := drop_end hr
    have q : ¬ ((i : Int) < (lst s.Syms).length) := by omega
    have L7 := sp7 hz
    rw [w_loop]
    simp only [fws, seval, cond_true, cond_false, if_true, if_false, unV, isNil, optI, iV, stepI, evalR, IntKind.bits, ini, faI_ptr, Nat.zero_add, lenI_sl, L7, N_maker_symbols, v1, v16, v17, v18, q]
    exact .inl ⟨trivial, rfl⟩
  | cons p ps ih =>
    intro i H env hr hz v1 v16 v17 v18
    obtain ⟨hi, hp, hr2⟩ := drop_at hr
    have q : ((i : Int) < (lst s.Syms).length) := by omega
    have hlt : 0 < H.length := (List.getElem?_eq_some_iff.1 hz).1
    have hxx := fun H => ix_sl (E := S_api_SymE) (o := s.Syms) (n := 7) rfl hi .i64 H
    have hld := fun H => loadNI_at (E := S_api_SymE) (n := 7) (H := H) rfl hi
    obtain ⟨l1, l2⟩ := hw p (hp ▸ List.getElem_mem hi)
    rw [hp, S_api_SymE_e] at hld
    have w2 : IntKind.i64.wrap ((i : Int) + 1) = ((i + 1 : Nat) : Int) := by rw [wrapI64 (by omega) (by omega)]; rfl
    have wr : IntKind.i64.wrap (((lst s.Data).length : Int) + s.Zeros) = roomI s := wrapI64 (by omega) (by omega)
    have wu : IntKind.u64.wrap (roomI s) = roomI s := by rw [wrap_u64]; unfold roomI; omega
    have hz1 : (H ++ [syEn p])[0]? = some (spEn s) := by rw [List.getElem?_append_left hlt]; exact hz
    have L7' := sp7 hz
    have L3 := sp3 hz1
    have L7 := sp7 hz1
    have L10 := sp10 hz1
    have L11 := sp11 hz1
    have y0 : loadI (H ++ [syEn p]) (.pointer (some ⟨H.length, 0, none⟩)) = some (strV p.Name, H ++ [syEn p]) := by simp only [loadI_ptr, lk, cellsAt, tagOf, app_get0]; rfl
    have y1 : loadI (H ++ [syEn p]) (.pointer (some ⟨H.length, 1, none⟩)) = some (strV p.Ver, H ++ [syEn p]) := by simp only [loadI_ptr, lk, cellsAt, tagOf, app_get0]; rfl
    have y2 : loadI (H ++ [syEn p]) (.pointer (some ⟨H.length, 2, none⟩)) = some (.bool p.Hidden, H ++ [syEn p]) := by simp only [loadI_ptr, lk, cellsAt, tagOf, app_get0]; rfl
    have y3 : loadI (H ++ [syEn p]) (.pointer (some ⟨H.length, 3, none⟩)) = some (.int .i64 p.Bind, H ++ [syEn p]) := by simp only [loadI_ptr, lk, cellsAt, tagOf, app_get0]; rfl
    have y4 : loadI (H ++ [syEn p]) (.pointer (some ⟨H.length, 4, none⟩)) = some (.bool p.Defined, H ++ [syEn p]) := by simp only [loadI_ptr, lk, cellsAt, tagOf, app_get0]; rfl
    have y5 : loadI (H ++ [syEn p]) (.pointer (some ⟨H.length, 5, none⟩)) = some (.int .u64 p.Value, H ++ [syEn p]) := by simp only [loadI_ptr, lk, cellsAt, tagOf, app_get0]; rfl
    clear hp
    obtain ⟨nm, vr, hid, bd, df, vl, sz⟩ := p
    simp only [] at hld y0 y1 y2 y3 y4 y5 hz1 L3 L7 L10 L11 l1 l2
    have c1 := f_mtext t nm false
    have c2 := f_mtext t vr true
    rw [Bool.or_false] at c1
    rw [Bool.or_true, Bool.and_true] at c2
    cases b1 : (plain nm && decide (nm ≠ [])) with
    | false =>
      rw [b1] at c1
      have hf : symOk (roomI s) (lst s.Needed).length ⟨nm, vr, hid, bd, df, vl, sz⟩ = false := by unfold symOk; simp only [b1, Bool.false_and]
      rw [w_loop]
      simp only [fws, seval, cond_true, cond_false, if_true, if_false, unV, isNil, optI, iV, stepI, evalR, IntKind.bits, ini, fwh, lk, cellsAt, tagOf, spotOf, rdN, spl, fillL, zr, faI_ptr, lenI_sl, N_maker_symbols, v1, v16, v17, v18, q, hxx, hld, L7', L3, L7, L10, L11, y0, y1, y2, y3, y4, y5, wr, wu, w2, CC_of c1]
      exact .inr ⟨trivial, trivial, by simp only [List.all_cons, hf, Bool.false_and]⟩
    | true =>
      rw [b1] at c1
      simp only [Bool.and_eq_true, decide_eq_true_eq] at b1
      cases b2 : plain vr with
      | false =>
        rw [b2] at c2
        have hf : symOk (roomI s) (lst s.Needed).length ⟨nm, vr, hid, bd, df, vl, sz⟩ = false := by simp [symOk, b1, b2]
        rw [w_loop]
        simp only [fws, seval, cond_true, cond_false, if_true, if_false, unV, isNil, optI, iV, stepI, evalR, IntKind.bits, ini, fwh, lk, cellsAt, tagOf, spotOf, rdN, spl, fillL, zr, faI_ptr, lenI_sl, N_maker_symbols, v1, v16, v17, v18, q, hxx, hld, L7', L3, L7, L10, L11, y0, y1, y2, y3, y4, y5, wr, wu, w2, CC_of c1, CC_of c2]
        exact .inr ⟨trivial, trivial, by simp only [List.all_cons, hf, Bool.false_and]⟩
      | true =>
        rw [b2] at c2
        by_cases b3 : bd < 0
        · skip
          have hf : symOk (roomI s) (lst s.Needed).length ⟨nm, vr, hid, bd, df, vl, sz⟩ = false := by simp [symOk, b1, b2, b3]
          rw [w_loop]
          simp only [fws, seval, cond_true, cond_false, if_true, if_false, unV, isNil, optI, iV, stepI, evalR, IntKind.bits, ini, fwh, lk, cellsAt, tagOf, spotOf, rdN, spl, fillL, zr, faI_ptr, lenI_sl, N_maker_symbols, v1, v16, v17, v18, q, hxx, hld, L7', L3, L7, L10, L11, y0, y1, y2, y3, y4, y5, wr, wu, w2, CC_of c1, CC_of c2, b3]
          exact .inr ⟨trivial, trivial, by simp only [List.all_cons, hf, Bool.false_and]⟩
        by_cases b4 : 2 < bd
        · skip
          have hf : symOk (roomI s) (lst s.Needed).length ⟨nm, vr, hid, bd, df, vl, sz⟩ = false := by simp [symOk, b1, b2, b3, b4]
          rw [w_loop]
          simp only [fws, seval, cond_true, cond_false, if_true, if_false, unV, isNil, optI, iV, stepI, evalR, IntKind.bits, ini, fwh, lk, cellsAt, tagOf, spotOf, rdN, spl, fillL, zr, faI_ptr, lenI_sl, N_maker_symbols, v1, v16, v17, v18, q, hxx, hld, L7', L3, L7, L10, L11, y0, y1, y2, y3, y4, y5, wr, wu, w2, CC_of c1, CC_of c2, b3, b4]
          exact .inr ⟨trivial, trivial, by simp only [List.all_cons, hf, Bool.false_and]⟩
        cases df with
        | true =>
          by_cases b5 : roomI s ≤ vl
          · skip
            have hf : symOk (roomI s) (lst s.Needed).length ⟨nm, vr, hid, bd, true, vl, sz⟩ = false := by simp [symOk, b1, b2, b3, b4, b5]
            rw [w_loop]
            simp only [fws, seval, cond_true, cond_false, if_true, if_false, unV, isNil, optI, iV, stepI, evalR, IntKind.bits, ini, fwh, lk, cellsAt, tagOf, spotOf, rdN, spl, fillL, zr, faI_ptr, lenI_sl, N_maker_symbols, v1, v16, v17, v18, q, hxx, hld, L7', L3, L7, L10, L11, y0, y1, y2, y3, y4, y5, wr, wu, w2, CC_of c1, CC_of c2, b3, b4, b5]
            exact .inr ⟨trivial, trivial, by simp only [List.all_cons, hf, Bool.false_and]⟩
          have hf : symOk (roomI s) (lst s.Needed).length ⟨nm, vr, hid, bd, true, vl, sz⟩ = true := by simp [symOk, b1, b2, b3, b4, b5]
          rw [w_loop, List.all_cons, hf, Bool.true_and]
          simp only [fws, seval, cond_true, cond_false, if_true, if_false, unV, isNil, optI, iV, stepI, evalR, IntKind.bits, ini, fwh, lk, cellsAt, tagOf, spotOf, rdN, spl, fillL, zr, faI_ptr, lenI_sl, N_maker_symbols, v1, v16, v17, v18, q, hxx, hld, L7', L3, L7, L10, L11, y0, y1, y2, y3, y4, y5, wr, wu, w2, CC_of c1, CC_of c2, b3, b4, b5]
          refine ih (i + 1) _ _ hr2 hz1 ?_ ?_ ?_ ?_
          all_goals (first | assumption | rfl)
        | false =>
          by_cases b5 : vl = 0
          · have d5 : decide (vl = 0) = true := decide_eq_true b5
            cases hid with
            | true =>
              have hf : symOk (roomI s) (lst s.Needed).length ⟨nm, vr, true, bd, false, vl, sz⟩ = false := by simp [symOk, b1, b2, b3, b4, b5]
              rw [w_loop]
              simp only [fws, seval, cond_true, cond_false, if_true, if_false, unV, isNil, optI, iV, stepI, evalR, IntKind.bits, ini, fwh, lk, cellsAt, tagOf, spotOf, rdN, spl, fillL, zr, faI_ptr, lenI_sl, N_maker_symbols, v1, v16, v17, v18, q, hxx, hld, L7', L3, L7, L10, L11, y0, y1, y2, y3, y4, y5, wr, wu, w2, CC_of c1, CC_of c2, b3, b4, d5]
              exact .inr ⟨trivial, trivial, by simp only [List.all_cons, hf, Bool.false_and]⟩
            | false =>
              by_cases b6 : bd = 0
              · have d6 : decide (bd = 0) = true := decide_eq_true b6
                have hf : symOk (roomI s) (lst s.Needed).length ⟨nm, vr, false, bd, false, vl, sz⟩ = false := by simp [symOk, b1, b2, b3, b4, b5, b6]
                rw [w_loop]
                simp only [fws, seval, cond_true, cond_false, if_true, if_false, unV, isNil, optI, iV, stepI, evalR, IntKind.bits, ini, fwh, lk, cellsAt, tagOf, spotOf, rdN, spl, fillL, zr, faI_ptr, lenI_sl, N_maker_symbols, v1, v16, v17, v18, q, hxx, hld, L7', L3, L7, L10, L11, y0, y1, y2, y3, y4, y5, wr, wu, w2, CC_of c1, CC_of c2, b3, b4, d5, d6]
                exact .inr ⟨trivial, trivial, by simp only [List.all_cons, hf, Bool.false_and]⟩
              by_cases b7 : vr = []
              · have z7 := nil_str b7
                have hf : symOk (roomI s) (lst s.Needed).length ⟨nm, vr, false, bd, false, vl, sz⟩ = true := by simp [symOk, b1, b2, b3, b4, b5, b6, b7, (show plain [] = true from rfl)]
                rw [w_loop, List.all_cons, hf, Bool.true_and]
                simp only [fws, seval, cond_true, cond_false, if_true, if_false, unV, isNil, optI, iV, stepI, evalR, IntKind.bits, ini, fwh, lk, cellsAt, tagOf, spotOf, rdN, spl, fillL, zr, faI_ptr, lenI_sl, N_maker_symbols, v1, v16, v17, v18, q, hxx, hld, L7', L3, L7, L10, L11, y0, y1, y2, y3, y4, y5, wr, wu, w2, CC_of c1, CC_of c2, b3, b4, d5, b6, z7]
                refine ih (i + 1) _ _ hr2 hz1 ?_ ?_ ?_ ?_
                all_goals (first | assumption | rfl)
              have z7 := ne_str b7
              by_cases b8 : ((lst s.Needed).length : Int) = 0
              · have b8' : (lst s.Needed).length = 0 := by omega
                have hf : symOk (roomI s) (lst s.Needed).length ⟨nm, vr, false, bd, false, vl, sz⟩ = false := by simp [symOk, b1, b2, b3, b4, b5, b6, b7, b8']
                rw [w_loop]
                simp only [fws, seval, cond_true, cond_false, if_true, if_false, unV, isNil, optI, iV, stepI, evalR, IntKind.bits, ini, fwh, lk, cellsAt, tagOf, spotOf, rdN, spl, fillL, zr, faI_ptr, lenI_sl, N_maker_symbols, v1, v16, v17, v18, q, hxx, hld, L7', L3, L7, L10, L11, y0, y1, y2, y3, y4, y5, wr, wu, w2, CC_of c1, CC_of c2, b3, b4, d5, b6, z7, b8]
                exact .inr ⟨trivial, trivial, by simp only [List.all_cons, hf, Bool.false_and]⟩
              have b8' : ¬ (lst s.Needed).length = 0 := by omega
              have hf : symOk (roomI s) (lst s.Needed).length ⟨nm, vr, false, bd, false, vl, sz⟩ = true := by simp [symOk, b1, b2, b3, b4, b5, b6, b7, b8']
              rw [w_loop, List.all_cons, hf, Bool.true_and]
              simp only [fws, seval, cond_true, cond_false, if_true, if_false, unV, isNil, optI, iV, stepI, evalR, IntKind.bits, ini, fwh, lk, cellsAt, tagOf, spotOf, rdN, spl, fillL, zr, faI_ptr, lenI_sl, N_maker_symbols, v1, v16, v17, v18, q, hxx, hld, L7', L3, L7, L10, L11, y0, y1, y2, y3, y4, y5, wr, wu, w2, CC_of c1, CC_of c2, b3, b4, d5, b6, z7, b8]
              refine ih (i + 1) _ _ hr2 hz1 ?_ ?_ ?_ ?_
              all_goals (first | assumption | rfl)
          · skip
            have hf : symOk (roomI s) (lst s.Needed).length ⟨nm, vr, hid, bd, false, vl, sz⟩ = false := by simp [symOk, b1, b2, b3, b4, b5]
            rw [w_loop]
            simp only [fws, seval, cond_true, cond_false, if_true, if_false, unV, isNil, optI, iV, stepI, evalR, IntKind.bits, ini, fwh, lk, cellsAt, tagOf, spotOf, rdN, spl, fillL, zr, faI_ptr, lenI_sl, N_maker_symbols, v1, v16, v17, v18, q, hxx, hld, L7', L3, L7, L10, L11, y0, y1, y2, y3, y4, y5, wr, wu, w2, CC_of c1, CC_of c2, b3, b4, b5]
            exact .inr ⟨trivial, trivial, by simp only [List.all_cons, hf, Bool.false_and]⟩
theorem loop_rsyms (t : MrF T) (hn : (lst s.Syms).length ≤ 300) (hd : (lst s.Data).length ≤ 5000) (hz0 : 0 ≤ s.Zeros) (hz1 : s.Zeros ≤ 4096) (hw : ∀ x ∈ lst s.Syms, x.Name.length ≤ maxLen ∧ x.Ver.length ≤ maxLen) : ∀ (r : List S_api_Sym) (i : Nat) (H : Heap) (env : Env), (lst s.Syms).drop i = r → H[0]? = some (spEn s) →
    env 1 = p0 → env 3 = .int .i64 i →
    W T (.loop F_ref17_symbolsl0) env H fun z e h => (z = .exit 0 ∧ r.all (symOk (roomI s) (lst s.Needed).length) = true) ∨ (z = .ret ∧ e 2 = .bool false ∧ r.all (symOk (roomI s) (lst s.Needed).length) = false) := by
  intro r
  induction r with
  | nil =>
    intro i H env hr hz v1 v3
    have hi := drop_end hr
    have q : ¬ ((i : Int) < (lst s.Syms).length) := by omega
    have L7 := sp7 hz
    rw [w_loop]
    simp only [fws, seval, cond_true, cond_false, if_true, if_false, unV, isNil, optI, iV, stepI, evalR, IntKind.bits, ini, faI_ptr, Nat.zero_add, lenI_sl, L7, N_ref17_symbols, v1, v3, q]
    exact .inl ⟨trivial, rfl⟩
  | cons p ps ih =>
    intro i H env hr hz v1 v3
    obtain ⟨hi, hp, hr2⟩ := drop_at hr
    have q : ((i : Int) < (lst s.Syms).length) := by omega
    have hlt : 0 < H.length := (List.getElem?_eq_some_iff.1 hz).1
    have hxx := fun H => ix_sl (E := S_api_SymE) (o := s.Syms) (n := 7) rfl hi .i64 H
    have hld := fun H => loadNI_at (E := S_api_SymE) (n := 7) (H := H) rfl hi
    obtain ⟨l1, l2⟩ := hw p (hp ▸ List.getElem_mem hi)
    rw [hp, S_api_SymE_e] at hld
    have w2 : IntKind.i64.wrap ((i : Int) + 1) = ((i + 1 : Nat) : Int) := by rw [wrapI64 (by omega) (by omega)]; rfl
    have wr : IntKind.i64.wrap (((lst s.Data).length : Int) + s.Zeros) = roomI s := wrapI64 (by omega) (by omega)
    have wu : IntKind.u64.wrap (roomI s) = roomI s := by rw [wrap_u64]; unfold roomI; omega
    have hz1 : (H ++ [syEn p])[0]? = some (spEn s) := by rw [List.getElem?_append_left hlt]; exact hz
    have L7' := sp7 hz
    have L3 := sp3 hz1
    have L7 := sp7 hz1
    have L10 := sp10 hz1
    have L11 := sp11 hz1
    have y0 : loadI (H ++ [syEn p]) (.pointer (some ⟨H.length, 0, none⟩)) = some (strV p.Name, H ++ [syEn p]) := by simp only [loadI_ptr, lk, cellsAt, tagOf, app_get0]; rfl
    have y1 : loadI (H ++ [syEn p]) (.pointer (some ⟨H.length, 1, none⟩)) = some (strV p.Ver, H ++ [syEn p]) := by simp only [loadI_ptr, lk, cellsAt, tagOf, app_get0]; rfl
    have y2 : loadI (H ++ [syEn p]) (.pointer (some ⟨H.length, 2, none⟩)) = some (.bool p.Hidden, H ++ [syEn p]) := by simp only [loadI_ptr, lk, cellsAt, tagOf, app_get0]; rfl
    have y3 : loadI (H ++ [syEn p]) (.pointer (some ⟨H.length, 3, none⟩)) = some (.int .i64 p.Bind, H ++ [syEn p]) := by simp only [loadI_ptr, lk, cellsAt, tagOf, app_get0]; rfl
    have y4 : loadI (H ++ [syEn p]) (.pointer (some ⟨H.length, 4, none⟩)) = some (.bool p.Defined, H ++ [syEn p]) := by simp only [loadI_ptr, lk, cellsAt, tagOf, app_get0]; rfl
    have y5 : loadI (H ++ [syEn p]) (.pointer (some ⟨H.length, 5, none⟩)) = some (.int .u64 p.Value, H ++ [syEn p]) := by simp only [loadI_ptr, lk, cellsAt, tagOf, app_get0]; rfl
    clear hp
    obtain ⟨nm, vr, hid, bd, df, vl, sz⟩ := p
    simp only [] at hld y0 y1 y2 y3 y4 y5 hz1 L3 L7 L10 L11 l1 l2
    have c1 := f_ref02_Plain t.rp nm (by have : maxLen = 9223372036854775807 := rfl; omega)
    have c2 := f_ref02_Plain t.rp vr (by have : maxLen = 9223372036854775807 := rfl; omega)
    cases b1 : plain nm with
    | false =>
      rw [b1] at c1
      have hf : symOk (roomI s) (lst s.Needed).length ⟨nm, vr, hid, bd, df, vl, sz⟩ = false := by simp [symOk, b1]
      rw [w_loop]
      simp only [fws, seval, cond_true, cond_false, if_true, if_false, unV, isNil, optI, iV, stepI, evalR, IntKind.bits, ini, fwh, lk, cellsAt, tagOf, spotOf, rdN, spl, fillL, zr, faI_ptr, lenI_sl, N_ref17_symbols, v1, v3, q, hxx, hld, L7', L3, L7, L10, L11, y0, y1, y2, y3, y4, y5, wr, wu, w2, CC_of c1]
      exact .inr ⟨trivial, trivial, by simp only [List.all_cons, hf, Bool.false_and]⟩
    | true =>
      rw [b1] at c1
      by_cases b0 : nm = []
      · have z0 := nil_str b0
        have hf : symOk (roomI s) (lst s.Needed).length ⟨nm, vr, hid, bd, df, vl, sz⟩ = false := by simp [symOk, b1, b0]
        rw [w_loop]
        simp only [fws, seval, cond_true, cond_false, if_true, if_false, unV, isNil, optI, iV, stepI, evalR, IntKind.bits, ini, fwh, lk, cellsAt, tagOf, spotOf, rdN, spl, fillL, zr, faI_ptr, lenI_sl, N_ref17_symbols, v1, v3, q, hxx, hld, L7', L3, L7, L10, L11, y0, y1, y2, y3, y4, y5, wr, wu, w2, CC_of c1, z0]
        exact .inr ⟨trivial, trivial, by simp only [List.all_cons, hf, Bool.false_and]⟩
      have z0 := ne_str b0
      cases b2 : plain vr with
      | false =>
        rw [b2] at c2
        have hf : symOk (roomI s) (lst s.Needed).length ⟨nm, vr, hid, bd, df, vl, sz⟩ = false := by simp [symOk, b1, b0, b2]
        rw [w_loop]
        simp only [fws, seval, cond_true, cond_false, if_true, if_false, unV, isNil, optI, iV, stepI, evalR, IntKind.bits, ini, fwh, lk, cellsAt, tagOf, spotOf, rdN, spl, fillL, zr, faI_ptr, lenI_sl, N_ref17_symbols, v1, v3, q, hxx, hld, L7', L3, L7, L10, L11, y0, y1, y2, y3, y4, y5, wr, wu, w2, CC_of c1, z0, CC_of c2]
        exact .inr ⟨trivial, trivial, by simp only [List.all_cons, hf, Bool.false_and]⟩
      | true =>
        rw [b2] at c2
        by_cases b3 : bd < 0
        · skip
          have hf : symOk (roomI s) (lst s.Needed).length ⟨nm, vr, hid, bd, df, vl, sz⟩ = false := by simp [symOk, b1, b0, b2, b3]
          rw [w_loop]
          simp only [fws, seval, cond_true, cond_false, if_true, if_false, unV, isNil, optI, iV, stepI, evalR, IntKind.bits, ini, fwh, lk, cellsAt, tagOf, spotOf, rdN, spl, fillL, zr, faI_ptr, lenI_sl, N_ref17_symbols, v1, v3, q, hxx, hld, L7', L3, L7, L10, L11, y0, y1, y2, y3, y4, y5, wr, wu, w2, CC_of c1, z0, CC_of c2, b3]
          exact .inr ⟨trivial, trivial, by simp only [List.all_cons, hf, Bool.false_and]⟩
        by_cases b4 : 2 < bd
        · skip
          have hf : symOk (roomI s) (lst s.Needed).length ⟨nm, vr, hid, bd, df, vl, sz⟩ = false := by simp [symOk, b1, b0, b2, b3, b4]
          rw [w_loop]
          simp only [fws, seval, cond_true, cond_false, if_true, if_false, unV, isNil, optI, iV, stepI, evalR, IntKind.bits, ini, fwh, lk, cellsAt, tagOf, spotOf, rdN, spl, fillL, zr, faI_ptr, lenI_sl, N_ref17_symbols, v1, v3, q, hxx, hld, L7', L3, L7, L10, L11, y0, y1, y2, y3, y4, y5, wr, wu, w2, CC_of c1, z0, CC_of c2, b3, b4]
          exact .inr ⟨trivial, trivial, by simp only [List.all_cons, hf, Bool.false_and]⟩
        cases df with
        | true =>
          by_cases b5 : roomI s ≤ vl
          · skip
            have hf : symOk (roomI s) (lst s.Needed).length ⟨nm, vr, hid, bd, true, vl, sz⟩ = false := by simp [symOk, b1, b0, b2, b3, b4, b5]
            rw [w_loop]
            simp only [fws, seval, cond_true, cond_false, if_true, if_false, unV, isNil, optI, iV, stepI, evalR, IntKind.bits, ini, fwh, lk, cellsAt, tagOf, spotOf, rdN, spl, fillL, zr, faI_ptr, lenI_sl, N_ref17_symbols, v1, v3, q, hxx, hld, L7', L3, L7, L10, L11, y0, y1, y2, y3, y4, y5, wr, wu, w2, CC_of c1, z0, CC_of c2, b3, b4, b5]
            exact .inr ⟨trivial, trivial, by simp only [List.all_cons, hf, Bool.false_and]⟩
          have hf : symOk (roomI s) (lst s.Needed).length ⟨nm, vr, hid, bd, true, vl, sz⟩ = true := by simp [symOk, b1, b0, b2, b3, b4, b5]
          rw [w_loop, List.all_cons, hf, Bool.true_and]
          simp only [fws, seval, cond_true, cond_false, if_true, if_false, unV, isNil, optI, iV, stepI, evalR, IntKind.bits, ini, fwh, lk, cellsAt, tagOf, spotOf, rdN, spl, fillL, zr, faI_ptr, lenI_sl, N_ref17_symbols, v1, v3, q, hxx, hld, L7', L3, L7, L10, L11, y0, y1, y2, y3, y4, y5, wr, wu, w2, CC_of c1, z0, CC_of c2, b3, b4, b5]
          refine ih (i + 1) _ _ hr2 hz1 ?_ ?_
          all_goals (first | assumption | rfl)
        | false =>
          by_cases b5 : vl = 0
          · have d5 : decide (vl = 0) = true := decide_eq_true b5
            cases hid with
            | true =>
              have hf : symOk (roomI s) (lst s.Needed).length ⟨nm, vr, true, bd, false, vl, sz⟩ = false := by simp [symOk, b1, b0, b2, b3, b4, b5]
              rw [w_loop]
              simp only [fws, seval, cond_true, cond_false, if_true, if_false, unV, isNil, optI, iV, stepI, evalR, IntKind.bits, ini, fwh, lk, cellsAt, tagOf, spotOf, rdN, spl, fillL, zr, faI_ptr, lenI_sl, N_ref17_symbols, v1, v3, q, hxx, hld, L7', L3, L7, L10, L11, y0, y1, y2, y3, y4, y5, wr, wu, w2, CC_of c1, z0, CC_of c2, b3, b4, d5]
              exact .inr ⟨trivial, trivial, by simp only [List.all_cons, hf, Bool.false_and]⟩
            | false =>
              by_cases b6 : bd = 0
              · have d6 : decide (bd = 0) = true := decide_eq_true b6
                have hf : symOk (roomI s) (lst s.Needed).length ⟨nm, vr, false, bd, false, vl, sz⟩ = false := by simp [symOk, b1, b0, b2, b3, b4, b5, b6]
                rw [w_loop]
                simp only [fws, seval, cond_true, cond_false, if_true, if_false, unV, isNil, optI, iV, stepI, evalR, IntKind.bits, ini, fwh, lk, cellsAt, tagOf, spotOf, rdN, spl, fillL, zr, faI_ptr, lenI_sl, N_ref17_symbols, v1, v3, q, hxx, hld, L7', L3, L7, L10, L11, y0, y1, y2, y3, y4, y5, wr, wu, w2, CC_of c1, z0, CC_of c2, b3, b4, d5, d6]
                exact .inr ⟨trivial, trivial, by simp only [List.all_cons, hf, Bool.false_and]⟩
              by_cases b7 : vr = []
              · have z7 := nil_str b7
                have hf : symOk (roomI s) (lst s.Needed).length ⟨nm, vr, false, bd, false, vl, sz⟩ = true := by simp [symOk, b1, b0, b2, b3, b4, b5, b6, b7, (show plain [] = true from rfl)]
                rw [w_loop, List.all_cons, hf, Bool.true_and]
                simp only [fws, seval, cond_true, cond_false, if_true, if_false, unV, isNil, optI, iV, stepI, evalR, IntKind.bits, ini, fwh, lk, cellsAt, tagOf, spotOf, rdN, spl, fillL, zr, faI_ptr, lenI_sl, N_ref17_symbols, v1, v3, q, hxx, hld, L7', L3, L7, L10, L11, y0, y1, y2, y3, y4, y5, wr, wu, w2, CC_of c1, z0, CC_of c2, b3, b4, d5, b6, z7]
                refine ih (i + 1) _ _ hr2 hz1 ?_ ?_
                all_goals (first | assumption | rfl)
              have z7 := ne_str b7
              by_cases b8 : ((lst s.Needed).length : Int) = 0
              · have b8' : (lst s.Needed).length = 0 := by omega
                have hf : symOk (roomI s) (lst s.Needed).length ⟨nm, vr, false, bd, false, vl, sz⟩ = false := by simp [symOk, b1, b0, b2, b3, b4, b5, b6, b7, b8']
                rw [w_loop]
                simp only [fws, seval, cond_true, cond_false, if_true, if_false, unV, isNil, optI, iV, stepI, evalR, IntKind.bits, ini, fwh, lk, cellsAt, tagOf, spotOf, rdN, spl, fillL, zr, faI_ptr, lenI_sl, N_ref17_symbols, v1, v3, q, hxx, hld, L7', L3, L7, L10, L11, y0, y1, y2, y3, y4, y5, wr, wu, w2, CC_of c1, z0, CC_of c2, b3, b4, d5, b6, z7, b8]
                exact .inr ⟨trivial, trivial, by simp only [List.all_cons, hf, Bool.false_and]⟩
              have b8' : ¬ (lst s.Needed).length = 0 := by omega
              have hf : symOk (roomI s) (lst s.Needed).length ⟨nm, vr, false, bd, false, vl, sz⟩ = true := by simp [symOk, b1, b0, b2, b3, b4, b5, b6, b7, b8']
              rw [w_loop, List.all_cons, hf, Bool.true_and]
              simp only [fws, seval, cond_true, cond_false, if_true, if_false, unV, isNil, optI, iV, stepI, evalR, IntKind.bits, ini, fwh, lk, cellsAt, tagOf, spotOf, rdN, spl, fillL, zr, faI_ptr, lenI_sl, N_ref17_symbols, v1, v3, q, hxx, hld, L7', L3, L7, L10, L11, y0, y1, y2, y3, y4, y5, wr, wu, w2, CC_of c1, z0, CC_of c2, b3, b4, d5, b6, z7, b8]
              refine ih (i + 1) _ _ hr2 hz1 ?_ ?_
              all_goals (first | assumption | rfl)
          · skip
            have hf : symOk (roomI s) (lst s.Needed).length ⟨nm, vr, hid, bd, false, vl, sz⟩ = false := by simp [symOk, b1, b0, b2, b3, b4, b5]
            rw [w_loop]
            simp only [fws, seval, cond_true, cond_false, if_true, if_false, unV, isNil, optI, iV, stepI, evalR, IntKind.bits, ini, fwh, lk, cellsAt, tagOf, spotOf, rdN, spl, fillL, zr, faI_ptr, lenI_sl, N_ref17_symbols, v1, v3, q, hxx, hld, L7', L3, L7, L10, L11, y0, y1, y2, y3, y4, y5, wr, wu, w2, CC_of c1, z0, CC_of c2, b3, b4, b5]
            exact .inr ⟨trivial, trivial, by simp only [List.all_cons, hf, Bool.false_and]⟩
end
end Go.Proofs.YtdjgknlhpdnhbaaGreat
/- Symbols, whole; the relocations of a Spec: each by itself. -/
namespace Go.Proofs.YtdjgknlhpdnhbaaGreat
open Go Fw
set_option linter.unusedSimpArgs false
set_option linter.unusedVariables false
set_option linter.unusedSectionVars false

/-- What is known of a Spec that isn't too great. -/
structure OkSp (s : S_api_Spec) : Prop where
  mc0 : 0 ≤ s.Machine
  mc1 : s.Machine < 65536
  so : s.Soname.length ≤ maxLen
  rp : s.Runpath.length ≤ maxLen
  nd : (lst s.Needed).length ≤ 100
  nl : ∀ x ∈ lst s.Needed, x.length ≤ maxLen
  sy : (lst s.Syms).length ≤ 300
  sl : ∀ x ∈ lst s.Syms, x.Name.length ≤ maxLen ∧ x.Ver.length ≤ maxLen
  rl : (lst s.Rels).length ≤ 600
  rw : ∀ x ∈ lst s.Rels, isU64 x.At ∧ (0 ≤ x.Typ ∧ x.Typ < 4294967296) ∧ 0 ≤ x.Sym ∧ x.Sym < 4294967296
  rr : (lst s.Relr).length ≤ 600
  ru : ∀ x ∈ lst s.Relr, isU64 x
  da : (lst s.Data).length ≤ 5000
section
variable {T : Tab} {s : S_api_Spec}
theorem f_msyms (t : MrF T) (k : OkSp s) (hz0 : 0 ≤ s.Zeros) (hz1 : s.Zeros ≤ 4096) : FnV T 22 [spA s] (.bool (symsM s)) := by
  refine FnV_of (pure_sp s) ?_
  rw [Ev_fn t.ms rfl]
  obtain ⟨o, ho, c⟩ := f_mvers t k.sy
  have L7 : loadI [spEn s] (.pointer (some ⟨0, 7, none⟩)) = some (slV S_api_SymE s.Syms, [spEn s]) := sp7 rfl
  have LA : loadNI [spEn s] 18 p0 = some (spA s, [spEn s]) := spAll rfl
  simp only [F_maker_symbols, fws, box_sp, F_maker_symbolsr0b, F_maker_symbolsr0_W, F_maker_symbolsr1b, F_maker_symbolsr2b, F_maker_symbolsr2_W, F_maker_symbolsr3b, F_maker_symbolsr4b, F_maker_symbolsr4_W, F_maker_symbolsr5b, F_maker_symbolsr5_W, F_maker_symbolsr6b, F_maker_symbolsr6_W, F_maker_symbolsr6_g4, F_maker_symbolsr6_g10, F_maker_symbolsr6_g15, F_maker_symbolsr7b, F_maker_symbolsr7_W, F_maker_symbolsr8b, F_maker_symbolsr8_W, F_maker_symbolsr8_g2, F_maker_symbolsr9b, F_maker_symbolsr9_W, F_maker_symbolsr10b, F_maker_symbolsr10_W, F_maker_symbolsr10_g3, F_maker_symbolsr10_g7, F_maker_symbolsr10_g11, F_maker_symbolsr10_g16, F_maker_symbolsr10_g20, F_maker_symbolsr11b, F_maker_symbolsr11_W, F_maker_symbolsr12b, F_maker_symbolsr12_W, F_maker_symbolsl0b, F_maker_symbolsr13b, F_maker_symbolsr13_W, F_maker_symbolscb, F_maker_symbolsc_W]
  unfold symsM
  by_cases a1 : (256 : Int) ≤ (lst s.Syms).length
  · have e1 : decide (255 < (lst s.Syms).length) = true := decide_eq_true (by omega)
    simp only [fws, seval, cond_true, cond_false, if_true, if_false, unV, isNil, optI, iV, stepI, evalR, IntKind.bits, ini, faI_ptr, Nat.zero_add, lenI_sl, F_maker_symbolsr0b, F_maker_symbolsr0_W, F_maker_symbolsr1b, F_maker_symbolsr1_W, F_maker_symbolsr1_g4, F_maker_symbolsr2b, F_maker_symbolsr2_W, F_maker_symbolsr3b, F_maker_symbolsr4b, F_maker_symbolsr4_W, F_maker_symbolsr5b, F_maker_symbolsr5_W, F_maker_symbolsr6b, F_maker_symbolsr6_W, F_maker_symbolsr6_g4, F_maker_symbolsr6_g10, F_maker_symbolsr6_g15, F_maker_symbolsr7b, F_maker_symbolsr7_W, F_maker_symbolsr8b, F_maker_symbolsr8_W, F_maker_symbolsr8_g2, F_maker_symbolsr9b, F_maker_symbolsr9_W, F_maker_symbolsr10b, F_maker_symbolsr10_W, F_maker_symbolsr10_g3, F_maker_symbolsr10_g7, F_maker_symbolsr10_g11, F_maker_symbolsr10_g16, F_maker_symbolsr10_g20, F_maker_symbolsr11b, F_maker_symbolsr11_W, F_maker_symbolsr12b, F_maker_symbolsr12_W, F_maker_symbolsl0b, F_maker_symbolsr13b, F_maker_symbolsr13_W, F_maker_symbolscb, F_maker_symbolsc_W, L7, a1, e1]
    rfl
  have e1 : decide (255 < (lst s.Syms).length) = false := decide_eq_false (by omega)
  rw [← ho]
  by_cases a2 : (31 : Int) < (lst o).length
  · have e2 : decide (31 < (lst o).length) = true := decide_eq_true (by omega)
    simp only [fws, seval, cond_true, cond_false, if_true, if_false, unV, isNil, optI, iV, stepI, evalR, IntKind.bits, ini, faI_ptr, Nat.zero_add, lenI_sl, F_maker_symbolsr0b, F_maker_symbolsr0_W, F_maker_symbolsr1b, F_maker_symbolsr1_W, F_maker_symbolsr1_g4, F_maker_symbolsr2b, F_maker_symbolsr2_W, F_maker_symbolsr3b, F_maker_symbolsr4b, F_maker_symbolsr4_W, F_maker_symbolsr5b, F_maker_symbolsr5_W, F_maker_symbolsr6b, F_maker_symbolsr6_W, F_maker_symbolsr6_g4, F_maker_symbolsr6_g10, F_maker_symbolsr6_g15, F_maker_symbolsr7b, F_maker_symbolsr7_W, F_maker_symbolsr8b, F_maker_symbolsr8_W, F_maker_symbolsr8_g2, F_maker_symbolsr9b, F_maker_symbolsr9_W, F_maker_symbolsr10b, F_maker_symbolsr10_W, F_maker_symbolsr10_g3, F_maker_symbolsr10_g7, F_maker_symbolsr10_g11, F_maker_symbolsr10_g16, F_maker_symbolsr10_g20, F_maker_symbolsr11b, F_maker_symbolsr11_W, F_maker_symbolsr12b, F_maker_symbolsr12_W, F_maker_symbolsl0b, F_maker_symbolsr13b, F_maker_symbolsr13_W, F_maker_symbolscb, F_maker_symbolsc_W, L7, LA, CC_of c, a1, a2, e1, e2]
    rfl
  have e2 : decide (31 < (lst o).length) = false := decide_eq_false (by omega)
  simp only [fws, seval, cond_true, cond_false, if_true, if_false, unV, isNil, optI, iV, stepI, evalR, IntKind.bits, ini, faI_ptr, Nat.zero_add, lenI_sl, F_maker_symbolsr0b, F_maker_symbolsr0_W, F_maker_symbolsr1b, F_maker_symbolsr1_W, F_maker_symbolsr1_g4, F_maker_symbolsr2b, F_maker_symbolsr2_W, F_maker_symbolsr3b, F_maker_symbolsr3_W, F_maker_symbolsr4b, F_maker_symbolsr4_W, F_maker_symbolsr5b, F_maker_symbolsr5_W, F_maker_symbolsr6b, F_maker_symbolsr6_W, F_maker_symbolsr6_g4, F_maker_symbolsr6_g10, F_maker_symbolsr6_g15, F_maker_symbolsr7b, F_maker_symbolsr7_W, F_maker_symbolsr8b, F_maker_symbolsr8_W, F_maker_symbolsr8_g2, F_maker_symbolsr9b, F_maker_symbolsr9_W, F_maker_symbolsr10b, F_maker_symbolsr10_W, F_maker_symbolsr10_g3, F_maker_symbolsr10_g7, F_maker_symbolsr10_g11, F_maker_symbolsr10_g16, F_maker_symbolsr10_g20, F_maker_symbolsr11b, F_maker_symbolsr11_W, F_maker_symbolsr12b, F_maker_symbolsr12_W, F_maker_symbolsl0b, F_maker_symbolsr13b, F_maker_symbolsr13_W, F_maker_symbolscb, F_maker_symbolsc_W, L7, LA, CC_of c, a1, a2, e1, e2]
  refine W.mono (loop_msyms t k.sy k.da hz0 hz1 k.sl (lst s.Syms) 0 _ _ rfl rfl ?_ ?_ ?_ ?_) fun z e h hz => ?_
  · (first | assumption | rfl)
  · (first | assumption | rfl)
  · (first | assumption | rfl)
  · (first | assumption | rfl)
  rcases hz with ⟨rfl, hz⟩ | ⟨rfl, hz, hz2⟩
  · rw [hz]
    simp only [fws, seval, cond_true, cond_false, if_true, if_false, unV, isNil, optI, iV, stepI, evalR, IntKind.bits, ini, N_maker_symbols]
    rfl
  · rw [hz2]
    simp only [fws, seval, cond_true, cond_false, if_true, if_false, unV, isNil, optI, iV, stepI, evalR, IntKind.bits, ini, N_maker_symbols, hz]
    rfl
theorem f_rsyms (t : MrF T) (k : OkSp s) (hz0 : 0 ≤ s.Zeros) (hz1 : s.Zeros ≤ 4096) : FnV T 25 [spA s] (.bool (symsM s)) := by
  refine FnV_of (pure_sp s) ?_
  rw [Ev_fn t.rs rfl]
  obtain ⟨o, ho, c⟩ := f_rvers t k.sy
  have L7 : loadI [spEn s] (.pointer (some ⟨0, 7, none⟩)) = some (slV S_api_SymE s.Syms, [spEn s]) := sp7 rfl
  have LA : loadNI [spEn s] 18 p0 = some (spA s, [spEn s]) := spAll rfl
  simp only [F_ref17_symbols, fws, box_sp, F_ref17_symbolsr0b, F_ref17_symbolsr0_W, F_ref17_symbolsr1b, F_ref17_symbolsr2b, F_ref17_symbolsr2_W, F_ref17_symbolsr3b, F_ref17_symbolsr4b, F_ref17_symbolsr4_W, F_ref17_symbolsr6b, F_ref17_symbolsr6_W, F_ref17_symbolsr7b, F_ref17_symbolsr7_W, F_ref17_symbolsr7_g4, F_ref17_symbolsr7_g9, F_ref17_symbolsr7_g15, F_ref17_symbolsr7_g20, F_ref17_symbolsr8b, F_ref17_symbolsr8_W, F_ref17_symbolsr9b, F_ref17_symbolsr9_W, F_ref17_symbolsr9_g2, F_ref17_symbolsr10b, F_ref17_symbolsr10_W, F_ref17_symbolsr11b, F_ref17_symbolsr11_W, F_ref17_symbolsr11_g3, F_ref17_symbolsr11_g7, F_ref17_symbolsr11_g11, F_ref17_symbolsr11_g16, F_ref17_symbolsr11_g20, F_ref17_symbolsr12b, F_ref17_symbolsr12_W, F_ref17_symbolsr5b, F_ref17_symbolsr5_W, F_ref17_symbolsl0b, F_ref17_symbolsr13b, F_ref17_symbolsr13_W, F_ref17_symbolscb, F_ref17_symbolsc_W]
  unfold symsM
  by_cases a1 : (255 : Int) < (lst s.Syms).length
  · have e1 : decide (255 < (lst s.Syms).length) = true := decide_eq_true (by omega)
    simp only [fws, seval, cond_true, cond_false, if_true, if_false, unV, isNil, optI, iV, stepI, evalR, IntKind.bits, ini, faI_ptr, Nat.zero_add, lenI_sl, F_ref17_symbolsr0b, F_ref17_symbolsr0_W, F_ref17_symbolsr1b, F_ref17_symbolsr1_W, F_ref17_symbolsr1_g4, F_ref17_symbolsr2b, F_ref17_symbolsr2_W, F_ref17_symbolsr3b, F_ref17_symbolsr4b, F_ref17_symbolsr4_W, F_ref17_symbolsr6b, F_ref17_symbolsr6_W, F_ref17_symbolsr7b, F_ref17_symbolsr7_W, F_ref17_symbolsr7_g4, F_ref17_symbolsr7_g9, F_ref17_symbolsr7_g15, F_ref17_symbolsr7_g20, F_ref17_symbolsr8b, F_ref17_symbolsr8_W, F_ref17_symbolsr9b, F_ref17_symbolsr9_W, F_ref17_symbolsr9_g2, F_ref17_symbolsr10b, F_ref17_symbolsr10_W, F_ref17_symbolsr11b, F_ref17_symbolsr11_W, F_ref17_symbolsr11_g3, F_ref17_symbolsr11_g7, F_ref17_symbolsr11_g11, F_ref17_symbolsr11_g16, F_ref17_symbolsr11_g20, F_ref17_symbolsr12b, F_ref17_symbolsr12_W, F_ref17_symbolsr5b, F_ref17_symbolsr5_W, F_ref17_symbolsl0b, F_ref17_symbolsr13b, F_ref17_symbolsr13_W, F_ref17_symbolscb, F_ref17_symbolsc_W, L7, a1, e1]
    rfl
  have e1 : decide (255 < (lst s.Syms).length) = false := decide_eq_false (by omega)
  rw [← ho]
  by_cases a2 : (31 : Int) < (lst o).length
  · have e2 : decide (31 < (lst o).length) = true := decide_eq_true (by omega)
    simp only [fws, seval, cond_true, cond_false, if_true, if_false, unV, isNil, optI, iV, stepI, evalR, IntKind.bits, ini, faI_ptr, Nat.zero_add, lenI_sl, F_ref17_symbolsr0b, F_ref17_symbolsr0_W, F_ref17_symbolsr1b, F_ref17_symbolsr1_W, F_ref17_symbolsr1_g4, F_ref17_symbolsr2b, F_ref17_symbolsr2_W, F_ref17_symbolsr3b, F_ref17_symbolsr4b, F_ref17_symbolsr4_W, F_ref17_symbolsr6b, F_ref17_symbolsr6_W, F_ref17_symbolsr7b, F_ref17_symbolsr7_W, F_ref17_symbolsr7_g4, F_ref17_symbolsr7_g9, F_ref17_symbolsr7_g15, F_ref17_symbolsr7_g20, F_ref17_symbolsr8b, F_ref17_symbolsr8_W, F_ref17_symbolsr9b, F_ref17_symbolsr9_W, F_ref17_symbolsr9_g2, F_ref17_symbolsr10b, F_ref17_symbolsr10_W, F_ref17_symbolsr11b, F_ref17_symbolsr11_W, F_ref17_symbolsr11_g3, F_ref17_symbolsr11_g7, F_ref17_symbolsr11_g11, F_ref17_symbolsr11_g16, F_ref17_symbolsr11_g20, F_ref17_symbolsr12b, F_ref17_symbolsr12_W, F_ref17_symbolsr5b, F_ref17_symbolsr5_W, F_ref17_symbolsl0b, F_ref17_symbolsr13b, F_ref17_symbolsr13_W, F_ref17_symbolscb, F_ref17_symbolsc_W, L7, LA, CC_of c, a1, a2, e1, e2]
    rfl
  have e2 : decide (31 < (lst o).length) = false := decide_eq_false (by omega)
  simp only [fws, seval, cond_true, cond_false, if_true, if_false, unV, isNil, optI, iV, stepI, evalR, IntKind.bits, ini, faI_ptr, Nat.zero_add, lenI_sl, F_ref17_symbolsr0b, F_ref17_symbolsr0_W, F_ref17_symbolsr1b, F_ref17_symbolsr1_W, F_ref17_symbolsr1_g4, F_ref17_symbolsr2b, F_ref17_symbolsr2_W, F_ref17_symbolsr3b, F_ref17_symbolsr3_W, F_ref17_symbolsr4b, F_ref17_symbolsr4_W, F_ref17_symbolsr6b, F_ref17_symbolsr6_W, F_ref17_symbolsr7b, F_ref17_symbolsr7_W, F_ref17_symbolsr7_g4, F_ref17_symbolsr7_g9, F_ref17_symbolsr7_g15, F_ref17_symbolsr7_g20, F_ref17_symbolsr8b, F_ref17_symbolsr8_W, F_ref17_symbolsr9b, F_ref17_symbolsr9_W, F_ref17_symbolsr9_g2, F_ref17_symbolsr10b, F_ref17_symbolsr10_W, F_ref17_symbolsr11b, F_ref17_symbolsr11_W, F_ref17_symbolsr11_g3, F_ref17_symbolsr11_g7, F_ref17_symbolsr11_g11, F_ref17_symbolsr11_g16, F_ref17_symbolsr11_g20, F_ref17_symbolsr12b, F_ref17_symbolsr12_W, F_ref17_symbolsr5b, F_ref17_symbolsr5_W, F_ref17_symbolsl0b, F_ref17_symbolsr13b, F_ref17_symbolsr13_W, F_ref17_symbolscb, F_ref17_symbolsc_W, L7, LA, CC_of c, a1, a2, e1, e2]
  refine W.mono (loop_rsyms t k.sy k.da hz0 hz1 k.sl (lst s.Syms) 0 _ _ rfl rfl ?_ ?_) fun z e h hz => ?_
  · (first | assumption | rfl)
  · (first | assumption | rfl)
  rcases hz with ⟨rfl, hz⟩ | ⟨rfl, hz, hz2⟩
  · rw [hz]
    simp only [fws, seval, cond_true, cond_false, if_true, if_false, unV, isNil, optI, iV, stepI, evalR, IntKind.bits, ini, N_ref17_symbols]
    rfl
  · rw [hz2]
    simp only [fws, seval, cond_true, cond_false, if_true, if_false, unV, isNil, optI, iV, stepI, evalR, IntKind.bits, ini, N_ref17_symbols, hz]
    rfl
end
def relOk (s : S_api_Spec) (r : S_api_Rel) : Bool :=
  !decide ((ofM s.Machine r.Typ).getD (-1) < 1) && !decide (((lst s.Syms).length : Int) < r.Sym) && (r.Has == s.Rela) && (r.Has || decide (r.Add = 0))
abbrev reEn (x : S_api_Rel) : Entry := ⟨0, .cells false 5 [.int .u64 x.At, .int .u32 x.Typ, .int .u32 x.Sym, .int .i64 x.Add, .bool x.Has]⟩
section
variable {T : Tab} {s : S_api_Spec}
theorem loop_mrels (t : MrF T) (k : OkSp s) : ∀ (r : List S_api_Rel) (i : Nat) (acc : List Int) (v : Value) (H : Heap) (env : Env), (lst s.Rels).drop i = r → SO (intE .u64) s H v acc → acc.length ≤ i →
    env 1 = p0 → env 4 = v → env 31 = slV S_api_RelE s.Rels → env 32 = .int .i64 (lst s.Rels).length → env 33 = .int .i64 i →
    W T (.loop F_maker_relocationsl0) env H fun z e h => (z = .exit 0 ∧ r.all (relOk s) = true ∧ e 1 = p0 ∧ e 3 = env 3 ∧ SO (intE .u64) s h (e 4) (acc ++ r.map (·.At))) ∨ (z = .ret ∧ e 2 = .bool false ∧ r.all (relOk s) = false) := by
  intro r
  induction r with
  | nil =>
    intro i acc v H env hr hS ha v1 v4 v31 v32 v33
    have hi := drop_end hr
    have q : ¬ ((i : Int) < (lst s.Rels).length) := by omega
    rw [w_loop]
    simp only [fws, seval, cond_true, cond_false, if_true, if_false, unV, isNil, optI, iV, stepI, evalR, IntKind.bits, ini, N_maker_relocations, v32, v33, q]
    refine .inl ⟨trivial, rfl, v1, trivial, ?_⟩
    simpa [v4] using hS
  | cons p ps ih =>
    intro i acc v H env hr hS ha v1 v4 v31 v32 v33
    obtain ⟨hi, hp, hr2⟩ := drop_at hr
    have q : ((i : Int) < (lst s.Rels).length) := by omega
    have hxx := fun H => ix_sl (E := S_api_RelE) (o := s.Rels) (n := 5) rfl hi .i64 H
    have hld := fun H => loadNI_at (E := S_api_RelE) (n := 5) (H := H) rfl hi
    obtain ⟨l1, l2, l3, l4⟩ := k.rw p (hp ▸ List.getElem_mem hi)
    rw [hp, S_api_RelE_e] at hld
    have hl := k.rl
    have hsy := k.sy
    have w2 : IntKind.i64.wrap ((i : Int) + 1) = ((i + 1 : Nat) : Int) := by rw [wrapI64 (by omega) (by omega)]; rfl
    have hS1 := hS.mono [reEn p]
    have L0 := sp0 hS1.z
    have L7 := sp7 hS1.z
    have L15 := sp15 hS1.z
    have y0 : loadI (H ++ [reEn p]) (.pointer (some ⟨H.length, 0, none⟩)) = some (.int .u64 p.At, H ++ [reEn p]) := by simp only [loadI_ptr, lk, cellsAt, tagOf, app_get0]; rfl
    have y1 : loadI (H ++ [reEn p]) (.pointer (some ⟨H.length, 1, none⟩)) = some (.int .u32 p.Typ, H ++ [reEn p]) := by simp only [loadI_ptr, lk, cellsAt, tagOf, app_get0]; rfl
    have y2 : loadI (H ++ [reEn p]) (.pointer (some ⟨H.length, 2, none⟩)) = some (.int .u32 p.Sym, H ++ [reEn p]) := by simp only [loadI_ptr, lk, cellsAt, tagOf, app_get0]; rfl
    have y3 : loadI (H ++ [reEn p]) (.pointer (some ⟨H.length, 3, none⟩)) = some (.int .i64 p.Add, H ++ [reEn p]) := by simp only [loadI_ptr, lk, cellsAt, tagOf, app_get0]; rfl
    have y4 : loadI (H ++ [reEn p]) (.pointer (some ⟨H.length, 4, none⟩)) = some (.bool p.Has, H ++ [reEn p]) := by simp only [loadI_ptr, lk, cellsAt, tagOf, app_get0]; rfl
    have c := f_of t.off s.Machine p.Typ
    have wl : IntKind.u64.wrap ((lst s.Syms).length : Int) = (lst s.Syms).length := by rw [wrap_u64]; omega
    have wy : IntKind.u64.wrap p.Sym = p.Sym := by rw [wrap_u64]; omega
    obtain ⟨v', H', a1, a2⟩ := hS1.app (m := [p.At]) (n := 1) (eb := 8) (k := 1) rfl rfl (by simp; omega)
    have a1' : appV 1 8 (H ++ [reEn p]) v [.int .u64 p.At] 1 = some (v', H') := a1
    have sr : ∀ H, srcOf H 1 (immV 1 [.int .u64 p.At]) = some ([.int .u64 p.At], 1) := fun H => rfl
    have hcons : ∀ {b : Bool}, relOk s p = b → (p :: ps).all (relOk s) = (b && ps.all (relOk s)) := fun h => by rw [List.all_cons, h]
    have hfin : ∀ {z : Ex} {e : Env} {h : Heap}, ((z = Ex.exit 0 ∧ ps.all (relOk s) = true ∧ e 1 = p0 ∧ e 3 = env 3 ∧ SO (intE .u64) s h (e 4) ((acc ++ [p.At]) ++ ps.map (·.At))) ∨ (z = .ret ∧ e 2 = Value.bool false ∧ ps.all (relOk s) = false)) → relOk s p = true →
        ((z = Ex.exit 0 ∧ (p :: ps).all (relOk s) = true ∧ e 1 = p0 ∧ e 3 = env 3 ∧ SO (intE .u64) s h (e 4) (acc ++ (p :: ps).map (·.At))) ∨ (z = .ret ∧ e 2 = Value.bool false ∧ (p :: ps).all (relOk s) = false)) := fun {z e h} hh hk => by
      rw [hcons hk, Bool.true_and, List.map_cons]
      simpa using hh
    have hbad : relOk s p = false → (p :: ps).all (relOk s) = false := fun h => by rw [hcons h, Bool.false_and]
    rw [w_loop]
    by_cases b1 : (ofM s.Machine p.Typ).getD (-1) < 1
    · have hf : relOk s p = false := by unfold relOk; rw [decide_eq_true b1]; rfl
      have hb := hbad hf
      rcases ofM_cases s.Machine p.Typ with h | h | h | h | h
      · rw [h] at c
        unfold okV at c
        simp only [fws, seval, cond_true, cond_false, if_true, if_false, unV, isNil, optI, iV, stepI, evalR, IntKind.bits, ini, fwh, lk, cellsAt, tagOf, spotOf, rdN, spl, fillL, zr, faI_ptr, lenI_sl, F_maker_relocationsr0b, F_maker_relocationsr0_W, F_maker_relocationsr1b, F_maker_relocationsr1_W, F_maker_relocationsr2b, F_maker_relocationsr2_W, F_maker_relocationsr3b, F_maker_relocationsr3_W, F_maker_relocationsr4b, F_maker_relocationsr4_W, F_maker_relocationsr5b, F_maker_relocationsr5_W, F_maker_relocationsr6b, F_maker_relocationsr6_W, F_maker_relocationsr7b, F_maker_relocationsr7_W, F_maker_relocationsr8b, F_maker_relocationsr8_W, F_maker_relocationsr9b, F_maker_relocationsr9_W, F_maker_relocationsr9_g2, F_maker_relocationsr9_g6, F_maker_relocationsr9_g16, F_maker_relocationsr9_g23, F_maker_relocationsr9_g27, F_maker_relocationsr10b, F_maker_relocationsr10_W, F_maker_relocationsr11b, F_maker_relocationsr11_W, F_maker_relocationsr12b, F_maker_relocationsr12_W, F_maker_relocationsl0b, F_maker_relocationsl0_W, F_maker_relocationsr13b, F_maker_relocationsr13_W, F_maker_relocationsr14b, F_maker_relocationsr14_W, F_maker_relocationsr15b, F_maker_relocationsr15_W, F_maker_relocationsr16b, F_maker_relocationsr16_W, F_maker_relocationsr16_g3, F_maker_relocationsr16_g6, F_maker_relocationsr17b, F_maker_relocationsr17_W, F_maker_relocationsr18b, F_maker_relocationsr18_W, F_maker_relocationsl1b, F_maker_relocationsr19b, F_maker_relocationsr19_W, F_maker_relocationsr20b, F_maker_relocationsr20_W, F_maker_relocationsr21b, F_maker_relocationsr21_W, F_maker_relocationsr22b, F_maker_relocationsr22_W, F_maker_relocationsr23b, F_maker_relocationsr23_W, F_maker_relocationsr24b, F_maker_relocationsr24_W, F_maker_relocationsr25b, F_maker_relocationsr25_W, F_maker_relocationsr26b, F_maker_relocationsr26_W, F_maker_relocationsr27b, F_maker_relocationsr27_W, F_maker_relocationsr28b, F_maker_relocationsr28_W, F_maker_relocationsr29b, F_maker_relocationsr29_W, F_maker_relocationsr30b, F_maker_relocationsr30_W, F_maker_relocationsl3b, F_maker_relocationsr31b, F_maker_relocationsr31_W, F_maker_relocationsl2b, F_maker_relocationsr32b, F_maker_relocationsr32_W, F_maker_relocationscb, F_maker_relocationsc_W, v1, v4, v31, v32, v33, q, hxx, hld, L0, L7, L15, y0, y1, y2, y3, y4, CC_of c, Option.getD_none, Option.isSome_none, List.all_cons, hf]
        exact .inr ⟨trivial, trivial, trivial⟩
      · rw [h] at c
        unfold okV at c
        simp only [fws, seval, cond_true, cond_false, if_true, if_false, unV, isNil, optI, iV, stepI, evalR, IntKind.bits, ini, fwh, lk, cellsAt, tagOf, spotOf, rdN, spl, fillL, zr, faI_ptr, lenI_sl, F_maker_relocationsr0b, F_maker_relocationsr0_W, F_maker_relocationsr1b, F_maker_relocationsr1_W, F_maker_relocationsr2b, F_maker_relocationsr2_W, F_maker_relocationsr3b, F_maker_relocationsr3_W, F_maker_relocationsr4b, F_maker_relocationsr4_W, F_maker_relocationsr5b, F_maker_relocationsr5_W, F_maker_relocationsr6b, F_maker_relocationsr6_W, F_maker_relocationsr7b, F_maker_relocationsr7_W, F_maker_relocationsr8b, F_maker_relocationsr8_W, F_maker_relocationsr9b, F_maker_relocationsr9_W, F_maker_relocationsr9_g2, F_maker_relocationsr9_g6, F_maker_relocationsr9_g16, F_maker_relocationsr9_g23, F_maker_relocationsr9_g27, F_maker_relocationsr10b, F_maker_relocationsr10_W, F_maker_relocationsr11b, F_maker_relocationsr11_W, F_maker_relocationsr12b, F_maker_relocationsr12_W, F_maker_relocationsl0b, F_maker_relocationsl0_W, F_maker_relocationsr13b, F_maker_relocationsr13_W, F_maker_relocationsr14b, F_maker_relocationsr14_W, F_maker_relocationsr15b, F_maker_relocationsr15_W, F_maker_relocationsr16b, F_maker_relocationsr16_W, F_maker_relocationsr16_g3, F_maker_relocationsr16_g6, F_maker_relocationsr17b, F_maker_relocationsr17_W, F_maker_relocationsr18b, F_maker_relocationsr18_W, F_maker_relocationsl1b, F_maker_relocationsr19b, F_maker_relocationsr19_W, F_maker_relocationsr20b, F_maker_relocationsr20_W, F_maker_relocationsr21b, F_maker_relocationsr21_W, F_maker_relocationsr22b, F_maker_relocationsr22_W, F_maker_relocationsr23b, F_maker_relocationsr23_W, F_maker_relocationsr24b, F_maker_relocationsr24_W, F_maker_relocationsr25b, F_maker_relocationsr25_W, F_maker_relocationsr26b, F_maker_relocationsr26_W, F_maker_relocationsr27b, F_maker_relocationsr27_W, F_maker_relocationsr28b, F_maker_relocationsr28_W, F_maker_relocationsr29b, F_maker_relocationsr29_W, F_maker_relocationsr30b, F_maker_relocationsr30_W, F_maker_relocationsl3b, F_maker_relocationsr31b, F_maker_relocationsr31_W, F_maker_relocationsl2b, F_maker_relocationsr32b, F_maker_relocationsr32_W, F_maker_relocationscb, F_maker_relocationsc_W, v1, v4, v31, v32, v33, q, hxx, hld, L0, L7, L15, y0, y1, y2, y3, y4, CC_of c, Option.getD_some, Option.isSome_some, List.all_cons, hf]
        exact .inr ⟨trivial, trivial, trivial⟩
      all_goals
        rw [h] at b1
        simp at b1
    · obtain ⟨kd, hkd, hk1⟩ : ∃ kd : Int, ofM s.Machine p.Typ = some kd ∧ ¬ kd = 0 := by
        rcases ofM_cases s.Machine p.Typ with h | h | h | h | h
        · rw [h] at b1; simp at b1
        · rw [h] at b1; simp at b1
        · exact ⟨1, h, by omega⟩
        · exact ⟨2, h, by omega⟩
        · exact ⟨3, h, by omega⟩
      rw [hkd] at c
      unfold okV at c
      by_cases b2 : ((lst s.Syms).length : Int) < p.Sym
      · have hf : relOk s p = false := by unfold relOk; rw [decide_eq_true b2]; simp
        simp only [fws, seval, cond_true, cond_false, if_true, if_false, unV, isNil, optI, iV, stepI, evalR, IntKind.bits, ini, fwh, lk, cellsAt, tagOf, spotOf, rdN, spl, fillL, zr, faI_ptr, lenI_sl, F_maker_relocationsr0b, F_maker_relocationsr0_W, F_maker_relocationsr1b, F_maker_relocationsr1_W, F_maker_relocationsr2b, F_maker_relocationsr2_W, F_maker_relocationsr3b, F_maker_relocationsr3_W, F_maker_relocationsr4b, F_maker_relocationsr4_W, F_maker_relocationsr5b, F_maker_relocationsr5_W, F_maker_relocationsr6b, F_maker_relocationsr6_W, F_maker_relocationsr7b, F_maker_relocationsr7_W, F_maker_relocationsr8b, F_maker_relocationsr8_W, F_maker_relocationsr9b, F_maker_relocationsr9_W, F_maker_relocationsr9_g2, F_maker_relocationsr9_g6, F_maker_relocationsr9_g16, F_maker_relocationsr9_g23, F_maker_relocationsr9_g27, F_maker_relocationsr10b, F_maker_relocationsr10_W, F_maker_relocationsr11b, F_maker_relocationsr11_W, F_maker_relocationsr12b, F_maker_relocationsr12_W, F_maker_relocationsl0b, F_maker_relocationsl0_W, F_maker_relocationsr13b, F_maker_relocationsr13_W, F_maker_relocationsr14b, F_maker_relocationsr14_W, F_maker_relocationsr15b, F_maker_relocationsr15_W, F_maker_relocationsr16b, F_maker_relocationsr16_W, F_maker_relocationsr16_g3, F_maker_relocationsr16_g6, F_maker_relocationsr17b, F_maker_relocationsr17_W, F_maker_relocationsr18b, F_maker_relocationsr18_W, F_maker_relocationsl1b, F_maker_relocationsr19b, F_maker_relocationsr19_W, F_maker_relocationsr20b, F_maker_relocationsr20_W, F_maker_relocationsr21b, F_maker_relocationsr21_W, F_maker_relocationsr22b, F_maker_relocationsr22_W, F_maker_relocationsr23b, F_maker_relocationsr23_W, F_maker_relocationsr24b, F_maker_relocationsr24_W, F_maker_relocationsr25b, F_maker_relocationsr25_W, F_maker_relocationsr26b, F_maker_relocationsr26_W, F_maker_relocationsr27b, F_maker_relocationsr27_W, F_maker_relocationsr28b, F_maker_relocationsr28_W, F_maker_relocationsr29b, F_maker_relocationsr29_W, F_maker_relocationsr30b, F_maker_relocationsr30_W, F_maker_relocationsl3b, F_maker_relocationsr31b, F_maker_relocationsr31_W, F_maker_relocationsl2b, F_maker_relocationsr32b, F_maker_relocationsr32_W, F_maker_relocationscb, F_maker_relocationsc_W, v1, v4, v31, v32, v33, q, hxx, hld, L0, L7, L15, y0, y1, y2, y3, y4, CC_of c, Option.getD_some, Option.isSome_some, List.all_cons, hf, hk1, wl, wy, b2]
        exact .inr ⟨trivial, trivial, trivial⟩
      · have b2' : decide (((lst s.Syms).length : Int) < p.Sym) = false := decide_eq_false b2
        have hR : relOk s p = ((p.Has == s.Rela) && (p.Has || decide (p.Add = 0))) := by unfold relOk; rw [decide_eq_false b1, b2']; simp
        by_cases b3 : (p.Has != s.Rela) = true
        · have hf : relOk s p = false := by rw [hR]; have : (p.Has == s.Rela) = false := by simpa [bne] using b3
                                            rw [this]; rfl
          simp only [fws, seval, cond_true, cond_false, if_true, if_false, unV, isNil, optI, iV, stepI, evalR, IntKind.bits, ini, fwh, lk, cellsAt, tagOf, spotOf, rdN, spl, fillL, zr, faI_ptr, lenI_sl, F_maker_relocationsr0b, F_maker_relocationsr0_W, F_maker_relocationsr1b, F_maker_relocationsr1_W, F_maker_relocationsr2b, F_maker_relocationsr2_W, F_maker_relocationsr3b, F_maker_relocationsr3_W, F_maker_relocationsr4b, F_maker_relocationsr4_W, F_maker_relocationsr5b, F_maker_relocationsr5_W, F_maker_relocationsr6b, F_maker_relocationsr6_W, F_maker_relocationsr7b, F_maker_relocationsr7_W, F_maker_relocationsr8b, F_maker_relocationsr8_W, F_maker_relocationsr9b, F_maker_relocationsr9_W, F_maker_relocationsr9_g2, F_maker_relocationsr9_g6, F_maker_relocationsr9_g16, F_maker_relocationsr9_g23, F_maker_relocationsr9_g27, F_maker_relocationsr10b, F_maker_relocationsr10_W, F_maker_relocationsr11b, F_maker_relocationsr11_W, F_maker_relocationsr12b, F_maker_relocationsr12_W, F_maker_relocationsl0b, F_maker_relocationsl0_W, F_maker_relocationsr13b, F_maker_relocationsr13_W, F_maker_relocationsr14b, F_maker_relocationsr14_W, F_maker_relocationsr15b, F_maker_relocationsr15_W, F_maker_relocationsr16b, F_maker_relocationsr16_W, F_maker_relocationsr16_g3, F_maker_relocationsr16_g6, F_maker_relocationsr17b, F_maker_relocationsr17_W, F_maker_relocationsr18b, F_maker_relocationsr18_W, F_maker_relocationsl1b, F_maker_relocationsr19b, F_maker_relocationsr19_W, F_maker_relocationsr20b, F_maker_relocationsr20_W, F_maker_relocationsr21b, F_maker_relocationsr21_W, F_maker_relocationsr22b, F_maker_relocationsr22_W, F_maker_relocationsr23b, F_maker_relocationsr23_W, F_maker_relocationsr24b, F_maker_relocationsr24_W, F_maker_relocationsr25b, F_maker_relocationsr25_W, F_maker_relocationsr26b, F_maker_relocationsr26_W, F_maker_relocationsr27b, F_maker_relocationsr27_W, F_maker_relocationsr28b, F_maker_relocationsr28_W, F_maker_relocationsr29b, F_maker_relocationsr29_W, F_maker_relocationsr30b, F_maker_relocationsr30_W, F_maker_relocationsl3b, F_maker_relocationsr31b, F_maker_relocationsr31_W, F_maker_relocationsl2b, F_maker_relocationsr32b, F_maker_relocationsr32_W, F_maker_relocationscb, F_maker_relocationsc_W, v1, v4, v31, v32, v33, q, hxx, hld, L0, L7, L15, y0, y1, y2, y3, y4, CC_of c, Option.getD_some, Option.isSome_some, List.all_cons, hf, hk1, wl, wy, b2, b3]
          exact .inr ⟨trivial, trivial, trivial⟩
        · have b3 : (p.Has != s.Rela) = false := by simpa using b3
          have b3' : (p.Has == s.Rela) = true := by simpa [bne] using b3
          rw [b3', Bool.true_and] at hR
          cases b4 : p.Has with
          | true =>
            have hk : relOk s p = true := by rw [hR, b4]; rfl
            rw [b4] at b3
            have y4' : loadI (H ++ [reEn p]) (.pointer (some ⟨H.length, 4, none⟩)) = some (.bool true, H ++ [reEn p]) := by rw [y4, b4]
            simp only [fws, seval, cond_true, cond_false, if_true, if_false, unV, isNil, optI, iV, stepI, evalR, IntKind.bits, ini, fwh, lk, cellsAt, tagOf, spotOf, rdN, spl, fillL, zr, faI_ptr, lenI_sl, F_maker_relocationsr0b, F_maker_relocationsr0_W, F_maker_relocationsr1b, F_maker_relocationsr1_W, F_maker_relocationsr2b, F_maker_relocationsr2_W, F_maker_relocationsr3b, F_maker_relocationsr3_W, F_maker_relocationsr4b, F_maker_relocationsr4_W, F_maker_relocationsr5b, F_maker_relocationsr5_W, F_maker_relocationsr6b, F_maker_relocationsr6_W, F_maker_relocationsr7b, F_maker_relocationsr7_W, F_maker_relocationsr8b, F_maker_relocationsr8_W, F_maker_relocationsr9b, F_maker_relocationsr9_W, F_maker_relocationsr9_g2, F_maker_relocationsr9_g6, F_maker_relocationsr9_g16, F_maker_relocationsr9_g23, F_maker_relocationsr9_g27, F_maker_relocationsr10b, F_maker_relocationsr10_W, F_maker_relocationsr11b, F_maker_relocationsr11_W, F_maker_relocationsr12b, F_maker_relocationsr12_W, F_maker_relocationsl0b, F_maker_relocationsl0_W, F_maker_relocationsr13b, F_maker_relocationsr13_W, F_maker_relocationsr14b, F_maker_relocationsr14_W, F_maker_relocationsr15b, F_maker_relocationsr15_W, F_maker_relocationsr16b, F_maker_relocationsr16_W, F_maker_relocationsr16_g3, F_maker_relocationsr16_g6, F_maker_relocationsr17b, F_maker_relocationsr17_W, F_maker_relocationsr18b, F_maker_relocationsr18_W, F_maker_relocationsl1b, F_maker_relocationsr19b, F_maker_relocationsr19_W, F_maker_relocationsr20b, F_maker_relocationsr20_W, F_maker_relocationsr21b, F_maker_relocationsr21_W, F_maker_relocationsr22b, F_maker_relocationsr22_W, F_maker_relocationsr23b, F_maker_relocationsr23_W, F_maker_relocationsr24b, F_maker_relocationsr24_W, F_maker_relocationsr25b, F_maker_relocationsr25_W, F_maker_relocationsr26b, F_maker_relocationsr26_W, F_maker_relocationsr27b, F_maker_relocationsr27_W, F_maker_relocationsr28b, F_maker_relocationsr28_W, F_maker_relocationsr29b, F_maker_relocationsr29_W, F_maker_relocationsr30b, F_maker_relocationsr30_W, F_maker_relocationsl3b, F_maker_relocationsr31b, F_maker_relocationsr31_W, F_maker_relocationsl2b, F_maker_relocationsr32b, F_maker_relocationsr32_W, F_maker_relocationscb, F_maker_relocationsc_W, v1, v4, v31, v32, v33, q, hxx, hld, L0, L7, L15, y0, y1, y2, y3, y4', CC_of c, Option.getD_some, Option.isSome_some, hk1, wl, wy, b2, b3, sr, a1', w2]
            refine W.mono (ih (i + 1) _ v' _ _ hr2 a2 (by simp only [List.length_append, List.length_cons, List.length_nil]; omega) ?_ ?_ ?_ ?_ ?_) fun z e h hh => hfin hh hk
            all_goals (first | assumption | rfl)
          | false =>
            rw [b4, Bool.false_or] at hR
            rw [b4] at b3
            have y4' : loadI (H ++ [reEn p]) (.pointer (some ⟨H.length, 4, none⟩)) = some (.bool false, H ++ [reEn p]) := by rw [y4, b4]
            by_cases b5 : p.Add = 0
            · have hk : relOk s p = true := by rw [hR]; exact decide_eq_true b5
              have d5 : decide (p.Add = 0) = true := decide_eq_true b5
              simp only [fws, seval, cond_true, cond_false, if_true, if_false, unV, isNil, optI, iV, stepI, evalR, IntKind.bits, ini, fwh, lk, cellsAt, tagOf, spotOf, rdN, spl, fillL, zr, faI_ptr, lenI_sl, F_maker_relocationsr0b, F_maker_relocationsr0_W, F_maker_relocationsr1b, F_maker_relocationsr1_W, F_maker_relocationsr2b, F_maker_relocationsr2_W, F_maker_relocationsr3b, F_maker_relocationsr3_W, F_maker_relocationsr4b, F_maker_relocationsr4_W, F_maker_relocationsr5b, F_maker_relocationsr5_W, F_maker_relocationsr6b, F_maker_relocationsr6_W, F_maker_relocationsr7b, F_maker_relocationsr7_W, F_maker_relocationsr8b, F_maker_relocationsr8_W, F_maker_relocationsr9b, F_maker_relocationsr9_W, F_maker_relocationsr9_g2, F_maker_relocationsr9_g6, F_maker_relocationsr9_g16, F_maker_relocationsr9_g23, F_maker_relocationsr9_g27, F_maker_relocationsr10b, F_maker_relocationsr10_W, F_maker_relocationsr11b, F_maker_relocationsr11_W, F_maker_relocationsr12b, F_maker_relocationsr12_W, F_maker_relocationsl0b, F_maker_relocationsl0_W, F_maker_relocationsr13b, F_maker_relocationsr13_W, F_maker_relocationsr14b, F_maker_relocationsr14_W, F_maker_relocationsr15b, F_maker_relocationsr15_W, F_maker_relocationsr16b, F_maker_relocationsr16_W, F_maker_relocationsr16_g3, F_maker_relocationsr16_g6, F_maker_relocationsr17b, F_maker_relocationsr17_W, F_maker_relocationsr18b, F_maker_relocationsr18_W, F_maker_relocationsl1b, F_maker_relocationsr19b, F_maker_relocationsr19_W, F_maker_relocationsr20b, F_maker_relocationsr20_W, F_maker_relocationsr21b, F_maker_relocationsr21_W, F_maker_relocationsr22b, F_maker_relocationsr22_W, F_maker_relocationsr23b, F_maker_relocationsr23_W, F_maker_relocationsr24b, F_maker_relocationsr24_W, F_maker_relocationsr25b, F_maker_relocationsr25_W, F_maker_relocationsr26b, F_maker_relocationsr26_W, F_maker_relocationsr27b, F_maker_relocationsr27_W, F_maker_relocationsr28b, F_maker_relocationsr28_W, F_maker_relocationsr29b, F_maker_relocationsr29_W, F_maker_relocationsr30b, F_maker_relocationsr30_W, F_maker_relocationsl3b, F_maker_relocationsr31b, F_maker_relocationsr31_W, F_maker_relocationsl2b, F_maker_relocationsr32b, F_maker_relocationsr32_W, F_maker_relocationscb, F_maker_relocationsc_W, v1, v4, v31, v32, v33, q, hxx, hld, L0, L7, L15, y0, y1, y2, y3, y4', CC_of c, Option.getD_some, Option.isSome_some, hk1, wl, wy, b2, b3, d5, sr, a1', w2]
              refine W.mono (ih (i + 1) _ v' _ _ hr2 a2 (by simp only [List.length_append, List.length_cons, List.length_nil]; omega) ?_ ?_ ?_ ?_ ?_) fun z e h hh => hfin hh hk
              all_goals (first | assumption | rfl)
            · have hf : relOk s p = false := by rw [hR]; exact decide_eq_false b5
              simp only [fws, seval, cond_true, cond_false, if_true, if_false, unV, isNil, optI, iV, stepI, evalR, IntKind.bits, ini, fwh, lk, cellsAt, tagOf, spotOf, rdN, spl, fillL, zr, faI_ptr, lenI_sl, F_maker_relocationsr0b, F_maker_relocationsr0_W, F_maker_relocationsr1b, F_maker_relocationsr1_W, F_maker_relocationsr2b, F_maker_relocationsr2_W, F_maker_relocationsr3b, F_maker_relocationsr3_W, F_maker_relocationsr4b, F_maker_relocationsr4_W, F_maker_relocationsr5b, F_maker_relocationsr5_W, F_maker_relocationsr6b, F_maker_relocationsr6_W, F_maker_relocationsr7b, F_maker_relocationsr7_W, F_maker_relocationsr8b, F_maker_relocationsr8_W, F_maker_relocationsr9b, F_maker_relocationsr9_W, F_maker_relocationsr9_g2, F_maker_relocationsr9_g6, F_maker_relocationsr9_g16, F_maker_relocationsr9_g23, F_maker_relocationsr9_g27, F_maker_relocationsr10b, F_maker_relocationsr10_W, F_maker_relocationsr11b, F_maker_relocationsr11_W, F_maker_relocationsr12b, F_maker_relocationsr12_W, F_maker_relocationsl0b, F_maker_relocationsl0_W, F_maker_relocationsr13b, F_maker_relocationsr13_W, F_maker_relocationsr14b, F_maker_relocationsr14_W, F_maker_relocationsr15b, F_maker_relocationsr15_W, F_maker_relocationsr16b, F_maker_relocationsr16_W, F_maker_relocationsr16_g3, F_maker_relocationsr16_g6, F_maker_relocationsr17b, F_maker_relocationsr17_W, F_maker_relocationsr18b, F_maker_relocationsr18_W, F_maker_relocationsl1b, F_maker_relocationsr19b, F_maker_relocationsr19_W, F_maker_relocationsr20b, F_maker_relocationsr20_W, F_maker_relocationsr21b, F_maker_relocationsr21_W, F_maker_relocationsr22b, F_maker_relocationsr22_W, F_maker_relocationsr23b, F_maker_relocationsr23_W, F_maker_relocationsr24b, F_maker_relocationsr24_W, F_maker_relocationsr25b, F_maker_relocationsr25_W, F_maker_relocationsr26b, F_maker_relocationsr26_W, F_maker_relocationsr27b, F_maker_relocationsr27_W, F_maker_relocationsr28b, F_maker_relocationsr28_W, F_maker_relocationsr29b, F_maker_relocationsr29_W, F_maker_relocationsr30b, F_maker_relocationsr30_W, F_maker_relocationsl3b, F_maker_relocationsr31b, F_maker_relocationsr31_W, F_maker_relocationsl2b, F_maker_relocationsr32b, F_maker_relocationsr32_W, F_maker_relocationscb, F_maker_relocationsc_W, v1, v4, v31, v32, v33, q, hxx, hld, L0, L7, L15, y0, y1, y2, y3, y4', CC_of c, Option.getD_some, Option.isSome_some, List.all_cons, hf, hk1, wl, wy, b2, b3, b5]
              exact .inr ⟨trivial, trivial, trivial⟩
end
end Go.Proofs.YtdjgknlhpdnhbaaGreat
/- The relocations of a Spec as the document sees them. -/
namespace Go.Proofs.YtdjgknlhpdnhbaaGreat
open Go Fw
set_option linter.unusedSimpArgs false
set_option linter.unusedVariables false
set_option linter.unusedSectionVars false

section
variable {T : Tab} {s : S_api_Spec}
theorem loop_rrels (t : MrF T) (k : OkSp s) : ∀ (r : List S_api_Rel) (i : Nat) (acc : List Int) (v : Value) (H : Heap) (env : Env), (lst s.Rels).drop i = r → SO (intE .u64) s H v acc → acc.length ≤ i →
    env 1 = p0 → env 4 = v → env 5 = .int .i64 i →
    W T (.loop F_ref17_Rightl1) env H fun z e h => (z = .exit 2 ∧ r.all (relOk s) = true ∧ e 1 = p0 ∧ SO (intE .u64) s h (e 4) (acc ++ r.map (·.At))) ∨ (z = .ret ∧ e 2 = .bool false ∧ r.all (relOk s) = false) := by
  intro r
  induction r with
  | nil =>
    intro i acc v H env hr hS ha v1 v4 v5
    have hi := drop_end hr
    have q : ¬ ((i : Int) < (lst s.Rels).length) := by omega
    have L8 := sp8 hS.z
    rw [w_loop]
    simp only [fws, seval, cond_true, cond_false, if_true, if_false, unV, isNil, optI, iV, stepI, evalR, IntKind.bits, ini, faI_ptr, Nat.zero_add, lenI_sl, N_ref17_Right, v1, v5, L8, q]
    refine .inl ⟨by first | rfl | trivial, by first | rfl | trivial, by first | assumption | trivial, ?_⟩
    simpa [v4] using hS
  | cons p ps ih =>
    intro i acc v H env hr hS ha v1 v4 v5
    obtain ⟨hi, hp, hr2⟩ := drop_at hr
    have q : ((i : Int) < (lst s.Rels).length) := by omega
    have hxx := fun H => ix_sl (E := S_api_RelE) (o := s.Rels) (n := 5) rfl hi .i64 H
    have hld := fun H => loadNI_at (E := S_api_RelE) (n := 5) (H := H) rfl hi
    obtain ⟨l1, l2, l3, l4⟩ := k.rw p (hp ▸ List.getElem_mem hi)
    rw [hp, S_api_RelE_e] at hld
    have hl := k.rl
    have hsy := k.sy
    have w2 : IntKind.i64.wrap ((i : Int) + 1) = ((i + 1 : Nat) : Int) := by rw [wrapI64 (by omega) (by omega)]; rfl
    have hS1 := hS.mono [reEn p]
    have L8' := sp8 hS.z
    have hm0 := k.mc0
    have hm1 := k.mc1
    have wm : IntKind.u64.wrap s.Machine = s.Machine := by rw [wrap_u64]; omega
    have wt : IntKind.u64.wrap p.Typ = p.Typ := by rw [wrap_u64]; omega
    have L0 := sp0 hS1.z
    have L7 := sp7 hS1.z
    have L15 := sp15 hS1.z
    have y0 : loadI (H ++ [reEn p]) (.pointer (some ⟨H.length, 0, none⟩)) = some (.int .u64 p.At, H ++ [reEn p]) := by simp only [loadI_ptr, lk, cellsAt, tagOf, app_get0]; rfl
    have y1 : loadI (H ++ [reEn p]) (.pointer (some ⟨H.length, 1, none⟩)) = some (.int .u32 p.Typ, H ++ [reEn p]) := by simp only [loadI_ptr, lk, cellsAt, tagOf, app_get0]; rfl
    have y2 : loadI (H ++ [reEn p]) (.pointer (some ⟨H.length, 2, none⟩)) = some (.int .u32 p.Sym, H ++ [reEn p]) := by simp only [loadI_ptr, lk, cellsAt, tagOf, app_get0]; rfl
    have y3 : loadI (H ++ [reEn p]) (.pointer (some ⟨H.length, 3, none⟩)) = some (.int .i64 p.Add, H ++ [reEn p]) := by simp only [loadI_ptr, lk, cellsAt, tagOf, app_get0]; rfl
    have y4 : loadI (H ++ [reEn p]) (.pointer (some ⟨H.length, 4, none⟩)) = some (.bool p.Has, H ++ [reEn p]) := by simp only [loadI_ptr, lk, cellsAt, tagOf, app_get0]; rfl
    have c := f_ref15 t.off s.Machine p.Typ
    have wl : IntKind.u64.wrap ((lst s.Syms).length : Int) = (lst s.Syms).length := by rw [wrap_u64]; omega
    have wy : IntKind.u64.wrap p.Sym = p.Sym := by rw [wrap_u64]; omega
    obtain ⟨v', H', a1, a2⟩ := hS1.app (m := [p.At]) (n := 1) (eb := 8) (k := 1) rfl rfl (by simp; omega)
    have a1' : appV 1 8 (H ++ [reEn p]) v [.int .u64 p.At] 1 = some (v', H') := a1
    have sr : ∀ H, srcOf H 1 (immV 1 [.int .u64 p.At]) = some ([.int .u64 p.At], 1) := fun H => rfl
    have hcons : ∀ {b : Bool}, relOk s p = b → (p :: ps).all (relOk s) = (b && ps.all (relOk s)) := fun h => by rw [List.all_cons, h]
    have hfin : ∀ {z : Ex} {e : Env} {h : Heap}, ((z = Ex.exit 2 ∧ ps.all (relOk s) = true ∧ e 1 = p0 ∧ SO (intE .u64) s h (e 4) ((acc ++ [p.At]) ++ ps.map (·.At))) ∨ (z = .ret ∧ e 2 = Value.bool false ∧ ps.all (relOk s) = false)) → relOk s p = true →
        ((z = Ex.exit 2 ∧ (p :: ps).all (relOk s) = true ∧ e 1 = p0 ∧ SO (intE .u64) s h (e 4) (acc ++ (p :: ps).map (·.At))) ∨ (z = .ret ∧ e 2 = Value.bool false ∧ (p :: ps).all (relOk s) = false)) := fun {z e h} hh hk => by
      rw [hcons hk, Bool.true_and, List.map_cons]
      simpa using hh
    have hbad : relOk s p = false → (p :: ps).all (relOk s) = false := fun h => by rw [hcons h, Bool.false_and]
    rw [w_loop]
    by_cases b1 : (ofM s.Machine p.Typ).getD (-1) < 1
    · have hf : relOk s p = false := by unfold relOk; rw [decide_eq_true b1]; rfl
      have hb := hbad hf
      simp only [fws, seval, cond_true, cond_false, if_true, if_false, unV, isNil, optI, iV, stepI, evalR, IntKind.bits, ini, fwh, lk, cellsAt, tagOf, spotOf, rdN, spl, fillL, zr, faI_ptr, lenI_sl, F_ref17_Rightr0b, F_ref17_Rightr0_W, F_ref17_Rightr1b, F_ref17_Rightr1_W, F_ref17_Rightr1_g3, F_ref17_Rightr1_g8, F_ref17_Rightr1_g14, F_ref17_Rightr1_g20, F_ref17_Rightr2b, F_ref17_Rightr2_W, F_ref17_Rightr3b, F_ref17_Rightr3_W, F_ref17_Rightr4b, F_ref17_Rightr4_W, F_ref17_Rightr6b, F_ref17_Rightr6_W, F_ref17_Rightr6_g7, F_ref17_Rightr7b, F_ref17_Rightr7_W, F_ref17_Rightr5b, F_ref17_Rightr5_W, F_ref17_Rightl0b, F_ref17_Rightr8b, F_ref17_Rightr8_W, F_ref17_Rightr8_g4, F_ref17_Rightr8_g9, F_ref17_Rightr8_g14, F_ref17_Rightr8_g19, F_ref17_Rightr8_g28, F_ref17_Rightr8_g33, F_ref17_Rightr8_g38, F_ref17_Rightr8_g43, F_ref17_Rightr9b, F_ref17_Rightr9_W, F_ref17_Rightr10b, F_ref17_Rightr10_W, F_ref17_Rightr10_g3, F_ref17_Rightr11b, F_ref17_Rightr11_W, F_ref17_Rightr12b, F_ref17_Rightr12_W, F_ref17_Rightr13b, F_ref17_Rightr13_W, F_ref17_Rightr14b, F_ref17_Rightr14_W, F_ref17_Rightr16b, F_ref17_Rightr16_W, F_ref17_Rightr17b, F_ref17_Rightr17_W, F_ref17_Rightr17_g8, F_ref17_Rightr17_g18, F_ref17_Rightr17_g25, F_ref17_Rightr17_g29, F_ref17_Rightr18b, F_ref17_Rightr18_W, F_ref17_Rightr19b, F_ref17_Rightr19_W, F_ref17_Rightr15b, F_ref17_Rightr15_W, F_ref17_Rightl1b, F_ref17_Rightl1_W, F_ref17_Rightr20b, F_ref17_Rightr20_W, F_ref17_Rightr21b, F_ref17_Rightr21_W, F_ref17_Rightr23b, F_ref17_Rightr23_g7, F_ref17_Rightr23_g10, F_ref17_Rightr23_W, F_ref17_Rightr24b, F_ref17_Rightr24_W, F_ref17_Rightr25b, F_ref17_Rightr25_W, F_ref17_Rightr22b, F_ref17_Rightr22_W, F_ref17_Rightl2b, F_ref17_Rightr26b, F_ref17_Rightr26_W, F_ref17_Rightr27b, F_ref17_Rightr27_W, F_ref17_Rightr29b, F_ref17_Rightr29_W, F_ref17_Rightr30b, F_ref17_Rightr30_W, F_ref17_Rightr31b, F_ref17_Rightr31_W, F_ref17_Rightr32b, F_ref17_Rightr32_W, F_ref17_Rightr34b, F_ref17_Rightr34_W, F_ref17_Rightr35b, F_ref17_Rightr35_W, F_ref17_Rightr33b, F_ref17_Rightr33_W, F_ref17_Rightl4b, F_ref17_Rightr28b, F_ref17_Rightr28_W, F_ref17_Rightl3b, F_ref17_Rightr36b, F_ref17_Rightr36_W, F_ref17_Rightcb, F_ref17_Rightc_W, v1, v4, v5, L8', wm, wt, q, hxx, hld, L0, L7, L15, y0, y1, y2, y3, y4, CC_of c, List.all_cons, hf, b1]
      exact .inr ⟨trivial, trivial, trivial⟩
    · have hk1 := b1
      by_cases b2 : ((lst s.Syms).length : Int) < p.Sym
      · have hf : relOk s p = false := by unfold relOk; rw [decide_eq_true b2]; simp
        simp only [fws, seval, cond_true, cond_false, if_true, if_false, unV, isNil, optI, iV, stepI, evalR, IntKind.bits, ini, fwh, lk, cellsAt, tagOf, spotOf, rdN, spl, fillL, zr, faI_ptr, lenI_sl, F_ref17_Rightr0b, F_ref17_Rightr0_W, F_ref17_Rightr1b, F_ref17_Rightr1_W, F_ref17_Rightr1_g3, F_ref17_Rightr1_g8, F_ref17_Rightr1_g14, F_ref17_Rightr1_g20, F_ref17_Rightr2b, F_ref17_Rightr2_W, F_ref17_Rightr3b, F_ref17_Rightr3_W, F_ref17_Rightr4b, F_ref17_Rightr4_W, F_ref17_Rightr6b, F_ref17_Rightr6_W, F_ref17_Rightr6_g7, F_ref17_Rightr7b, F_ref17_Rightr7_W, F_ref17_Rightr5b, F_ref17_Rightr5_W, F_ref17_Rightl0b, F_ref17_Rightr8b, F_ref17_Rightr8_W, F_ref17_Rightr8_g4, F_ref17_Rightr8_g9, F_ref17_Rightr8_g14, F_ref17_Rightr8_g19, F_ref17_Rightr8_g28, F_ref17_Rightr8_g33, F_ref17_Rightr8_g38, F_ref17_Rightr8_g43, F_ref17_Rightr9b, F_ref17_Rightr9_W, F_ref17_Rightr10b, F_ref17_Rightr10_W, F_ref17_Rightr10_g3, F_ref17_Rightr11b, F_ref17_Rightr11_W, F_ref17_Rightr12b, F_ref17_Rightr12_W, F_ref17_Rightr13b, F_ref17_Rightr13_W, F_ref17_Rightr14b, F_ref17_Rightr14_W, F_ref17_Rightr16b, F_ref17_Rightr16_W, F_ref17_Rightr17b, F_ref17_Rightr17_W, F_ref17_Rightr17_g8, F_ref17_Rightr17_g18, F_ref17_Rightr17_g25, F_ref17_Rightr17_g29, F_ref17_Rightr18b, F_ref17_Rightr18_W, F_ref17_Rightr19b, F_ref17_Rightr19_W, F_ref17_Rightr15b, F_ref17_Rightr15_W, F_ref17_Rightl1b, F_ref17_Rightl1_W, F_ref17_Rightr20b, F_ref17_Rightr20_W, F_ref17_Rightr21b, F_ref17_Rightr21_W, F_ref17_Rightr23b, F_ref17_Rightr23_g7, F_ref17_Rightr23_g10, F_ref17_Rightr23_W, F_ref17_Rightr24b, F_ref17_Rightr24_W, F_ref17_Rightr25b, F_ref17_Rightr25_W, F_ref17_Rightr22b, F_ref17_Rightr22_W, F_ref17_Rightl2b, F_ref17_Rightr26b, F_ref17_Rightr26_W, F_ref17_Rightr27b, F_ref17_Rightr27_W, F_ref17_Rightr29b, F_ref17_Rightr29_W, F_ref17_Rightr30b, F_ref17_Rightr30_W, F_ref17_Rightr31b, F_ref17_Rightr31_W, F_ref17_Rightr32b, F_ref17_Rightr32_W, F_ref17_Rightr34b, F_ref17_Rightr34_W, F_ref17_Rightr35b, F_ref17_Rightr35_W, F_ref17_Rightr33b, F_ref17_Rightr33_W, F_ref17_Rightl4b, F_ref17_Rightr28b, F_ref17_Rightr28_W, F_ref17_Rightl3b, F_ref17_Rightr36b, F_ref17_Rightr36_W, F_ref17_Rightcb, F_ref17_Rightc_W, v1, v4, v5, L8', wm, wt, q, hxx, hld, L0, L7, L15, y0, y1, y2, y3, y4, CC_of c, List.all_cons, hf, hk1, wl, wy, b2]
        exact .inr ⟨trivial, trivial, trivial⟩
      · have b2' : decide (((lst s.Syms).length : Int) < p.Sym) = false := decide_eq_false b2
        have hR : relOk s p = ((p.Has == s.Rela) && (p.Has || decide (p.Add = 0))) := by unfold relOk; rw [decide_eq_false b1, b2']; simp
        by_cases b3 : (p.Has != s.Rela) = true
        · have hf : relOk s p = false := by rw [hR]; have : (p.Has == s.Rela) = false := by simpa [bne] using b3
                                            rw [this]; rfl
          simp only [fws, seval, cond_true, cond_false, if_true, if_false, unV, isNil, optI, iV, stepI, evalR, IntKind.bits, ini, fwh, lk, cellsAt, tagOf, spotOf, rdN, spl, fillL, zr, faI_ptr, lenI_sl, F_ref17_Rightr0b, F_ref17_Rightr0_W, F_ref17_Rightr1b, F_ref17_Rightr1_W, F_ref17_Rightr1_g3, F_ref17_Rightr1_g8, F_ref17_Rightr1_g14, F_ref17_Rightr1_g20, F_ref17_Rightr2b, F_ref17_Rightr2_W, F_ref17_Rightr3b, F_ref17_Rightr3_W, F_ref17_Rightr4b, F_ref17_Rightr4_W, F_ref17_Rightr6b, F_ref17_Rightr6_W, F_ref17_Rightr6_g7, F_ref17_Rightr7b, F_ref17_Rightr7_W, F_ref17_Rightr5b, F_ref17_Rightr5_W, F_ref17_Rightl0b, F_ref17_Rightr8b, F_ref17_Rightr8_W, F_ref17_Rightr8_g4, F_ref17_Rightr8_g9, F_ref17_Rightr8_g14, F_ref17_Rightr8_g19, F_ref17_Rightr8_g28, F_ref17_Rightr8_g33, F_ref17_Rightr8_g38, F_ref17_Rightr8_g43, F_ref17_Rightr9b, F_ref17_Rightr9_W, F_ref17_Rightr10b, F_ref17_Rightr10_W, F_ref17_Rightr10_g3, F_ref17_Rightr11b, F_ref17_Rightr11_W, F_ref17_Rightr12b, F_ref17_Rightr12_W, F_ref17_Rightr13b, F_ref17_Rightr13_W, F_ref17_Rightr14b, F_ref17_Rightr14_W, F_ref17_Rightr16b, F_ref17_Rightr16_W, F_ref17_Rightr17b, F_ref17_Rightr17_W, F_ref17_Rightr17_g8, F_ref17_Rightr17_g18, F_ref17_Rightr17_g25, F_ref17_Rightr17_g29, F_ref17_Rightr18b, F_ref17_Rightr18_W, F_ref17_Rightr19b, F_ref17_Rightr19_W, F_ref17_Rightr15b, F_ref17_Rightr15_W, F_ref17_Rightl1b, F_ref17_Rightl1_W, F_ref17_Rightr20b, F_ref17_Rightr20_W, F_ref17_Rightr21b, F_ref17_Rightr21_W, F_ref17_Rightr23b, F_ref17_Rightr23_g7, F_ref17_Rightr23_g10, F_ref17_Rightr23_W, F_ref17_Rightr24b, F_ref17_Rightr24_W, F_ref17_Rightr25b, F_ref17_Rightr25_W, F_ref17_Rightr22b, F_ref17_Rightr22_W, F_ref17_Rightl2b, F_ref17_Rightr26b, F_ref17_Rightr26_W, F_ref17_Rightr27b, F_ref17_Rightr27_W, F_ref17_Rightr29b, F_ref17_Rightr29_W, F_ref17_Rightr30b, F_ref17_Rightr30_W, F_ref17_Rightr31b, F_ref17_Rightr31_W, F_ref17_Rightr32b, F_ref17_Rightr32_W, F_ref17_Rightr34b, F_ref17_Rightr34_W, F_ref17_Rightr35b, F_ref17_Rightr35_W, F_ref17_Rightr33b, F_ref17_Rightr33_W, F_ref17_Rightl4b, F_ref17_Rightr28b, F_ref17_Rightr28_W, F_ref17_Rightl3b, F_ref17_Rightr36b, F_ref17_Rightr36_W, F_ref17_Rightcb, F_ref17_Rightc_W, v1, v4, v5, L8', wm, wt, q, hxx, hld, L0, L7, L15, y0, y1, y2, y3, y4, CC_of c, List.all_cons, hf, hk1, wl, wy, b2, b3]
          exact .inr ⟨trivial, trivial, trivial⟩
        · have b3 : (p.Has != s.Rela) = false := by simpa using b3
          have b3' : (p.Has == s.Rela) = true := by simpa [bne] using b3
          rw [b3', Bool.true_and] at hR
          cases b4 : p.Has with
          | true =>
            have hk : relOk s p = true := by rw [hR, b4]; rfl
            rw [b4] at b3
            have y4' : loadI (H ++ [reEn p]) (.pointer (some ⟨H.length, 4, none⟩)) = some (.bool true, H ++ [reEn p]) := by rw [y4, b4]
            simp only [fws, seval, cond_true, cond_false, if_true, if_false, unV, isNil, optI, iV, stepI, evalR, IntKind.bits, ini, fwh, lk, cellsAt, tagOf, spotOf, rdN, spl, fillL, zr, faI_ptr, lenI_sl, F_ref17_Rightr0b, F_ref17_Rightr0_W, F_ref17_Rightr1b, F_ref17_Rightr1_W, F_ref17_Rightr1_g3, F_ref17_Rightr1_g8, F_ref17_Rightr1_g14, F_ref17_Rightr1_g20, F_ref17_Rightr2b, F_ref17_Rightr2_W, F_ref17_Rightr3b, F_ref17_Rightr3_W, F_ref17_Rightr4b, F_ref17_Rightr4_W, F_ref17_Rightr6b, F_ref17_Rightr6_W, F_ref17_Rightr6_g7, F_ref17_Rightr7b, F_ref17_Rightr7_W, F_ref17_Rightr5b, F_ref17_Rightr5_W, F_ref17_Rightl0b, F_ref17_Rightr8b, F_ref17_Rightr8_W, F_ref17_Rightr8_g4, F_ref17_Rightr8_g9, F_ref17_Rightr8_g14, F_ref17_Rightr8_g19, F_ref17_Rightr8_g28, F_ref17_Rightr8_g33, F_ref17_Rightr8_g38, F_ref17_Rightr8_g43, F_ref17_Rightr9b, F_ref17_Rightr9_W, F_ref17_Rightr10b, F_ref17_Rightr10_W, F_ref17_Rightr10_g3, F_ref17_Rightr11b, F_ref17_Rightr11_W, F_ref17_Rightr12b, F_ref17_Rightr12_W, F_ref17_Rightr13b, F_ref17_Rightr13_W, F_ref17_Rightr14b, F_ref17_Rightr14_W, F_ref17_Rightr16b, F_ref17_Rightr16_W, F_ref17_Rightr17b, F_ref17_Rightr17_W, F_ref17_Rightr17_g8, F_ref17_Rightr17_g18, F_ref17_Rightr17_g25, F_ref17_Rightr17_g29, F_ref17_Rightr18b, F_ref17_Rightr18_W, F_ref17_Rightr19b, F_ref17_Rightr19_W, F_ref17_Rightr15b, F_ref17_Rightr15_W, F_ref17_Rightl1b, F_ref17_Rightl1_W, F_ref17_Rightr20b, F_ref17_Rightr20_W, F_ref17_Rightr21b, F_ref17_Rightr21_W, F_ref17_Rightr23b, F_ref17_Rightr23_g7, F_ref17_Rightr23_g10, F_ref17_Rightr23_W, F_ref17_Rightr24b, F_ref17_Rightr24_W, F_ref17_Rightr25b, F_ref17_Rightr25_W, F_ref17_Rightr22b, F_ref17_Rightr22_W, F_ref17_Rightl2b, F_ref17_Rightr26b, F_ref17_Rightr26_W, F_ref17_Rightr27b, F_ref17_Rightr27_W, F_ref17_Rightr29b, F_ref17_Rightr29_W, F_ref17_Rightr30b, F_ref17_Rightr30_W, F_ref17_Rightr31b, F_ref17_Rightr31_W, F_ref17_Rightr32b, F_ref17_Rightr32_W, F_ref17_Rightr34b, F_ref17_Rightr34_W, F_ref17_Rightr35b, F_ref17_Rightr35_W, F_ref17_Rightr33b, F_ref17_Rightr33_W, F_ref17_Rightl4b, F_ref17_Rightr28b, F_ref17_Rightr28_W, F_ref17_Rightl3b, F_ref17_Rightr36b, F_ref17_Rightr36_W, F_ref17_Rightcb, F_ref17_Rightc_W, v1, v4, v5, L8', wm, wt, q, hxx, hld, L0, L7, L15, y0, y1, y2, y3, y4', CC_of c, hk1, wl, wy, b2, b3, sr, a1', w2]
            refine W.mono (ih (i + 1) _ v' _ _ hr2 a2 (by simp only [List.length_append, List.length_cons, List.length_nil]; omega) ?_ ?_ ?_) fun z e h hh => hfin hh hk
            all_goals (first | assumption | rfl)
          | false =>
            rw [b4, Bool.false_or] at hR
            rw [b4] at b3
            have y4' : loadI (H ++ [reEn p]) (.pointer (some ⟨H.length, 4, none⟩)) = some (.bool false, H ++ [reEn p]) := by rw [y4, b4]
            by_cases b5 : p.Add = 0
            · have hk : relOk s p = true := by rw [hR]; exact decide_eq_true b5
              have d5 : decide (p.Add = 0) = true := decide_eq_true b5
              simp only [fws, seval, cond_true, cond_false, if_true, if_false, unV, isNil, optI, iV, stepI, evalR, IntKind.bits, ini, fwh, lk, cellsAt, tagOf, spotOf, rdN, spl, fillL, zr, faI_ptr, lenI_sl, F_ref17_Rightr0b, F_ref17_Rightr0_W, F_ref17_Rightr1b, F_ref17_Rightr1_W, F_ref17_Rightr1_g3, F_ref17_Rightr1_g8, F_ref17_Rightr1_g14, F_ref17_Rightr1_g20, F_ref17_Rightr2b, F_ref17_Rightr2_W, F_ref17_Rightr3b, F_ref17_Rightr3_W, F_ref17_Rightr4b, F_ref17_Rightr4_W, F_ref17_Rightr6b, F_ref17_Rightr6_W, F_ref17_Rightr6_g7, F_ref17_Rightr7b, F_ref17_Rightr7_W, F_ref17_Rightr5b, F_ref17_Rightr5_W, F_ref17_Rightl0b, F_ref17_Rightr8b, F_ref17_Rightr8_W, F_ref17_Rightr8_g4, F_ref17_Rightr8_g9, F_ref17_Rightr8_g14, F_ref17_Rightr8_g19, F_ref17_Rightr8_g28, F_ref17_Rightr8_g33, F_ref17_Rightr8_g38, F_ref17_Rightr8_g43, F_ref17_Rightr9b, F_ref17_Rightr9_W, F_ref17_Rightr10b, F_ref17_Rightr10_W, F_ref17_Rightr10_g3, F_ref17_Rightr11b, F_ref17_Rightr11_W, F_ref17_Rightr12b, F_ref17_Rightr12_W, F_ref17_Rightr13b, F_ref17_Rightr13_W, F_ref17_Rightr14b, F_ref17_Rightr14_W, F_ref17_Rightr16b, F_ref17_Rightr16_W, F_ref17_Rightr17b, F_ref17_Rightr17_W, F_ref17_Rightr17_g8, F_ref17_Rightr17_g18, F_ref17_Rightr17_g25, F_ref17_Rightr17_g29, F_ref17_Rightr18b, F_ref17_Rightr18_W, F_ref17_Rightr19b, F_ref17_Rightr19_W, F_ref17_Rightr15b, F_ref17_Rightr15_W, F_ref17_Rightl1b, F_ref17_Rightl1_W, F_ref17_Rightr20b, F_ref17_Rightr20_W, F_ref17_Rightr21b, F_ref17_Rightr21_W, F_ref17_Rightr23b, F_ref17_Rightr23_g7, F_ref17_Rightr23_g10, F_ref17_Rightr23_W, F_ref17_Rightr24b, F_ref17_Rightr24_W, F_ref17_Rightr25b, F_ref17_Rightr25_W, F_ref17_Rightr22b, F_ref17_Rightr22_W, F_ref17_Rightl2b, F_ref17_Rightr26b, F_ref17_Rightr26_W, F_ref17_Rightr27b, F_ref17_Rightr27_W, F_ref17_Rightr29b, F_ref17_Rightr29_W, F_ref17_Rightr30b, F_ref17_Rightr30_W, F_ref17_Rightr31b, F_ref17_Rightr31_W, F_ref17_Rightr32b, F_ref17_Rightr32_W, F_ref17_Rightr34b, F_ref17_Rightr34_W, F_ref17_Rightr35b, F_ref17_Rightr35_W, F_ref17_Rightr33b, F_ref17_Rightr33_W, F_ref17_Rightl4b, F_ref17_Rightr28b, F_ref17_Rightr28_W, F_ref17_Rightl3b, F_ref17_Rightr36b, F_ref17_Rightr36_W, F_ref17_Rightcb, F_ref17_Rightc_W, v1, v4, v5, L8', wm, wt, q, hxx, hld, L0, L7, L15, y0, y1, y2, y3, y4', CC_of c, hk1, wl, wy, b2, b3, d5, sr, a1', w2]
              refine W.mono (ih (i + 1) _ v' _ _ hr2 a2 (by simp only [List.length_append, List.length_cons, List.length_nil]; omega) ?_ ?_ ?_) fun z e h hh => hfin hh hk
              all_goals (first | assumption | rfl)
            · have hf : relOk s p = false := by rw [hR]; exact decide_eq_false b5
              simp only [fws, seval, cond_true, cond_false, if_true, if_false, unV, isNil, optI, iV, stepI, evalR, IntKind.bits, ini, fwh, lk, cellsAt, tagOf, spotOf, rdN, spl, fillL, zr, faI_ptr, lenI_sl, F_ref17_Rightr0b, F_ref17_Rightr0_W, F_ref17_Rightr1b, F_ref17_Rightr1_W, F_ref17_Rightr1_g3, F_ref17_Rightr1_g8, F_ref17_Rightr1_g14, F_ref17_Rightr1_g20, F_ref17_Rightr2b, F_ref17_Rightr2_W, F_ref17_Rightr3b, F_ref17_Rightr3_W, F_ref17_Rightr4b, F_ref17_Rightr4_W, F_ref17_Rightr6b, F_ref17_Rightr6_W, F_ref17_Rightr6_g7, F_ref17_Rightr7b, F_ref17_Rightr7_W, F_ref17_Rightr5b, F_ref17_Rightr5_W, F_ref17_Rightl0b, F_ref17_Rightr8b, F_ref17_Rightr8_W, F_ref17_Rightr8_g4, F_ref17_Rightr8_g9, F_ref17_Rightr8_g14, F_ref17_Rightr8_g19, F_ref17_Rightr8_g28, F_ref17_Rightr8_g33, F_ref17_Rightr8_g38, F_ref17_Rightr8_g43, F_ref17_Rightr9b, F_ref17_Rightr9_W, F_ref17_Rightr10b, F_ref17_Rightr10_W, F_ref17_Rightr10_g3, F_ref17_Rightr11b, F_ref17_Rightr11_W, F_ref17_Rightr12b, F_ref17_Rightr12_W, F_ref17_Rightr13b, F_ref17_Rightr13_W, F_ref17_Rightr14b, F_ref17_Rightr14_W, F_ref17_Rightr16b, F_ref17_Rightr16_W, F_ref17_Rightr17b, F_ref17_Rightr17_W, F_ref17_Rightr17_g8, F_ref17_Rightr17_g18, F_ref17_Rightr17_g25, F_ref17_Rightr17_g29, F_ref17_Rightr18b, F_ref17_Rightr18_W, F_ref17_Rightr19b, F_ref17_Rightr19_W, F_ref17_Rightr15b, F_ref17_Rightr15_W, F_ref17_Rightl1b, F_ref17_Rightl1_W, F_ref17_Rightr20b, F_ref17_Rightr20_W, F_ref17_Rightr21b, F_ref17_Rightr21_W, F_ref17_Rightr23b, F_ref17_Rightr23_g7, F_ref17_Rightr23_g10, F_ref17_Rightr23_W, F_ref17_Rightr24b, F_ref17_Rightr24_W, F_ref17_Rightr25b, F_ref17_Rightr25_W, F_ref17_Rightr22b, F_ref17_Rightr22_W, F_ref17_Rightl2b, F_ref17_Rightr26b, F_ref17_Rightr26_W, F_ref17_Rightr27b, F_ref17_Rightr27_W, F_ref17_Rightr29b, F_ref17_Rightr29_W, F_ref17_Rightr30b, F_ref17_Rightr30_W, F_ref17_Rightr31b, F_ref17_Rightr31_W, F_ref17_Rightr32b, F_ref17_Rightr32_W, F_ref17_Rightr34b, F_ref17_Rightr34_W, F_ref17_Rightr35b, F_ref17_Rightr35_W, F_ref17_Rightr33b, F_ref17_Rightr33_W, F_ref17_Rightl4b, F_ref17_Rightr28b, F_ref17_Rightr28_W, F_ref17_Rightl3b, F_ref17_Rightr36b, F_ref17_Rightr36_W, F_ref17_Rightcb, F_ref17_Rightc_W, v1, v4, v5, L8', wm, wt, q, hxx, hld, L0, L7, L15, y0, y1, y2, y3, y4', CC_of c, List.all_cons, hf, hk1, wl, wy, b2, b3, b5]
              exact .inr ⟨trivial, trivial, trivial⟩
end
end Go.Proofs.YtdjgknlhpdnhbaaGreat
