/- The document's symbols. -/
import Derived.Test.YtdajdgjacajemaaGreatDC
namespace Go.Proofs.YtdajdgjacajemaaGreat
open Go Fw
set_option linter.unusedSimpArgs false
set_option linter.unusedVariables false
set_option linter.unusedSectionVars false

theorem Own.frz {α : Type} {E : Enc α} {l : List α} {H : Heap} {v : Value} (h : Own E H v l) (hl : l ≠ []) {k : Nat} (hk : E.d ≤ k) : Fw.frz (k + 1) H v = some (imm E l) := by
  rcases h with ⟨h1, _⟩ | ⟨b, tag, rfl, hH⟩
  · exact absurd h1 hl
  · have h1 : pureV (k + 1) (own b tag l.length) = false := rfl
    simp only [Fw.frz, h1, cond_false]
    rw [own_lk (tag := tag) (o := .cells false E.u (E.cs l)) hH]
    simp only [List.drop_zero, rdN_cs rfl, Option.bind_some]
    rw [mapM_pure (cs_pure' hk)]
    rfl
abbrev sEn (p : S_api_Sym) : Entry := ⟨0, .cells false 7 (S_api_SymE.e p)⟩
/-- One symbol is being told: its pieces so far. -/
def SS (a : Nat) (p : S_api_Sym) (acc : List UInt8) (i : Nat) (o : Option (List S_api_Sym)) (L : List (List UInt8)) (e : Env) (h : Heap) : Prop :=
  e 0 = slV S_api_SymE o ∧ e 3 = strV acc ∧ e 4 = .int .i64 i ∧ e 5 = .pointer (some ⟨a, 0, none⟩) ∧ h[a]? = some (sEn p) ∧ Own strE h (e 7) L ∧ blkV (e 7) ≠ some a
section
variable {T : Tab} {a : Nat} {p : S_api_Sym} {acc : List UInt8} {i : Nat} {o : Option (List S_api_Sym)} {L : List (List UInt8)} {env : Env} {H : Heap}
theorem sy_def (t : DuF T) (hs : SS a p acc i o L env H) (hL : L.length = 5) (hok : OkS p) :
    W T (.seq (.reg F_ref32_Symsr15) (.cond (.t 38) (.reg F_ref32_Symsr16) .skip)) env H fun x e h => x = .normal ∧ SS a p acc i o (bif p.Defined then L.set 3 (hexI p.Value) else L) e h := by
  obtain ⟨v0, v3, v4, v5, ha, hw, hb⟩ := hs
  have ha' := ha
  rw [sEn, S_api_SymE_e] at ha'
  cases hd : p.Defined with
  | false =>
    rw [hd] at ha'
    simp only [fws, seval, cond_true, cond_false, if_true, if_false, unV, isNil, optI, iV, stepI, evalR, IntKind.bits, ini, fwh, lk, cellsAt, tagOf, spotOf, rdN, spl, fillL, zr, faI_ptr, loadI_ptr, N_ref32_Syms, v5, ha']
    exact ⟨trivial, v0, v3, v4, v5, ha, hw, hb⟩
  | true =>
    rw [hd] at ha'
    have x1 := f_rhex t hok.a.1 hok.a.2
    obtain ⟨ad, tag, cs, b, b1, b2, b3, b4, b5, b6, b7⟩ := hw.ix1 rfl (i := 3) (by omega) .i64 (f := fun s => strV s) (fun x => rfl)
    have b2 : ixaI H 1 (env 7) (.int .i64 3) = some (.pointer (some ad), H) := b2
    have hb8 : decide (ad.off + 1 ≤ cs.length) = true := decide_eq_true b6
    subst b4
    have hne : ad.block ≠ a := fun e => hb (by rw [b1, e])
    have L1 : loadI H (.pointer (some ⟨a, 4, none⟩)) = some (.bool true, H) := by
      simp only [loadI_ptr, lk, cellsAt, tagOf, ha']
      rfl
    have L2 : loadI H (.pointer (some ⟨a, 5, none⟩)) = some (.int .u64 p.Value, H) := by
      simp only [loadI_ptr, lk, cellsAt, tagOf, ha']
      rfl
    simp only [fws, seval, cond_true, cond_false, if_true, if_false, unV, isNil, optI, iV, stepI, evalR, IntKind.bits, ini, faI_ptr, L1, L2, N_ref32_Syms, v5, Nat.zero_add, CC_of x1, b2, b5, hb8, spl, fwh]
    refine ⟨trivial, v0, v3, v4, v5, ?_, ?_, ?_⟩
    · rw [List.getElem?_set_ne hne]; exact ha
    · exact b7 (hexI p.Value)
    · show blkV (env 7) ≠ some a
      exact hb
theorem sy_hid (hs : SS a p acc i o L env H) (hL : L.length ≤ 20) :
    W T (.seq (.reg F_ref32_Symsr17) (.cond (.t 45) (.reg F_ref32_Symsr18) .skip)) env H fun x e h => x = .normal ∧ SS a p acc i o (bif p.Hidden then L ++ [wHidden] else L) e h := by
  obtain ⟨v0, v3, v4, v5, ha, hw, hb⟩ := hs
  have ha' := ha
  rw [sEn, S_api_SymE_e] at ha'
  cases hd : p.Hidden with
  | false =>
    rw [hd] at ha'
    simp only [fws, seval, cond_true, cond_false, if_true, if_false, unV, isNil, optI, iV, stepI, evalR, IntKind.bits, ini, fwh, lk, cellsAt, tagOf, spotOf, rdN, spl, fillL, zr, faI_ptr, loadI_ptr, N_ref32_Syms, v5, ha']
    exact ⟨trivial, v0, v3, v4, v5, ha, hw, hb⟩
  | true =>
    rw [hd] at ha'
    obtain ⟨v', H', a1, a2, a3⟩ := hw.app (m := [wHidden]) (n := 1) (eb := 16) (k := 1) rfl rfl (by simp; omega)
    have a1 : appV 1 16 H (env 7) [.string ⟨#[104, 105, 100, 100, 101, 110]⟩] 1 = some (v', H') := a1
    simp only [fws, seval, cond_true, cond_false, if_true, if_false, unV, isNil, optI, iV, stepI, evalR, IntKind.bits, ini, fwh, lk, cellsAt, tagOf, spotOf, rdN, spl, fillL, zr, faI_ptr, loadI_ptr, N_ref32_Syms, v5, ha', srcOf_immV, a1]
    refine ⟨trivial, v0, v3, v4, v5, ?_, a2, ?_⟩
    · rw [a3.same a (List.getElem?_eq_some_iff.1 ha).1 hb]; exact ha
    · show blkV v' ≠ some a
      rcases a3.blk with e | ⟨_, b, e, h3⟩
      · rw [e]; exact hb
      · rw [e]; have := (List.getElem?_eq_some_iff.1 ha).1; intro e'; cases e'; omega
theorem sy_nam (hs : SS a p acc i o L env H) (hL : L.length ≤ 20) :
    W T (.reg F_ref32_Symsr19) env H fun x e h => x = .normal ∧ SS a p acc i o (L ++ [p.Name]) e h := by
  obtain ⟨v0, v3, v4, v5, ha, hw, hb⟩ := hs
  have ha' := ha
  rw [sEn, S_api_SymE_e] at ha'
  obtain ⟨v', H', a1, a2, a3⟩ := hw.app (m := [p.Name]) (n := 1) (eb := 16) (k := 1) rfl rfl (by simp; omega)
  have a1 : appV 1 16 H (env 7) [strV p.Name] 1 = some (v', H') := a1
  simp only [fws, seval, cond_true, cond_false, if_true, if_false, unV, isNil, optI, iV, stepI, evalR, IntKind.bits, ini, fwh, lk, cellsAt, tagOf, spotOf, rdN, spl, fillL, zr, faI_ptr, loadI_ptr, N_ref32_Syms, v5, ha', srcOf_immV, a1]
  refine ⟨trivial, v0, v3, v4, v5, ?_, a2, ?_⟩
  · rw [a3.same a (List.getElem?_eq_some_iff.1 ha).1 hb]; exact ha
  · show blkV v' ≠ some a
    rcases a3.blk with e | ⟨_, b, e, h3⟩
    · rw [e]; exact hb
    · rw [e]; have := (List.getElem?_eq_some_iff.1 ha).1; intro e'; cases e'; omega
theorem sy_ver (hs : SS a p acc i o L env H) (hL : L.length ≤ 20) :
    W T (.seq (.reg F_ref32_Symsr20) (.cond (.t 56) (.reg F_ref32_Symsr21) .skip)) env H fun x e h => x = .normal ∧ SS a p acc i o (if p.Ver = [] then L else L ++ [wVersion, p.Ver]) e h := by
  obtain ⟨v0, v3, v4, v5, ha, hw, hb⟩ := hs
  have ha' := ha
  rw [sEn, S_api_SymE_e] at ha'
  by_cases hd : p.Ver = []
  · have b0 : strEq ⟨p.Ver.toArray⟩ ⟨#[]⟩ = true := by rw [hd]; rfl
    rw [if_pos hd]
    simp only [fws, seval, cond_true, cond_false, if_true, if_false, unV, isNil, optI, iV, stepI, evalR, IntKind.bits, ini, fwh, lk, cellsAt, tagOf, spotOf, rdN, spl, fillL, zr, faI_ptr, loadI_ptr, N_ref32_Syms, v5, ha', b0, Bool.not_true]
    exact ⟨trivial, v0, v3, v4, v5, ha, hw, hb⟩
  · have b0 := ne_str hd
    rw [if_neg hd]
    obtain ⟨v', H', a1, a2, a3⟩ := hw.app (m := [wVersion, p.Ver]) (n := 1) (eb := 16) (k := 2) rfl rfl (by simp; omega)
    have a1 : appV 1 16 H (env 7) [.string ⟨#[118, 101, 114, 115, 105, 111, 110]⟩, strV p.Ver] 2 = some (v', H') := a1
    simp only [fws, seval, cond_true, cond_false, if_true, if_false, unV, isNil, optI, iV, stepI, evalR, IntKind.bits, ini, fwh, lk, cellsAt, tagOf, spotOf, rdN, spl, fillL, zr, faI_ptr, loadI_ptr, N_ref32_Syms, v5, ha', b0, Bool.not_false, srcOf_immV, a1]
    refine ⟨trivial, v0, v3, v4, v5, ?_, a2, ?_⟩
    · rw [a3.same a (List.getElem?_eq_some_iff.1 ha).1 hb]; exact ha
    · show blkV v' ≠ some a
      rcases a3.blk with e | ⟨_, b, e, h3⟩
      · rw [e]; exact hb
      · rw [e]; have := (List.getElem?_eq_some_iff.1 ha).1; intro e'; cases e'; omega
end
end Go.Proofs.YtdajdgjacajemaaGreat
/- The document's symbols, whole. -/
namespace Go.Proofs.YtdajdgjacajemaaGreat
open Go Fw
set_option linter.unusedSimpArgs false
set_option linter.unusedVariables false
set_option linter.unusedSectionVars false

theorem bindM_ne {n : Int} (h : n ≤ 9223372036854775807) : bindM n ≠ [] := by
  unfold bindM
  repeat' split
  all_goals simp
/-- The pieces of a symbol, as the document puts them. -/
def pcs (i : Nat) (p : S_api_Sym) : List (List UInt8) :=
  let L1 := [wSym, textF i, bindM p.Bind, (bif p.Defined then hexI p.Value else wUndef), hexI p.Size]
  let L3 := (bif p.Hidden then L1 ++ [wHidden] else L1) ++ [p.Name]
  if p.Ver = [] then L3 else L3 ++ [wVersion, p.Ver]
theorem pcs_line (i : Nat) (p : S_api_Sym) (hi : (i : Int) ≤ 9223372036854775807) (hb : p.Bind ≤ 9223372036854775807) : lineM (pcs i p) = symM i p := by
  have h1 := textF_ne hi
  have h2 := bindM_ne hb
  have h3 : (bif p.Defined then hexI p.Value else wUndef) ≠ [] := by
    cases p.Defined
    · simp
    · exact hexI_ne _
  have h4 := hexI_ne p.Size
  unfold pcs symM lineM
  generalize textF (i : Int) = x1 at h1 ⊢
  generalize bindM p.Bind = x2 at h2 ⊢
  generalize (bif p.Defined then hexI p.Value else wUndef) = x3 at h3 ⊢
  generalize hexI p.Size = x4 at h4 ⊢
  have hs : wSym ≠ [] := by decide
  have hh : wHidden ≠ [] := by decide
  have hw : wVersion ≠ [] := by decide
  generalize wSym = s0 at hs ⊢
  by_cases hv : p.Ver = []
  · have e1 : withM wVersion p.Ver = [] := by unfold withM; rw [if_pos hv]
    rw [if_pos hv, e1]
    cases p.Hidden with
    | true =>
      simp only [cond_true, whenM, List.cons_append, List.nil_append]
      rw [lnB_t hs, lnB_f h1, lnB_f h2, lnB_f h3, lnB_f h4, lnB_f hh, lnB_t hs, lnB_f h1, lnB_f h2, lnB_f h3, lnB_f h4, lnB_f hh]
      by_cases hn : p.Name = []
      · rw [hn, lnB_e, lnB_e, lnB_e]
      · rw [lnB_f hn, lnB_f hn, lnB_e]
    | false =>
      simp only [cond_false, whenM, List.cons_append, List.nil_append]
      rw [lnB_t hs, lnB_f h1, lnB_f h2, lnB_f h3, lnB_f h4, lnB_t hs, lnB_f h1, lnB_f h2, lnB_f h3, lnB_f h4, lnB_e]
      by_cases hn : p.Name = []
      · rw [hn, lnB_e, lnB_e, lnB_e]
      · rw [lnB_f hn, lnB_f hn, lnB_e]
  · have e1 : withM wVersion p.Ver = wVersion ++ 32 :: p.Ver := by unfold withM; rw [if_neg hv]
    have e2 : wVersion ++ 32 :: p.Ver ≠ [] := by simp
    have e3 : ∀ f, lnB false (wVersion :: [p.Ver]) = lnB false ((wVersion ++ 32 :: p.Ver) :: f :: []) ∨ f ≠ [] := fun f => by
      by_cases hf : f = []
      · left; rw [hf, lnB_f hw, lnB_f hv, lnB_f e2, lnB_e, lnB_nil, List.append_nil, List.append_nil, List.cons_append]
      · exact .inr hf
    have e4 : lnB false [wVersion, p.Ver] = lnB false [wVersion ++ 32 :: p.Ver] := by
      rw [lnB_f hw, lnB_f hv, lnB_f e2, lnB_nil, List.append_nil, List.append_nil, List.cons_append]
    rw [if_neg hv, e1]
    cases p.Hidden with
    | true =>
      simp only [cond_true, whenM, List.cons_append, List.nil_append]
      rw [lnB_t hs, lnB_f h1, lnB_f h2, lnB_f h3, lnB_f h4, lnB_f hh, lnB_t hs, lnB_f h1, lnB_f h2, lnB_f h3, lnB_f h4, lnB_f hh]
      by_cases hn : p.Name = []
      · rw [hn, lnB_e, lnB_e]
        exact congrArg (fun z => s0 ++ (32 :: x1 ++ (32 :: x2 ++ (32 :: x3 ++ (32 :: x4 ++ (32 :: wHidden ++ z))))) ++ [10]) e4
      · rw [lnB_f hn, lnB_f hn]
        exact congrArg (fun z => s0 ++ (32 :: x1 ++ (32 :: x2 ++ (32 :: x3 ++ (32 :: x4 ++ (32 :: wHidden ++ (32 :: p.Name ++ z)))))) ++ [10]) e4
    | false =>
      simp only [cond_false, whenM, List.cons_append, List.nil_append]
      rw [lnB_t hs, lnB_f h1, lnB_f h2, lnB_f h3, lnB_f h4, lnB_t hs, lnB_f h1, lnB_f h2, lnB_f h3, lnB_f h4, lnB_e]
      by_cases hn : p.Name = []
      · rw [hn, lnB_e, lnB_e]
        exact congrArg (fun z => s0 ++ (32 :: x1 ++ (32 :: x2 ++ (32 :: x3 ++ (32 :: x4 ++ z)))) ++ [10]) e4
      · rw [lnB_f hn, lnB_f hn]
        exact congrArg (fun z => s0 ++ (32 :: x1 ++ (32 :: x2 ++ (32 :: x3 ++ (32 :: x4 ++ (32 :: p.Name ++ z))))) ++ [10]) e4
section
variable {T : Tab} {a : Nat} {p : S_api_Sym} {acc : List UInt8} {i : Nat} {o : Option (List S_api_Sym)} {env : Env} {H : Heap}
theorem sy_bnd {w : List UInt8} (hw : w = [98, 105, 110, 100, 32] ++ textF p.Bind) (v5 : env 5 = .pointer (some ⟨a, 0, none⟩)) (v6 : env 6 = strV w) (ha : H[a]? = some (sEn p)) :
    W T (.seq (.reg F_ref32_Symsr7) (.block 2 (.seq (.reg F_ref32_Symsr8) (.cond (.t 24) (.reg F_ref32_Symsr9) (.seq (.reg F_ref32_Symsr10) (.cond (.t 26) (.reg F_ref32_Symsr11) (.seq (.reg F_ref32_Symsr12) (.cond (.t 28) (.reg F_ref32_Symsr13) .skip)))))))) env H fun x e h => x = .normal ∧ h = H ∧ e 0 = env 0 ∧ e 3 = env 3 ∧ e 4 = env 4 ∧ e 5 = env 5 ∧ e 6 = strV (bindM p.Bind) := by
  have L1 : loadI H (.pointer (some ⟨a, 3, none⟩)) = some (.int .i64 p.Bind, H) := by
    rw [sEn, S_api_SymE_e] at ha
    simp only [loadI_ptr, lk, cellsAt, tagOf, ha]
    rfl
  unfold bindM
  by_cases q0 : p.Bind = 0
  · have d : decide (p.Bind = 0) = true := decide_eq_true q0
    rw [if_pos q0]
    simp only [fws, seval, cond_true, cond_false, if_true, if_false, unV, isNil, optI, iV, stepI, evalR, IntKind.bits, ini, faI_ptr, L1, N_ref32_Syms, v5, v6, d, Nat.zero_add]
    exact ⟨trivial, trivial, trivial, trivial, trivial, trivial, trivial⟩
  · have d : decide (p.Bind = 0) = false := decide_eq_false q0
    rw [if_neg q0]
    by_cases q1 : p.Bind = 1
    · have d1 : decide (p.Bind = 1) = true := decide_eq_true q1
      rw [if_pos q1]
      simp only [fws, seval, cond_true, cond_false, if_true, if_false, unV, isNil, optI, iV, stepI, evalR, IntKind.bits, ini, faI_ptr, L1, N_ref32_Syms, v5, v6, d, d1, Nat.zero_add]
      exact ⟨trivial, trivial, trivial, trivial, trivial, trivial, trivial⟩
    · have d1 : decide (p.Bind = 1) = false := decide_eq_false q1
      rw [if_neg q1]
      by_cases q2 : p.Bind = 2
      · have d2 : decide (p.Bind = 2) = true := decide_eq_true q2
        rw [if_pos q2]
        simp only [fws, seval, cond_true, cond_false, if_true, if_false, unV, isNil, optI, iV, stepI, evalR, IntKind.bits, ini, faI_ptr, L1, N_ref32_Syms, v5, v6, d, d1, d2, Nat.zero_add]
        exact ⟨trivial, trivial, trivial, trivial, trivial, trivial, trivial⟩
      · have d2 : decide (p.Bind = 2) = false := decide_eq_false q2
        rw [if_neg q2, ← hw]
        simp only [fws, seval, cond_true, cond_false, if_true, if_false, unV, isNil, optI, iV, stepI, evalR, IntKind.bits, ini, faI_ptr, L1, N_ref32_Syms, v5, v6, d, d1, d2, Nat.zero_add]
        exact ⟨trivial, trivial, trivial, trivial, trivial, trivial, trivial⟩
end
end Go.Proofs.YtdajdgjacajemaaGreat
/- The document's symbols: the loop. -/
namespace Go.Proofs.YtdajdgjacajemaaGreat
open Go Fw
set_option linter.unusedSimpArgs false
set_option linter.unusedVariables false
set_option linter.unusedSectionVars false

section
variable {T : Tab}
theorem pcs_len (i : Nat) (p : S_api_Sym) : (pcs i p).length ≤ 10 := by
  unfold pcs
  split <;> cases p.Hidden <;> simp
theorem pcs_ne (i : Nat) (p : S_api_Sym) : pcs i p ≠ [] := by
  unfold pcs
  split <;> cases p.Hidden <;> simp
set_option maxHeartbeats 1000000 in
theorem loop_rSyms (t : DuF T) {o : Option (List S_api_Sym)} (ho : ∀ p ∈ lst o, OkS p) (hn : (lst o).length ≤ 1000000) : ∀ (r : List S_api_Sym) (i : Nat) (l : List UInt8) (H : Heap) (env : Env), 1 ≤ i → (lst o).drop i = r → l.length + (symsF i r).length ≤ 140737488355328 →
    env 0 = slV S_api_SymE o → env 3 = strV l → env 4 = .int .i64 i →
    W T (.loop F_ref32_Symsl0) env H fun x e h' => x = .exit 0 ∧ e 3 = strV (l ++ symsF i r) := by
  intro r
  induction r with
  | nil =>
    intro i l H env h1 hr hl v0 v3 v4
    have hi := drop_end hr
    have q : ¬ ((i : Int) < (lst o).length) := by omega
    rw [w_loop]
    simp only [fws, seval, cond_true, cond_false, if_true, if_false, unV, isNil, optI, iV, stepI, evalR, IntKind.bits, ini, lenI_sl, N_ref32_Syms, v0, v4, q]
    exact ⟨trivial, by rw [symsF, List.append_nil]; exact v3⟩
  | cons p ps ih =>
    intro i l H env h1 hr hl v0 v3 v4
    obtain ⟨hi, hp, hr2⟩ := drop_at hr
    have hok : OkS p := ho p (hp ▸ List.getElem_mem hi)
    have q : ((i : Int) < (lst o).length) := by omega
    have hxx := fun H => ix_sl (E := S_api_SymE) (o := o) (n := 7) rfl hi .i64 H
    have hld := fun H => loadNI_at (E := S_api_SymE) (n := 7) (H := H) rfl hi
    have w2 : IntKind.i64.wrap ((i : Int) + 1) = ((i + 1 : Nat) : Int) := by rw [wrapI64 (by omega) (by omega)]; rfl
    rw [hp] at hld
    rw [symsF, if_neg (by omega), List.length_append] at hl
    have hpl := pcs_line i p (by omega) hok.b
    have hpn := pcs_len i p
    have x1 := f_rtext t.rt p.Bind hok.b
    have x2 := f_rtext t.rt (i : Int) (by omega)
    have x3 := f_rhex t hok.z.1 hok.z.2
    have hb := textF_len p.Bind
    have sp : (⟨#[98, 105, 110, 100, 32]⟩ : ByteArray) ++ ⟨(textF p.Bind).toArray⟩ = ⟨([98, 105, 110, 100, 32] ++ textF p.Bind).toArray⟩ := append_str (l := [98, 105, 110, 100, 32])
    have sz : (⟨#[98, 105, 110, 100, 32]⟩ : ByteArray).size = 5 := rfl
    have z5 : 5 + (textF p.Bind).length ≤ 9223372036854775807 := by omega
    generalize hw : [98, 105, 110, 100, 32] ++ textF p.Bind = w at sp
    have xl := f_rline t.toLnF (P := pcs i p) (by omega) (by rw [hpl]; omega)
    rw [hpl] at xl
    have z : l.length + (symM i p).length ≤ 9223372036854775807 := by omega
    obtain ⟨H1, hH1⟩ : ∃ H1, H1 = H ++ [sEn p] := ⟨_, rfl⟩
    have hlen1 : H1.length = H.length + 1 := by rw [hH1]; simp
    have ha : H1[H.length]? = some (sEn p) := by rw [hH1]; simp
    have L3 : loadI H1 (.pointer (some ⟨H.length, 3, none⟩)) = some (.int .i64 p.Bind, H1) := by
      have ha := ha
      rw [sEn, S_api_SymE_e] at ha
      simp only [loadI_ptr, lk, cellsAt, tagOf, ha]
      rfl
    have L6 : loadI H1 (.pointer (some ⟨H.length, 6, none⟩)) = some (.int .u64 p.Size, H1) := by
      have ha := ha
      rw [sEn, S_api_SymE_e] at ha
      simp only [loadI_ptr, lk, cellsAt, tagOf, ha]
      rfl
    have hH1' := hH1
    rw [sEn, S_api_SymE_e] at hH1'
    simp only [S_api_SymE_e] at hld
    rw [w_loop]
    simp only [fws, seval, cond_true, cond_false, if_true, if_false, unV, isNil, optI, iV, stepI, evalR, IntKind.bits, ini, fwh, lk, cellsAt, tagOf, spotOf, rdN, spl, fillL, zr, lenI_sl, F_ref32_Symsr0b, F_ref32_Symsr0_W, F_ref32_Symsr1b, F_ref32_Symsr1_W, F_ref32_Symsr2b, F_ref32_Symsr2_W, F_ref32_Symsr3b, F_ref32_Symsr3_W, F_ref32_Symsr5b, F_ref32_Symsr5_W, F_ref32_Symsr6b, F_ref32_Symsr7b, F_ref32_Symsr8b, F_ref32_Symsr8_W, F_ref32_Symsr9b, F_ref32_Symsr9_W, F_ref32_Symsr10b, F_ref32_Symsr10_W, F_ref32_Symsr11b, F_ref32_Symsr11_W, F_ref32_Symsr12b, F_ref32_Symsr12_W, F_ref32_Symsr13b, F_ref32_Symsr13_W, F_ref32_Symsr14b, F_ref32_Symsr14_W, F_ref32_Symsr15b, F_ref32_Symsr15_W, F_ref32_Symsr16b, F_ref32_Symsr16_W, F_ref32_Symsr17b, F_ref32_Symsr17_W, F_ref32_Symsr18b, F_ref32_Symsr18_W, F_ref32_Symsr19b, F_ref32_Symsr19_W, F_ref32_Symsr20b, F_ref32_Symsr20_W, F_ref32_Symsr21b, F_ref32_Symsr21_W, F_ref32_Symsr22b, F_ref32_Symsr22_W, F_ref32_Symsr4b, F_ref32_Symsr4_W, F_ref32_Symsl0b, F_ref32_Symsl0_W, F_ref32_Symsr23b, F_ref32_Symsr23_W, F_ref32_Symscb, F_ref32_Symsc_W, v0, v3, v4, q, hxx, hld]
    rw [← hH1']
    simp only [fws, seval, cond_true, cond_false, if_true, if_false, unV, isNil, optI, iV, stepI, evalR, IntKind.bits, ini, faI_ptr, L3, size_str, sz, sp, z5, CC_of x1, F_ref32_Symsr0b, F_ref32_Symsr0_W, F_ref32_Symsr1b, F_ref32_Symsr1_W, F_ref32_Symsr2b, F_ref32_Symsr2_W, F_ref32_Symsr3b, F_ref32_Symsr3_W, F_ref32_Symsr5b, F_ref32_Symsr5_W, F_ref32_Symsr6b, F_ref32_Symsr6_W, F_ref32_Symsr7b, F_ref32_Symsr8b, F_ref32_Symsr8_W, F_ref32_Symsr9b, F_ref32_Symsr9_W, F_ref32_Symsr10b, F_ref32_Symsr10_W, F_ref32_Symsr11b, F_ref32_Symsr11_W, F_ref32_Symsr12b, F_ref32_Symsr12_W, F_ref32_Symsr13b, F_ref32_Symsr13_W, F_ref32_Symsr14b, F_ref32_Symsr14_W, F_ref32_Symsr15b, F_ref32_Symsr15_W, F_ref32_Symsr16b, F_ref32_Symsr16_W, F_ref32_Symsr17b, F_ref32_Symsr17_W, F_ref32_Symsr18b, F_ref32_Symsr18_W, F_ref32_Symsr19b, F_ref32_Symsr19_W, F_ref32_Symsr20b, F_ref32_Symsr20_W, F_ref32_Symsr21b, F_ref32_Symsr21_W, F_ref32_Symsr22b, F_ref32_Symsr22_W, F_ref32_Symsr4b, F_ref32_Symsr4_W, F_ref32_Symsl0b, F_ref32_Symsl0_W, F_ref32_Symsr23b, F_ref32_Symsr23_W, F_ref32_Symscb, F_ref32_Symsc_W, Nat.zero_add]
    rw [← w_seq]
    refine W.mono (sy_bnd (a := H.length) (p := p) hw.symm ?_ ?_ ha) fun x e h ⟨hx, hh, u0, u3, u4, u5, u6⟩ => ?_
    · (first | assumption | rfl)
    · (first | assumption | rfl)
    subst hx hh
    rw [seqQ_normal]
    have u0 : e 0 = slV S_api_SymE o := u0.trans (by (first | assumption | rfl))
    have u3 : e 3 = strV l := u3.trans (by (first | assumption | rfl))
    have u4 : e 4 = .int .i64 i := u4.trans (by (first | assumption | rfl))
    have u5 : e 5 = .pointer (some ⟨H.length, 0, none⟩) := u5.trans (by (first | assumption | rfl))
    simp only [fws, seval, cond_true, cond_false, if_true, if_false, unV, isNil, optI, iV, stepI, evalR, IntKind.bits, ini, fillL, zr, spl, fwh, faI_ptr, L6, CC_of x2, CC_of x3, F_ref32_Symsr0b, F_ref32_Symsr0_W, F_ref32_Symsr1b, F_ref32_Symsr1_W, F_ref32_Symsr2b, F_ref32_Symsr2_W, F_ref32_Symsr3b, F_ref32_Symsr3_W, F_ref32_Symsr5b, F_ref32_Symsr5_W, F_ref32_Symsr6b, F_ref32_Symsr6_W, F_ref32_Symsr7b, F_ref32_Symsr7_W, F_ref32_Symsr8b, F_ref32_Symsr8_W, F_ref32_Symsr9b, F_ref32_Symsr9_W, F_ref32_Symsr10b, F_ref32_Symsr10_W, F_ref32_Symsr11b, F_ref32_Symsr11_W, F_ref32_Symsr12b, F_ref32_Symsr12_W, F_ref32_Symsr13b, F_ref32_Symsr13_W, F_ref32_Symsr14b, F_ref32_Symsr14_W, F_ref32_Symsr15b, F_ref32_Symsr16b, F_ref32_Symsr16_W, F_ref32_Symsr17b, F_ref32_Symsr17_W, F_ref32_Symsr18b, F_ref32_Symsr18_W, F_ref32_Symsr19b, F_ref32_Symsr19_W, F_ref32_Symsr20b, F_ref32_Symsr20_W, F_ref32_Symsr21b, F_ref32_Symsr21_W, F_ref32_Symsr22b, F_ref32_Symsr22_W, F_ref32_Symsr4b, F_ref32_Symsr4_W, F_ref32_Symsl0b, F_ref32_Symsl0_W, F_ref32_Symsr23b, F_ref32_Symsr23_W, F_ref32_Symscb, F_ref32_Symsc_W, u0, u3, u4, u5, u6, Nat.zero_add]
    rw [← w_seq]
    have s0 : SS H.length p l i o [wSym, textF i, bindM p.Bind, wUndef, hexI p.Size] (upd (upd (upd (upd (upd (upd (upd (upd e 30 (.int .i64 i)) 31 (strV (textF i))) 32 (strV (bindM p.Bind))) 33 (.pointer (some ⟨H.length, 6, none⟩))) 34 (.int .u64 p.Size)) 35 (strV (hexI p.Size))) 36 (.slice (some ⟨h.length, 0, none⟩) 5 5)) 7 (.slice (some ⟨h.length, 0, none⟩) 5 5)) (h ++ [oe strE 0 [wSym, textF i, bindM p.Bind, wUndef, hexI p.Size]]) := by
      refine ⟨u0, u3, u4, u5, by rw [List.getElem?_append_left (by omega)]; exact ha, .inr ⟨h.length, 0, rfl, by simp⟩, ?_⟩
      show blkV (.slice (some ⟨h.length, 0, none⟩) 5 5) ≠ some H.length
      intro e'; have e2 : h.length = H.length := Option.some.inj e'; omega
    refine W.mono (sy_def t s0 rfl hok) fun x e h ⟨hx, s1⟩ => ?_
    subst hx
    rw [seqQ_normal]
    rw [w_seq]
    refine W.mono (sy_hid s1 (by cases p.Defined <;> simp)) fun x e h ⟨hx, s2⟩ => ?_
    subst hx
    rw [seqQ_normal, w_seq]
    refine W.mono (sy_nam s2 (by cases p.Defined <;> cases p.Hidden <;> simp)) fun x e h ⟨hx, s3⟩ => ?_
    subst hx
    rw [seqQ_normal, w_seq]
    refine W.mono (sy_ver s3 (by cases p.Defined <;> cases p.Hidden <;> simp)) fun x e h ⟨hx, s4⟩ => ?_
    subst hx
    rw [seqQ_normal]
    have s4 : SS H.length p l i o (pcs i p) e h := by
      have hd : (bif p.Defined then [wSym, textF i, bindM p.Bind, wUndef, hexI p.Size].set 3 (hexI p.Value) else [wSym, textF i, bindM p.Bind, wUndef, hexI p.Size]) = [wSym, textF i, bindM p.Bind, (bif p.Defined then hexI p.Value else wUndef), hexI p.Size] := by cases p.Defined <;> rfl
      rw [hd] at s4
      exact s4
    obtain ⟨y0, y3, y4, y5, y6, y7, y8⟩ := s4
    have hfz : List.mapM (Fw.frz 8 h) [e 7] = some [imm strE (pcs i p)] := by
      simp [Own.frz y7 (pcs_ne i p) (k := 7) (by decide)]
    simp only [fws, seval, cond_true, cond_false, if_true, if_false, unV, isNil, optI, iV, stepI, evalR, IntKind.bits, ini, size_str, append_str, F_ref32_Symsr0b, F_ref32_Symsr0_W, F_ref32_Symsr1b, F_ref32_Symsr1_W, F_ref32_Symsr2b, F_ref32_Symsr2_W, F_ref32_Symsr3b, F_ref32_Symsr3_W, F_ref32_Symsr5b, F_ref32_Symsr5_W, F_ref32_Symsr6b, F_ref32_Symsr6_W, F_ref32_Symsr7b, F_ref32_Symsr7_W, F_ref32_Symsr8b, F_ref32_Symsr8_W, F_ref32_Symsr9b, F_ref32_Symsr9_W, F_ref32_Symsr10b, F_ref32_Symsr10_W, F_ref32_Symsr11b, F_ref32_Symsr11_W, F_ref32_Symsr12b, F_ref32_Symsr12_W, F_ref32_Symsr13b, F_ref32_Symsr13_W, F_ref32_Symsr14b, F_ref32_Symsr14_W, F_ref32_Symsr15b, F_ref32_Symsr15_W, F_ref32_Symsr16b, F_ref32_Symsr16_W, F_ref32_Symsr17b, F_ref32_Symsr17_W, F_ref32_Symsr18b, F_ref32_Symsr18_W, F_ref32_Symsr19b, F_ref32_Symsr19_W, F_ref32_Symsr20b, F_ref32_Symsr20_W, F_ref32_Symsr21b, F_ref32_Symsr21_W, F_ref32_Symsr22b, F_ref32_Symsr22_W, F_ref32_Symsr4b, F_ref32_Symsr4_W, F_ref32_Symsl0b, F_ref32_Symsr23b, F_ref32_Symsr23_W, F_ref32_Symscb, F_ref32_Symsc_W, y0, y3, y4, hfz, CL_of xl rfl, z, w2]
    refine W.mono (ih (i + 1) (l ++ symM i p) _ _ (by omega) hr2 (by rw [List.length_append]; omega) ?_ ?_ ?_) fun x e h' ⟨u1, u2⟩ => ⟨u1, by rw [symsF, if_neg (by omega), ← List.append_assoc]; exact u2⟩
    all_goals (first | assumption | rfl)
theorem symsF_1 : ∀ l : List S_api_Sym, symsF 0 l = symsF 1 (l.drop 1)
  | [] => rfl
  | s :: r => by rw [symsF, if_pos rfl]; rfl
theorem f_rSyms (t : DuF T) {o : Option (List S_api_Sym)} (ho : ∀ p ∈ lst o, OkS p) (hn : (lst o).length ≤ 1000000) (hl : (symsM (lst o)).length ≤ 140737488355328) : FnV T 20 [slV S_api_SymE o] (strV (symsM (lst o))) := by
  have e : symsM (lst o) = symsF 1 ((lst o).drop 1) := symsF_1 _
  rw [e] at hl ⊢
  refine FnV_of (by simp [pure_sl (E := S_api_SymE) (k := 6) (by rfl)]) ?_
  rw [Ev_fn t.ry rfl]
  simp only [F_ref32_Syms, fws, seval, cond_true, cond_false, if_true, if_false, unV, isNil, optI, iV, stepI, evalR, IntKind.bits, ini, F_ref32_Symsr0b, F_ref32_Symsr0_W, F_ref32_Symsr1b, F_ref32_Symsr1_W, F_ref32_Symsr2b, F_ref32_Symsr2_W, F_ref32_Symsr3b, F_ref32_Symsr3_W, F_ref32_Symsr5b, F_ref32_Symsr5_W, F_ref32_Symsr6b, F_ref32_Symsr6_W, F_ref32_Symsr7b, F_ref32_Symsr7_W, F_ref32_Symsr8b, F_ref32_Symsr8_W, F_ref32_Symsr9b, F_ref32_Symsr9_W, F_ref32_Symsr10b, F_ref32_Symsr10_W, F_ref32_Symsr11b, F_ref32_Symsr11_W, F_ref32_Symsr12b, F_ref32_Symsr12_W, F_ref32_Symsr13b, F_ref32_Symsr13_W, F_ref32_Symsr14b, F_ref32_Symsr14_W, F_ref32_Symsr15b, F_ref32_Symsr15_W, F_ref32_Symsr16b, F_ref32_Symsr16_W, F_ref32_Symsr17b, F_ref32_Symsr17_W, F_ref32_Symsr18b, F_ref32_Symsr18_W, F_ref32_Symsr19b, F_ref32_Symsr19_W, F_ref32_Symsr20b, F_ref32_Symsr20_W, F_ref32_Symsr21b, F_ref32_Symsr21_W, F_ref32_Symsr22b, F_ref32_Symsr22_W, F_ref32_Symsr4b, F_ref32_Symsr4_W, F_ref32_Symsl0b, F_ref32_Symsr23b, F_ref32_Symsr23_W, F_ref32_Symscb, F_ref32_Symsc_W]
  refine W.mono (loop_rSyms t ho hn ((lst o).drop 1) 1 [] _ _ (by decide) rfl (by simpa using hl) ?_ ?_ ?_) fun x e H2 ⟨u1, u2⟩ => ?_
  · (first | assumption | rfl)
  · (first | assumption | rfl)
  · (first | assumption | rfl)
  subst u1
  simp only [fws, seval, cond_true, cond_false, if_true, if_false, unV, isNil, optI, iV, stepI, evalR, IntKind.bits, ini, N_ref32_Syms, u2]
  rfl
end
end Go.Proofs.YtdajdgjacajemaaGreat
/- The document's dynamic section. -/
namespace Go.Proofs.YtdajdgjacajemaaGreat
open Go Fw
set_option linter.unusedSimpArgs false
set_option linter.unusedVariables false
set_option linter.unusedSectionVars false

def fl1 (d : S_api_Dyn) : List UInt8 := if d.Symbolic = true then 32 :: wSymbolic else []
def fl2 (d : S_api_Dyn) : List UInt8 := if d.Global = true then 32 :: wGlobal else []
def fl3 (d : S_api_Dyn) : List UInt8 := if d.Nodelete = true then 32 :: wNodelete else []
theorem flag_eq (d : S_api_Dyn) : flagM d = if fl1 d ++ fl2 d ++ fl3 d = [] then [] else wFlags ++ (fl1 d ++ fl2 d ++ fl3 d) ++ [10] := by
  unfold flagM fl1 fl2 fl3
  cases d.Symbolic <;> cases d.Global <;> cases d.Nodelete <;> rfl
/-- What is known while the document's section is told. -/
def DR (d : S_api_Dyn) (l : List UInt8) (e : Env) (h : Heap) : Prop := h = [dEn d] ∧ e 1 = p0 ∧ e 3 = strV l
section
variable {T : Tab} {d : S_api_Dyn} {l x : List UInt8} {env : Env} {H : Heap}
theorem rd_A (hs : DR d l env H) (hl : l.length + (sonM d).length ≤ 140737488355328) :
    W T (.seq (.reg F_ref32_Dynr2) (.cond (.t 11) (.reg F_ref32_Dynr3) .skip)) env H fun x e h => x = .normal ∧ DR d (l ++ sonM d) e h := by
  obtain ⟨rfl, v1, v3⟩ := hs
  have L0 : loadI [dEn d] (.pointer (some ⟨0, 0, none⟩)) = some (strV d.Soname, [dEn d]) := rfl
  unfold sonM at hl ⊢
  by_cases hz : d.Soname = []
  · have b0 : strEq ⟨d.Soname.toArray⟩ ⟨#[]⟩ = true := by rw [hz]; rfl
    rw [if_pos hz, List.append_nil]
    simp only [fws, seval, cond_true, cond_false, if_true, if_false, unV, isNil, optI, iV, stepI, evalR, IntKind.bits, ini, faI_ptr, L0, N_ref32_Dyn, v1, b0, Bool.not_true]
    exact ⟨trivial, rfl, v1, v3⟩
  · have b0 := ne_str hz
    rw [if_neg hz, lineM_two (by decide) hz] at hl ⊢
    simp only [List.length_append, List.length_cons, List.length_nil] at hl
    have e1 : wSoname ++ 32 :: d.Soname ++ [10] = ([115, 111, 110, 97, 109, 101, 32] ++ d.Soname) ++ [10] := by simp
    rw [e1]
    have z0 : (⟨#[115, 111, 110, 97, 109, 101, 32]⟩ : ByteArray).size = 7 := rfl
    have z1 : 7 + d.Soname.length ≤ 9223372036854775807 := by omega
    have z2 : (⟨#[10]⟩ : ByteArray).size = 1 := rfl
    have s1 : (⟨#[115, 111, 110, 97, 109, 101, 32]⟩ : ByteArray) ++ ⟨d.Soname.toArray⟩ = ⟨([115, 111, 110, 97, 109, 101, 32] ++ d.Soname).toArray⟩ := append_str (l := [115, 111, 110, 97, 109, 101, 32])
    generalize hA : [115, 111, 110, 97, 109, 101, 32] ++ d.Soname = A at s1 ⊢
    have hAl : A.length = 7 + d.Soname.length := by rw [← hA]; simp; omega
    have z3 : A.length + 1 ≤ 9223372036854775807 := by omega
    have s2 : (⟨A.toArray⟩ : ByteArray) ++ ⟨#[10]⟩ = ⟨(A ++ [10]).toArray⟩ := append_str (m := [10])
    generalize hB : A ++ [10] = B at s2 ⊢
    have hBl : B.length = A.length + 1 := by rw [← hB]; simp
    have z4 : l.length + B.length ≤ 9223372036854775807 := by omega
    simp only [fws, seval, cond_true, cond_false, if_true, if_false, unV, isNil, optI, iV, stepI, evalR, IntKind.bits, ini, faI_ptr, L0, N_ref32_Dyn, v1, v3, b0, Bool.not_false, size_str, z0, z1, z2, z3, z4, s1, s2, append_str]
    exact ⟨trivial, rfl, v1, rfl⟩
theorem rd_B (hs : DR d l env H) (hl : l.length + (runM d).length ≤ 140737488355328) :
    W T (.seq (.reg F_ref32_Dynr4) (.cond (.t 20) (.reg F_ref32_Dynr5) .skip)) env H fun x e h => x = .normal ∧ DR d (l ++ runM d) e h := by
  obtain ⟨rfl, v1, v3⟩ := hs
  have L0 : loadI [dEn d] (.pointer (some ⟨0, 1, none⟩)) = some (strV d.Runpath, [dEn d]) := rfl
  unfold runM at hl ⊢
  by_cases hz : d.Runpath = []
  · have b0 : strEq ⟨d.Runpath.toArray⟩ ⟨#[]⟩ = true := by rw [hz]; rfl
    rw [if_pos hz, List.append_nil]
    simp only [fws, seval, cond_true, cond_false, if_true, if_false, unV, isNil, optI, iV, stepI, evalR, IntKind.bits, ini, faI_ptr, L0, N_ref32_Dyn, v1, b0, Bool.not_true, Nat.zero_add]
    exact ⟨trivial, rfl, v1, v3⟩
  · have b0 := ne_str hz
    rw [if_neg hz, lineM_two (by decide) hz] at hl ⊢
    simp only [List.length_append, List.length_cons, List.length_nil] at hl
    have e1 : wRunpath ++ 32 :: d.Runpath ++ [10] = ([114, 117, 110, 112, 97, 116, 104, 32] ++ d.Runpath) ++ [10] := by simp
    rw [e1]
    have z0 : (⟨#[114, 117, 110, 112, 97, 116, 104, 32]⟩ : ByteArray).size = 8 := rfl
    have z1 : 8 + d.Runpath.length ≤ 9223372036854775807 := by omega
    have z2 : (⟨#[10]⟩ : ByteArray).size = 1 := rfl
    have s1 : (⟨#[114, 117, 110, 112, 97, 116, 104, 32]⟩ : ByteArray) ++ ⟨d.Runpath.toArray⟩ = ⟨([114, 117, 110, 112, 97, 116, 104, 32] ++ d.Runpath).toArray⟩ := append_str (l := [114, 117, 110, 112, 97, 116, 104, 32])
    generalize hA : [114, 117, 110, 112, 97, 116, 104, 32] ++ d.Runpath = A at s1 ⊢
    have hAl : A.length = 8 + d.Runpath.length := by rw [← hA]; simp; omega
    have z3 : A.length + 1 ≤ 9223372036854775807 := by omega
    have s2 : (⟨A.toArray⟩ : ByteArray) ++ ⟨#[10]⟩ = ⟨(A ++ [10]).toArray⟩ := append_str (m := [10])
    generalize hB : A ++ [10] = B at s2 ⊢
    have hBl : B.length = A.length + 1 := by rw [← hB]; simp
    have z4 : l.length + B.length ≤ 9223372036854775807 := by omega
    simp only [fws, seval, cond_true, cond_false, if_true, if_false, unV, isNil, optI, iV, stepI, evalR, IntKind.bits, ini, faI_ptr, L0, N_ref32_Dyn, v1, v3, b0, Bool.not_false, size_str, z0, z1, z2, z3, z4, s1, s2, append_str, Nat.zero_add]
    exact ⟨trivial, rfl, v1, rfl⟩
theorem loop_rneed (t : DuF T) (hn : (lst d.Needed).length ≤ 1000000) : ∀ (r : List (List UInt8)) (i : Nat) (l : List UInt8) (env : Env), (lst d.Needed).drop i = r → l.length + (r.flatMap fun n => lineM [wNeeded, n]).length ≤ 140737488355328 →
    env 1 = p0 → env 3 = strV l → env 4 = .int .i64 i →
    W T (.loop F_ref32_Dynl0) env [dEn d] fun x e h => x = .exit 0 ∧ DR d (l ++ r.flatMap fun n => lineM [wNeeded, n]) e h := by
  have L2 : loadI [dEn d] (.pointer (some ⟨0, 2, none⟩)) = some (slV strE d.Needed, [dEn d]) := rfl
  intro r
  induction r with
  | nil =>
    intro i l env hr hl v1 v3 v4
    have hi := drop_end hr
    have q : ¬ ((i : Int) < (lst d.Needed).length) := by omega
    rw [w_loop, List.flatMap_nil, List.append_nil]
    simp only [fws, seval, cond_true, cond_false, if_true, if_false, unV, isNil, optI, iV, stepI, evalR, IntKind.bits, ini, faI_ptr, L2, lenI_sl, N_ref32_Dyn, v1, v4, q, Nat.zero_add]
    exact ⟨trivial, rfl, v1, v3⟩
  | cons p ps ih =>
    intro i l env hr hl v1 v3 v4
    obtain ⟨hi, hp, hr2⟩ := drop_at hr
    have q : ((i : Int) < (lst d.Needed).length) := by omega
    have hxx := fun H => ix_sl (E := strE) (o := d.Needed) (n := 1) rfl hi .i64 H
    have hld := fun H => ld_str hi H
    rw [hp] at hld
    have w2 : IntKind.i64.wrap ((i : Int) + 1) = ((i + 1 : Nat) : Int) := by rw [wrapI64 (by omega) (by omega)]; rfl
    rw [List.flatMap_cons, List.length_append] at hl
    have xl : FnV T 47 [immV 2 [.string ⟨#[110, 101, 101, 100, 101, 100]⟩, strV p]] (strV (lineM [wNeeded, p])) := f_rline t.toLnF (P := [wNeeded, p]) (by simp) (by omega)
    have z : l.length + (lineM [wNeeded, p]).length ≤ 9223372036854775807 := by omega
    rw [w_loop, List.flatMap_cons]
    simp only [fws, seval, cond_true, cond_false, if_true, if_false, unV, isNil, optI, iV, stepI, evalR, IntKind.bits, ini, fillL, zr, spl, fwh, faI_ptr, L2, lenI_sl, N_ref32_Dyn, v1, v3, v4, q, hxx, hld, Nat.zero_add]
    refine (CC_of xl).2 ?_
    simp only [fws, seval, cond_true, cond_false, if_true, if_false, unV, isNil, optI, iV, stepI, evalR, IntKind.bits, ini, callC, size_str, append_str, N_ref32_Dyn, v1, v3, v4, z, w2]
    refine W.mono (ih (i + 1) (l ++ lineM [wNeeded, p]) _ hr2 (by rw [List.length_append]; omega) ?_ ?_ ?_) fun x e h' ⟨u1, u2⟩ => ⟨u1, by rw [← List.append_assoc]; exact u2⟩
    all_goals (first | assumption | rfl)
theorem rd_1 (hs : DR d l env H) (v5 : env 5 = strV x) (hx : x.length ≤ 1000) :
    W T (.seq (.reg F_ref32_Dynr11) (.cond (.t 44) (.reg F_ref32_Dynr12) .skip)) env H fun y e h => y = .normal ∧ DR d l e h ∧ e 5 = strV (x ++ fl1 d) := by
  obtain ⟨rfl, v1, v3⟩ := hs
  have L3 : loadI [dEn d] (.pointer (some ⟨0, 3, none⟩)) = some (.bool d.Symbolic, [dEn d]) := rfl
  unfold fl1
  have z0 : (⟨#[32, 115, 121, 109, 98, 111, 108, 105, 99]⟩ : ByteArray).size = 9 := rfl
  have z1 : x.length + 9 ≤ 9223372036854775807 := by omega
  have s1 : (⟨x.toArray⟩ : ByteArray) ++ ⟨#[32, 115, 121, 109, 98, 111, 108, 105, 99]⟩ = ⟨(x ++ 32 :: wSymbolic).toArray⟩ := append_str (m := 32 :: wSymbolic)
  cases hd : d.Symbolic with
  | true =>
    rw [hd] at L3
    rw [if_pos rfl]
    simp only [fws, seval, cond_true, cond_false, if_true, if_false, unV, isNil, optI, iV, stepI, evalR, IntKind.bits, ini, faI_ptr, L3, N_ref32_Dyn, v1, v3, v5, size_str, z0, z1, s1, Nat.zero_add]
    exact ⟨trivial, ⟨rfl, v1, v3⟩, trivial⟩
  | false =>
    rw [hd] at L3
    rw [if_neg (by simp), List.append_nil]
    simp only [fws, seval, cond_true, cond_false, if_true, if_false, unV, isNil, optI, iV, stepI, evalR, IntKind.bits, ini, faI_ptr, L3, N_ref32_Dyn, v1, v3, v5, Nat.zero_add]
    exact ⟨trivial, ⟨rfl, v1, v3⟩, trivial⟩
theorem rd_2 (hs : DR d l env H) (v5 : env 5 = strV x) (hx : x.length ≤ 1000) :
    W T (.seq (.reg F_ref32_Dynr13) (.cond (.t 48) (.reg F_ref32_Dynr14) .skip)) env H fun y e h => y = .normal ∧ DR d l e h ∧ e 5 = strV (x ++ fl2 d) := by
  obtain ⟨rfl, v1, v3⟩ := hs
  have L3 : loadI [dEn d] (.pointer (some ⟨0, 4, none⟩)) = some (.bool d.Global, [dEn d]) := rfl
  unfold fl2
  have z0 : (⟨#[32, 103, 108, 111, 98, 97, 108]⟩ : ByteArray).size = 7 := rfl
  have z1 : x.length + 7 ≤ 9223372036854775807 := by omega
  have s1 : (⟨x.toArray⟩ : ByteArray) ++ ⟨#[32, 103, 108, 111, 98, 97, 108]⟩ = ⟨(x ++ 32 :: wGlobal).toArray⟩ := append_str (m := 32 :: wGlobal)
  cases hd : d.Global with
  | true =>
    rw [hd] at L3
    rw [if_pos rfl]
    simp only [fws, seval, cond_true, cond_false, if_true, if_false, unV, isNil, optI, iV, stepI, evalR, IntKind.bits, ini, faI_ptr, L3, N_ref32_Dyn, v1, v3, v5, size_str, z0, z1, s1, Nat.zero_add]
    exact ⟨trivial, ⟨rfl, v1, v3⟩, trivial⟩
  | false =>
    rw [hd] at L3
    rw [if_neg (by simp), List.append_nil]
    simp only [fws, seval, cond_true, cond_false, if_true, if_false, unV, isNil, optI, iV, stepI, evalR, IntKind.bits, ini, faI_ptr, L3, N_ref32_Dyn, v1, v3, v5, Nat.zero_add]
    exact ⟨trivial, ⟨rfl, v1, v3⟩, trivial⟩
theorem rd_3 (hs : DR d l env H) (v5 : env 5 = strV x) (hx : x.length ≤ 1000) :
    W T (.seq (.reg F_ref32_Dynr15) (.cond (.t 52) (.reg F_ref32_Dynr16) .skip)) env H fun y e h => y = .normal ∧ DR d l e h ∧ e 5 = strV (x ++ fl3 d) := by
  obtain ⟨rfl, v1, v3⟩ := hs
  have L3 : loadI [dEn d] (.pointer (some ⟨0, 5, none⟩)) = some (.bool d.Nodelete, [dEn d]) := rfl
  unfold fl3
  have z0 : (⟨#[32, 110, 111, 100, 101, 108, 101, 116, 101]⟩ : ByteArray).size = 9 := rfl
  have z1 : x.length + 9 ≤ 9223372036854775807 := by omega
  have s1 : (⟨x.toArray⟩ : ByteArray) ++ ⟨#[32, 110, 111, 100, 101, 108, 101, 116, 101]⟩ = ⟨(x ++ 32 :: wNodelete).toArray⟩ := append_str (m := 32 :: wNodelete)
  cases hd : d.Nodelete with
  | true =>
    rw [hd] at L3
    rw [if_pos rfl]
    simp only [fws, seval, cond_true, cond_false, if_true, if_false, unV, isNil, optI, iV, stepI, evalR, IntKind.bits, ini, faI_ptr, L3, N_ref32_Dyn, v1, v3, v5, size_str, z0, z1, s1, Nat.zero_add]
    exact ⟨trivial, ⟨rfl, v1, v3⟩, trivial⟩
  | false =>
    rw [hd] at L3
    rw [if_neg (by simp), List.append_nil]
    simp only [fws, seval, cond_true, cond_false, if_true, if_false, unV, isNil, optI, iV, stepI, evalR, IntKind.bits, ini, faI_ptr, L3, N_ref32_Dyn, v1, v3, v5, Nat.zero_add]
    exact ⟨trivial, ⟨rfl, v1, v3⟩, trivial⟩
theorem rd_4 (hs : DR d l env H) (v5 : env 5 = strV x) (hx : x.length ≤ 1000) (hl : l.length ≤ 140737488355328) :
    W T (.seq (.reg F_ref32_Dynr17) (.cond (.t 56) (.reg F_ref32_Dynr18) .skip)) env H fun y e h => y = .normal ∧ DR d (l ++ if x = [] then [] else wFlags ++ x ++ [10]) e h := by
  obtain ⟨rfl, v1, v3⟩ := hs
  by_cases hz : x = []
  · have b0 : strEq ⟨x.toArray⟩ ⟨#[]⟩ = true := by rw [hz]; rfl
    rw [if_pos hz, List.append_nil]
    simp only [fws, seval, cond_true, cond_false, if_true, if_false, unV, isNil, optI, iV, stepI, evalR, IntKind.bits, ini, N_ref32_Dyn, v1, v3, v5, b0, Bool.not_true]
    exact ⟨trivial, rfl, v1, v3⟩
  · have b0 := ne_str hz
    rw [if_neg hz]
    have z0 : (⟨#[102, 108, 97, 103, 115]⟩ : ByteArray).size = 5 := rfl
    have z1 : 5 + x.length ≤ 9223372036854775807 := by omega
    have z2 : (⟨#[10]⟩ : ByteArray).size = 1 := rfl
    have s1 : (⟨#[102, 108, 97, 103, 115]⟩ : ByteArray) ++ ⟨x.toArray⟩ = ⟨(wFlags ++ x).toArray⟩ := append_str (l := wFlags)
    generalize hA : wFlags ++ x = A at s1 ⊢
    have hAl : A.length = 5 + x.length := by rw [← hA]; simp; omega
    have z3 : A.length + 1 ≤ 9223372036854775807 := by omega
    have s2 : (⟨A.toArray⟩ : ByteArray) ++ ⟨#[10]⟩ = ⟨(A ++ [10]).toArray⟩ := append_str (m := [10])
    generalize hB : A ++ [10] = B at s2 ⊢
    have hBl : B.length = A.length + 1 := by rw [← hB]; simp
    have z4 : l.length + B.length ≤ 9223372036854775807 := by omega
    simp only [fws, seval, cond_true, cond_false, if_true, if_false, unV, isNil, optI, iV, stepI, evalR, IntKind.bits, ini, N_ref32_Dyn, v1, v3, v5, b0, Bool.not_false, size_str, z0, z1, z2, z3, z4, s1, s2, append_str]
    exact ⟨trivial, rfl, v1, rfl⟩
end
end Go.Proofs.YtdajdgjacajemaaGreat
/- The document's dynamic section, whole. -/
namespace Go.Proofs.YtdajdgjacajemaaGreat
open Go Fw
set_option linter.unusedSimpArgs false
set_option linter.unusedVariables false
set_option linter.unusedSectionVars false

section
variable {T : Tab} {d : S_api_Dyn} {l x : List UInt8} {env : Env} {H : Heap}
theorem loop_rarea (t : DuF T) {R : List AR} (hR : ∀ q ∈ R, OkA q.2) (hn : R.length = 7) : ∀ (r : List AR) (i : Nat) (l : List UInt8) (env : Env), R.drop i = r → l.length + (r.flatMap areaM).length ≤ 140737488355328 →
    env 3 = strV l → env 6 = imm strE (R.map Prod.fst) → env 7 = imm S_api_AreaE (R.map Prod.snd) → env 8 = .int .i64 i →
    W T (.loop F_ref32_Dynl1) env H fun x e h => x = .exit 2 ∧ e 3 = strV (l ++ r.flatMap areaM) := by
  intro r
  induction r with
  | nil =>
    intro i l env hr hl v3 v6 v7 v8
    have hi := drop_end hr
    have q : ¬ ((i : Int) < 7) := by omega
    rw [w_loop, List.flatMap_nil, List.append_nil]
    simp only [fws, seval, cond_true, cond_false, if_true, if_false, unV, isNil, optI, iV, stepI, evalR, IntKind.bits, ini, N_ref32_Dyn, v8, q]
    exact ⟨trivial, v3⟩
  | cons p ps ih =>
    intro i l env hr hl v3 v6 v7 v8
    obtain ⟨hi, hp, hr2⟩ := drop_at hr
    have hok : OkA p.2 := hR p (hp ▸ List.getElem_mem hi)
    have q : ((i : Int) < 7) := by omega
    have hi1 : i < (R.map Prod.fst).length := by simpa using hi
    have hi2 : i < (R.map Prod.snd).length := by simpa using hi
    have hx1 := fun H => ix_at (E := strE) (l := R.map Prod.fst) (n := 1) rfl hi1 .i64 H
    have hx2 := fun H => ix_at (E := S_api_AreaE) (l := R.map Prod.snd) (n := 3) rfl hi2 .i64 H
    have hg1 : (R.map Prod.fst)[i] = p.1 := by rw [List.getElem_map, hp]
    have hg2 : (R.map Prod.snd)[i] = p.2 := by rw [List.getElem_map, hp]
    have hl1 : ∀ H, loadI H (atI strE (R.map Prod.fst) i) = some (strV p.1, H) := fun H => by rw [ld_str hi1 H, hg1]
    obtain ⟨rest, hat⟩ : ∃ rest, atI S_api_AreaE (R.map Prod.snd) i = iptrV (.bool p.2.Has :: .int .u64 p.2.At :: .int .u64 p.2.Size :: rest) := ⟨_, by rw [at_cons hi2, hg2]; rfl⟩
    rw [hat] at hx2
    have g0 : ∀ H, faI H 0 (iptrV (.bool p.2.Has :: .int .u64 p.2.At :: .int .u64 p.2.Size :: rest)) = some (iptrV (.bool p.2.Has :: .int .u64 p.2.At :: .int .u64 p.2.Size :: rest), H) := fun H => rfl
    have g1 : ∀ H, faI H 1 (iptrV (.bool p.2.Has :: .int .u64 p.2.At :: .int .u64 p.2.Size :: rest)) = some (iptrV (.int .u64 p.2.At :: .int .u64 p.2.Size :: rest), H) := fun H => rfl
    have g2 : ∀ H, faI H 2 (iptrV (.bool p.2.Has :: .int .u64 p.2.At :: .int .u64 p.2.Size :: rest)) = some (iptrV (.int .u64 p.2.Size :: rest), H) := fun H => rfl
    have m0 : ∀ H, loadI H (iptrV (.bool p.2.Has :: .int .u64 p.2.At :: .int .u64 p.2.Size :: rest)) = some (.bool p.2.Has, H) := fun H => rfl
    have m1 : ∀ H, loadI H (iptrV (.int .u64 p.2.At :: .int .u64 p.2.Size :: rest)) = some (.int .u64 p.2.At, H) := fun H => rfl
    have m2 : ∀ H, loadI H (iptrV (.int .u64 p.2.Size :: rest)) = some (.int .u64 p.2.Size, H) := fun H => rfl
    have w2 : IntKind.i64.wrap ((i : Int) + 1) = ((i + 1 : Nat) : Int) := by rw [wrapI64 (by omega) (by omega)]; rfl
    rw [List.flatMap_cons, List.length_append] at hl
    rw [w_loop, List.flatMap_cons]
    have x1 := f_rhex t hok.a.1 hok.a.2
    have x2 := f_rhex t hok.s.1 hok.s.2
    unfold areaM at hl ⊢
    cases hh : p.2.Has with
    | false =>
      rw [hh] at hl hx2 g0 g1 g2 m0
      simp only [fws, seval, cond_true, cond_false, if_true, if_false, unV, isNil, optI, iV, stepI, evalR, IntKind.bits, ini, N_ref32_Dyn, v3, v6, v7, v8, q, hx2, g0, m0, w2]
      refine W.mono (ih (i + 1) l _ hr2 (by unfold areaM; omega) ?_ ?_ ?_ ?_) fun x e h' ⟨u1, u2⟩ => ⟨u1, u2⟩
      all_goals (first | assumption | rfl)
    | true =>
      rw [hh] at hl hx2 g0 g1 g2 m0
      simp only [if_true] at hl
      have xl : FnV T 47 [immV 3 [strV p.1, strV (hexI p.2.At), strV (hexI p.2.Size)]] (strV (lineM [p.1, hexI p.2.At, hexI p.2.Size])) := f_rline t.toLnF (P := [p.1, hexI p.2.At, hexI p.2.Size]) (by simp) (by omega)
      have z : l.length + (lineM [p.1, hexI p.2.At, hexI p.2.Size]).length ≤ 9223372036854775807 := by omega
      simp only [fws, seval, cond_true, cond_false, if_true, if_false, unV, isNil, optI, iV, stepI, evalR, IntKind.bits, ini, fillL, zr, spl, fwh, N_ref32_Dyn, v3, v6, v7, v8, q, hx1, hl1, hx2, g0, g1, g2, m0, m1, m2, CC_of x1, CC_of x2]
      refine (CC_of xl).2 ?_
      simp only [fws, seval, cond_true, cond_false, if_true, if_false, unV, isNil, optI, iV, stepI, evalR, IntKind.bits, ini, callC, size_str, append_str, N_ref32_Dyn, v3, v6, v7, v8, z, w2]
      refine W.mono (ih (i + 1) (l ++ lineM [p.1, hexI p.2.At, hexI p.2.Size]) _ hr2 (by unfold areaM; rw [List.length_append]; omega) ?_ ?_ ?_ ?_) fun x e h' ⟨u1, u2⟩ => ⟨u1, by rw [← List.append_assoc]; exact u2⟩
      all_goals (first | assumption | rfl)
theorem fl_len (d : S_api_Dyn) : (fl1 d).length ≤ 20 ∧ (fl2 d).length ≤ 20 ∧ (fl3 d).length ≤ 20 := by
  unfold fl1 fl2 fl3
  refine ⟨?_, ?_, ?_⟩ <;> split <;> simp
theorem f_rDyn (t : DuF T) {d : S_api_Dyn} (hk : OkD d) (hl : (dynM d).length ≤ 140737488355328) : FnV T 18 [.agg (S_api_DynE.e d).toArray] (strV (dynM d)) := by
  refine FnV_of (by simp [pure_aggE (E := S_api_DynE) (by decide)]) ?_
  have hl' := hl
  unfold dynM at hl' ⊢
  rw [List.length_append, List.length_append, List.length_append, List.length_append] at hl'
  have B1 : stepI (ini [.agg (S_api_DynE.e d).toArray]) [] (.box 40 (.t 0)) = some (p0, [dEn d]) := boxE (E := S_api_DynE) (H := []) rfl
  obtain ⟨fa, fb, fc⟩ := fl_len d
  rw [Ev_fn t.rd rfl]
  simp only [F_ref32_Dyn, fws, B1, F_ref32_Dynr0b, F_ref32_Dynr0_W, F_ref32_Dynr1b, F_ref32_Dynr1_W, F_ref32_Dynr2b, F_ref32_Dynr3b, F_ref32_Dynr3_W, F_ref32_Dynr4b, F_ref32_Dynr4_W, F_ref32_Dynr5b, F_ref32_Dynr5_W, F_ref32_Dynr6b, F_ref32_Dynr6_W, F_ref32_Dynr7b, F_ref32_Dynr7_W, F_ref32_Dynr9b, F_ref32_Dynr9_W, F_ref32_Dynr8b, F_ref32_Dynr8_W, F_ref32_Dynl0b, F_ref32_Dynr10b, F_ref32_Dynr10_W, F_ref32_Dynr11b, F_ref32_Dynr11_W, F_ref32_Dynr12b, F_ref32_Dynr12_W, F_ref32_Dynr13b, F_ref32_Dynr13_W, F_ref32_Dynr14b, F_ref32_Dynr14_W, F_ref32_Dynr15b, F_ref32_Dynr15_W, F_ref32_Dynr16b, F_ref32_Dynr16_W, F_ref32_Dynr17b, F_ref32_Dynr17_W, F_ref32_Dynr18b, F_ref32_Dynr18_W, F_ref32_Dynr19b, F_ref32_Dynr19_W, F_ref32_Dynr20b, F_ref32_Dynr20_W, F_ref32_Dynr21b, F_ref32_Dynr21_W, F_ref32_Dynr22b, F_ref32_Dynr22_W, F_ref32_Dynr24b, F_ref32_Dynr24_W, F_ref32_Dynr25b, F_ref32_Dynr25_W, F_ref32_Dynr23b, F_ref32_Dynr23_W, F_ref32_Dynl1b, F_ref32_Dynl1_W, F_ref32_Dynr26b, F_ref32_Dynr26_W, F_ref32_Dyncb, F_ref32_Dync_W]
  simp only [fws, seval, cond_true, cond_false, if_true, if_false, unV, isNil, optI, iV, stepI, evalR, IntKind.bits, ini, F_ref32_Dynr0b, F_ref32_Dynr0_W, F_ref32_Dynr1b, F_ref32_Dynr1_W, F_ref32_Dynr2b, F_ref32_Dynr3b, F_ref32_Dynr3_W, F_ref32_Dynr4b, F_ref32_Dynr5b, F_ref32_Dynr5_W, F_ref32_Dynr6b, F_ref32_Dynr6_W, F_ref32_Dynr7b, F_ref32_Dynr7_W, F_ref32_Dynr9b, F_ref32_Dynr9_W, F_ref32_Dynr8b, F_ref32_Dynr8_W, F_ref32_Dynl0b, F_ref32_Dynr10b, F_ref32_Dynr10_W, F_ref32_Dynr11b, F_ref32_Dynr11_W, F_ref32_Dynr12b, F_ref32_Dynr12_W, F_ref32_Dynr13b, F_ref32_Dynr13_W, F_ref32_Dynr14b, F_ref32_Dynr14_W, F_ref32_Dynr15b, F_ref32_Dynr15_W, F_ref32_Dynr16b, F_ref32_Dynr16_W, F_ref32_Dynr17b, F_ref32_Dynr17_W, F_ref32_Dynr18b, F_ref32_Dynr18_W, F_ref32_Dynr19b, F_ref32_Dynr19_W, F_ref32_Dynr20b, F_ref32_Dynr20_W, F_ref32_Dynr21b, F_ref32_Dynr21_W, F_ref32_Dynr22b, F_ref32_Dynr22_W, F_ref32_Dynr24b, F_ref32_Dynr24_W, F_ref32_Dynr25b, F_ref32_Dynr25_W, F_ref32_Dynr23b, F_ref32_Dynr23_W, F_ref32_Dynl1b, F_ref32_Dynl1_W, F_ref32_Dynr26b, F_ref32_Dynr26_W, F_ref32_Dyncb, F_ref32_Dync_W]
  rw [← w_seq]
  refine W.mono (rd_A (d := d) (l := []) ⟨rfl, ?_, ?_⟩ (by simp only [List.length_nil]; omega)) fun x e H ⟨hx, h1⟩ => ?_
  · (first | assumption | rfl)
  · (first | assumption | rfl)
  subst hx
  rw [seqQ_normal, w_seq]
  refine W.mono (rd_B h1 (by rw [List.length_append]; simp only [List.length_nil]; omega)) fun x e H ⟨hx, h2⟩ => ?_
  subst hx
  obtain ⟨rfl, v1, v3⟩ := h2
  simp only [fws, seval, cond_true, cond_false, if_true, if_false, unV, isNil, optI, iV, stepI, evalR, IntKind.bits, ini, F_ref32_Dynr0b, F_ref32_Dynr0_W, F_ref32_Dynr1b, F_ref32_Dynr1_W, F_ref32_Dynr2b, F_ref32_Dynr2_W, F_ref32_Dynr3b, F_ref32_Dynr3_W, F_ref32_Dynr4b, F_ref32_Dynr4_W, F_ref32_Dynr5b, F_ref32_Dynr5_W, F_ref32_Dynr6b, F_ref32_Dynr6_W, F_ref32_Dynr7b, F_ref32_Dynr7_W, F_ref32_Dynr9b, F_ref32_Dynr9_W, F_ref32_Dynr8b, F_ref32_Dynr8_W, F_ref32_Dynl0b, F_ref32_Dynr10b, F_ref32_Dynr10_W, F_ref32_Dynr11b, F_ref32_Dynr12b, F_ref32_Dynr12_W, F_ref32_Dynr13b, F_ref32_Dynr13_W, F_ref32_Dynr14b, F_ref32_Dynr14_W, F_ref32_Dynr15b, F_ref32_Dynr15_W, F_ref32_Dynr16b, F_ref32_Dynr16_W, F_ref32_Dynr17b, F_ref32_Dynr17_W, F_ref32_Dynr18b, F_ref32_Dynr18_W, F_ref32_Dynr19b, F_ref32_Dynr19_W, F_ref32_Dynr20b, F_ref32_Dynr20_W, F_ref32_Dynr21b, F_ref32_Dynr21_W, F_ref32_Dynr22b, F_ref32_Dynr22_W, F_ref32_Dynr24b, F_ref32_Dynr24_W, F_ref32_Dynr25b, F_ref32_Dynr25_W, F_ref32_Dynr23b, F_ref32_Dynr23_W, F_ref32_Dynl1b, F_ref32_Dynl1_W, F_ref32_Dynr26b, F_ref32_Dynr26_W, F_ref32_Dyncb, F_ref32_Dync_W]
  refine W.mono (loop_rneed t hk.n (lst d.Needed) 0 (([] ++ sonM d) ++ runM d) _ rfl (by unfold needM at hl'; simp only [List.nil_append, List.length_append]; omega) ?_ ?_ ?_) fun x e H ⟨hx, h3⟩ => ?_
  · (first | assumption | rfl)
  · (first | assumption | rfl)
  · (first | assumption | rfl)
  subst hx
  have h3 : DR d (([] ++ sonM d) ++ runM d ++ needM d) e H := h3
  obtain ⟨rfl, v1, v3⟩ := h3
  simp only [fws, seval, cond_true, cond_false, if_true, if_false, unV, isNil, optI, iV, stepI, evalR, IntKind.bits, ini, F_ref32_Dynr0b, F_ref32_Dynr0_W, F_ref32_Dynr1b, F_ref32_Dynr1_W, F_ref32_Dynr2b, F_ref32_Dynr2_W, F_ref32_Dynr3b, F_ref32_Dynr3_W, F_ref32_Dynr4b, F_ref32_Dynr4_W, F_ref32_Dynr5b, F_ref32_Dynr5_W, F_ref32_Dynr6b, F_ref32_Dynr6_W, F_ref32_Dynr7b, F_ref32_Dynr7_W, F_ref32_Dynr9b, F_ref32_Dynr9_W, F_ref32_Dynr8b, F_ref32_Dynr8_W, F_ref32_Dynl0b, F_ref32_Dynl0_W, F_ref32_Dynr10b, F_ref32_Dynr10_W, F_ref32_Dynr11b, F_ref32_Dynr12b, F_ref32_Dynr12_W, F_ref32_Dynr13b, F_ref32_Dynr13_W, F_ref32_Dynr14b, F_ref32_Dynr14_W, F_ref32_Dynr15b, F_ref32_Dynr15_W, F_ref32_Dynr16b, F_ref32_Dynr16_W, F_ref32_Dynr17b, F_ref32_Dynr17_W, F_ref32_Dynr18b, F_ref32_Dynr18_W, F_ref32_Dynr19b, F_ref32_Dynr19_W, F_ref32_Dynr20b, F_ref32_Dynr20_W, F_ref32_Dynr21b, F_ref32_Dynr21_W, F_ref32_Dynr22b, F_ref32_Dynr22_W, F_ref32_Dynr24b, F_ref32_Dynr24_W, F_ref32_Dynr25b, F_ref32_Dynr25_W, F_ref32_Dynr23b, F_ref32_Dynr23_W, F_ref32_Dynl1b, F_ref32_Dynl1_W, F_ref32_Dynr26b, F_ref32_Dynr26_W, F_ref32_Dyncb, F_ref32_Dync_W]
  rw [← w_seq]
  refine W.mono (rd_1 (d := d) (l := ([] ++ sonM d) ++ runM d ++ needM d) (x := []) ⟨rfl, ?_, ?_⟩ ?_ (by decide)) fun x e H ⟨hx, h3, v5⟩ => ?_
  · (first | assumption | rfl)
  · (first | assumption | rfl)
  · (first | assumption | rfl)
  subst hx
  rw [seqQ_normal, w_seq]
  refine W.mono (rd_2 h3 v5 (by rw [List.nil_append]; omega)) fun x e H ⟨hx, h3, v5⟩ => ?_
  subst hx
  rw [seqQ_normal, w_seq]
  refine W.mono (rd_3 h3 v5 (by rw [List.nil_append, List.length_append]; omega)) fun x e H ⟨hx, h3, v5⟩ => ?_
  subst hx
  rw [seqQ_normal, w_seq]
  refine W.mono (rd_4 h3 v5 (by rw [List.nil_append, List.length_append, List.length_append]; omega) (by simp only [List.nil_append, List.length_append]; omega)) fun x e H ⟨hx, h4⟩ => ?_
  subst hx
  simp only [List.nil_append] at h4
  rw [← flag_eq d] at h4
  obtain ⟨rfl, v1, v3⟩ := h4
  have M1 : loadNI [dEn d] 3 (.pointer (some ⟨0, 17, none⟩)) = some (.agg (S_api_AreaE.e d.Rel).toArray, [dEn d]) := rfl
  have M2 : loadNI [dEn d] 3 (.pointer (some ⟨0, 20, none⟩)) = some (.agg (S_api_AreaE.e d.Rela).toArray, [dEn d]) := rfl
  have M3 : loadNI [dEn d] 3 (.pointer (some ⟨0, 23, none⟩)) = some (.agg (S_api_AreaE.e d.Plt).toArray, [dEn d]) := rfl
  have M4 : loadNI [dEn d] 3 (.pointer (some ⟨0, 26, none⟩)) = some (.agg (S_api_AreaE.e d.Relr).toArray, [dEn d]) := rfl
  have M5 : loadNI [dEn d] 3 (.pointer (some ⟨0, 29, none⟩)) = some (.agg (S_api_AreaE.e d.Packed).toArray, [dEn d]) := rfl
  have M6 : loadNI [dEn d] 3 (.pointer (some ⟨0, 34, none⟩)) = some (.agg (S_api_AreaE.e d.Init).toArray, [dEn d]) := rfl
  have M7 : loadNI [dEn d] 3 (.pointer (some ⟨0, 37, none⟩)) = some (.agg (S_api_AreaE.e d.Fini).toArray, [dEn d]) := rfl
  rw [S_api_AreaE_e] at M1 M2 M3 M4 M5 M6 M7
  simp only [fws, seval, cond_true, cond_false, if_true, if_false, unV, isNil, optI, iV, stepI, evalR, IntKind.bits, ini, fillL, zr, spl, fwh, faI_ptr, F_ref32_Dynr0b, F_ref32_Dynr0_W, F_ref32_Dynr1b, F_ref32_Dynr1_W, F_ref32_Dynr2b, F_ref32_Dynr2_W, F_ref32_Dynr3b, F_ref32_Dynr3_W, F_ref32_Dynr4b, F_ref32_Dynr4_W, F_ref32_Dynr5b, F_ref32_Dynr5_W, F_ref32_Dynr6b, F_ref32_Dynr6_W, F_ref32_Dynr7b, F_ref32_Dynr7_W, F_ref32_Dynr9b, F_ref32_Dynr9_W, F_ref32_Dynr8b, F_ref32_Dynr8_W, F_ref32_Dynl0b, F_ref32_Dynl0_W, F_ref32_Dynr10b, F_ref32_Dynr10_W, F_ref32_Dynr11b, F_ref32_Dynr11_W, F_ref32_Dynr12b, F_ref32_Dynr12_W, F_ref32_Dynr13b, F_ref32_Dynr13_W, F_ref32_Dynr14b, F_ref32_Dynr14_W, F_ref32_Dynr15b, F_ref32_Dynr15_W, F_ref32_Dynr16b, F_ref32_Dynr16_W, F_ref32_Dynr17b, F_ref32_Dynr17_W, F_ref32_Dynr18b, F_ref32_Dynr18_W, F_ref32_Dynr19b, F_ref32_Dynr19_W, F_ref32_Dynr20b, F_ref32_Dynr20_W, F_ref32_Dynr21b, F_ref32_Dynr21_W, F_ref32_Dynr22b, F_ref32_Dynr22_W, F_ref32_Dynr24b, F_ref32_Dynr24_W, F_ref32_Dynr25b, F_ref32_Dynr25_W, F_ref32_Dynr23b, F_ref32_Dynr23_W, F_ref32_Dynl1b, F_ref32_Dynr26b, F_ref32_Dynr26_W, F_ref32_Dyncb, F_ref32_Dync_W, v1, v3, M1, M2, M3, M4, M5, M6, M7, Nat.zero_add]
  refine W.mono (loop_rarea t (R := areas d) hk.ar rfl (areas d) 0 (sonM d ++ runM d ++ needM d ++ flagM d) _ rfl ?_ ?_ ?_ ?_ ?_) fun x e H5 ⟨hx, h5⟩ => ?_
  · simp only [List.nil_append, List.length_append]; omega
  · (first | assumption | rfl)
  · (first | assumption | rfl)
  · (first | assumption | rfl)
  · (first | assumption | rfl)
  subst hx
  simp only [fws, seval, cond_true, cond_false, if_true, if_false, unV, isNil, optI, iV, stepI, evalR, IntKind.bits, ini, N_ref32_Dyn, h5, List.nil_append, List.append_assoc]
  rfl
end
end Go.Proofs.YtdajdgjacajemaaGreat
