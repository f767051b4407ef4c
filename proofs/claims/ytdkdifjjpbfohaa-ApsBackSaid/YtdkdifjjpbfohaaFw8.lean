/- Steps: literals, makes, strings and bytes, cuts. -/
import Derived.Test.YtdkdifjjpbfohaaFw7
namespace Go.Proofs.Ytdkdifjjpbfohaa.Fw
open Go
section
variable {P : Program} {nt : Nat} {env : Nat → Value} {H : Heap} {ρ : RP} {w : World} {a : Act}

theorem step_app {args : Array Operand} {tys : Array TypeId} {t t2 ty e : TypeId} {cn : Array Bool} {n eb : Nat} {x y : Operand} {x' y' : Opd} (ha : args.toList = [x, y]) (hty : tys.toList = [t, t2])
    (ht : P.underlying t = some (.slice e)) (hi : (P.info? e).isSome = true) (hn : P.cellsOf e = n) (heb : P.bytesOf e = eb) (hb0 : Nat.beq eb 0 = false) {zl : List Value} (hzl : zeroT P e = some zl) (hzn : zl.length = n)
    (ht2 : (match P.underlying t2 with | some (.int _) => false | some _ => true | none => false) = true) (h1 : chkO nt x x' = true) (h2 : chkO nt y y' = true) {v : Value} {H' : Heap}
    (hs : stepI env H (.app n eb x' y') = some (v, H')) (hr : Rel ρ H w) (he : EnvR ρ H nt env a) :
    Done P (builtin .append tys ty cn (args.map a.eval)) w ρ H v H' := by
  have hx := opd_ok h1 he
  have hy := opd_ok h2 he
  obtain rfl : args = #[x, y] := by rw [← Array.toList_inj]; exact ha
  obtain rfl : tys = #[t, t2] := by rw [← Array.toList_inj]; exact hty
  simp only [stepI] at hs
  split at hs
  · rename_i src m hsrc
    obtain ⟨v', w', ρ', g1, g2, g3, g4⟩ := app_ok (ty := ty) ht hi hn heb hb0 hzl hzn ht2 hx hy hr hsrc hs
    exact ⟨.value v', v', w', ρ', by simp only [builtin, List.map_toArray, List.map_cons, List.map_nil, Sem.run_bind, g1, Result.andThen_ok, Sem.run_pure], .inl rfl, g2, g3, g4⟩
  · cases hs

/-! Literals -/
theorem foldl_spl : ∀ (vs : List Value) (c : Array Value) (off : Nat), ((vs.zipIdx 0).foldl (fun cs (c, j) => cs.setIfInBounds (off + j) c) c) = splA c off vs := by
  have gen : ∀ (vs : List Value) (c : Array Value) (off k : Nat), ((vs.zipIdx k).foldl (fun cs (c, j) => cs.setIfInBounds (off + j) c) c) = splA c (off + k) vs := by
    intro vs
    induction vs with
    | nil => intro c off k; rfl
    | cons v vs ih =>
      intro c off k
      simp only [List.zipIdx_cons, List.foldl_cons, splA]
      rw [ih]
      rfl
  intro vs c off
  exact gen vs c off 0

theorem splA_list : ∀ (vs : List Value) (c : Array Value) (off : Nat), (splA c off vs).toList = spl c.toList off vs
  | [], _, _ => rfl
  | v :: vs, c, off => by rw [splA, spl, splA_list vs, Array.toList_setIfInBounds]

theorem VRs.spl : ∀ {vs vs' cs cs' : List Value} {off : Nat}, VRs ρ H cs cs' → VRs ρ H vs vs' → VRs ρ H (spl cs off vs) (Fw.spl cs' off vs')
  | [], vs', cs, cs', off, h, hv => by rw [hv.nil_inv]; exact h
  | v :: vs, vs', cs, cs', off, h, hv => by
    obtain ⟨v', t, rfl, h1, h2⟩ := hv.head
    refine VRs.spl (off := off + 1) ?_ h2
    refine ⟨by simp [h.1], fun j x x' hx hx' => ?_⟩
    rw [List.getElem?_set] at hx hx'
    by_cases hj : off = j
    · subst hj
      rw [if_pos rfl] at hx hx'
      split at hx
      · split at hx'
        · cases hx; cases hx'; exact h1
        · cases hx'
      · cases hx
    · rw [if_neg hj] at hx hx'
      exact h.2 j x x' hx hx'

/-- The parts of a literal: the model's own filling, and the list's. -/
theorem fill_run {place : Nat → Option (Nat × Nat)} : ∀ (parts : List (Nat × Operand)) (parts' : List (Nat × Nat × Opd)) (cs : List Value) (c : Array Value) (r : List Value), chkParts nt place parts parts' = true → EnvR ρ H nt env a →
    VRs ρ H cs c.toList → fillL cs (parts'.map fun (o, s, x) => (o, s, x.ev env)) = some r →
    ∃ c' : Array Value, Instr.fill place c (parts.map fun (i, x) => (i, a.eval x)) = some c' ∧ VRs ρ H r c'.toList
  | [], [], cs, c, r, _, _, hc, hf => by
    simp only [List.map_nil, fillL] at hf
    obtain rfl := Option.some.inj hf
    exact ⟨c, rfl, hc⟩
  | [], _ :: _, _, _, _, h, _, _, _ => by simp [chkParts] at h
  | _ :: _, [], _, _, _, h, _, _, _ => by simp [chkParts] at h
  | (i, o) :: l, (ad, s, x) :: m, cs, c, r, h, he, hc, hf => by
    simp only [chkParts, Bool.and_eq_true, beq_iff_eq] at h
    obtain ⟨⟨h1, h2⟩, h3⟩ := h
    have hv := opd_ok h2 he
    have hcells := hv.cells
    simp only [List.map_cons, fillL] at hf
    cases hb : (Nat.beq (x.ev env).cells.size s && Nat.ble (ad + s) cs.length) with
    | false => rw [hb] at hf; cases hf
    | true =>
      rw [hb] at hf
      simp only [Bool.and_eq_true] at hb
      have b1 := Nat.eq_of_beq_eq_true hb.1
      have b2 := Nat.le_of_ble_eq_true hb.2
      have b3 : (a.eval o).cells.size = s := by rw [← Array.length_toList, ← hcells.1, Array.length_toList]; exact b1
      have b4 : c.size = cs.length := by rw [← Array.length_toList, ← hc.1]
      obtain ⟨c', g1, g2⟩ := fill_run l m _ (splA c ad (a.eval o).cells.toList) r h3 he (by rw [splA_list]; exact VRs.spl hc hcells) hf
      refine ⟨c', ?_, g2⟩
      simp only [List.map_cons, Instr.fill, h1]
      rw [if_neg (by simp only [b3, ne_eq, not_true_eq_false, decide_false, Bool.false_or, gt_iff_lt, decide_eq_true_eq]; omega)]
      rw [← g1, ← foldl_spl]
      congr 1
      rw [← Array.foldl_toList, Array.toList_zipIdx]

theorem fillL_len : ∀ (parts : List (Nat × Nat × Value)) (cs r : List Value), fillL cs parts = some r → r.length = cs.length
  | [], cs, r, h => by simp only [fillL] at h; obtain rfl := Option.some.inj h; rfl
  | (o, s, v) :: l, cs, r, h => by
    simp only [fillL] at h
    cases hb : (Nat.beq v.cells.size s && Nat.ble (o + s) cs.length) with
    | false => rw [hb] at h; cases h
    | true => rw [hb] at h; rw [fillL_len l _ r h, spl_length]

theorem VRs.plain {l : List Value} (h : ∀ x ∈ l, plainV x = true) : VRs ρ H l l :=
  ⟨rfl, fun j x x' hx hx' => by rw [hx] at hx'; cases hx'; exact .plain _ (h x (List.mem_of_getElem? hx))⟩

theorem run_mapM_places {fs : Array Field} (h : (fs.toList.all fun f => (P.info? f.type).isSome) = true) (w : World) :
    ((fs.mapM fun f => do Pure.pure (f.offset, ← sizeOf f.type)) : Sem (Array (Nat × Nat))).run P w = .ok (fs.map fun f => (f.offset, P.cellsOf f.type)) w := by
  have hl : ∀ l : List Field, (l.all fun f => (P.info? f.type).isSome) = true → ((l.mapM fun f => do Pure.pure (f.offset, ← sizeOf f.type)) : Sem (List (Nat × Nat))).run P w = .ok (l.map fun f => (f.offset, P.cellsOf f.type)) w := by
    intro l
    induction l with
    | nil => intro _; simp
    | cons f l ih =>
      intro hl
      simp only [List.all_cons, Bool.and_eq_true] at hl
      simp only [List.mapM_cons, Sem.run_bind, run_sizeOf' hl.1, Result.andThen_ok, Sem.run_pure, ih hl.2, List.map_cons]
  have h1 := hl fs.toList h
  rw [← Array.toList_mapM, Sem.run_map] at h1
  generalize ((fs.mapM fun f => do Pure.pure (f.offset, ← sizeOf f.type)) : Sem (Array (Nat × Nat))).run P w = r at h1
  cases r with
  | ok arr w1 =>
    simp only [Result.andThen_ok, Result.ok.injEq] at h1
    obtain ⟨h2, rfl⟩ := h1
    congr 1
    rw [← Array.toList_inj, h2, Array.toList_map]
  | halt hh w1 => simp at h1

theorem step_bld {t : TypeId} {z : List Value} {parts : Array (Nat × Operand)} {parts' : List (Nat × Nat × Opd)} (hz : (match zeroT P t with | some l => sameL l z && z.all oneC | none => false) = true)
    (hp : (match P.underlying t with
     | some (.struct fs) => (fs.toList.all fun f => (P.info? f.type).isSome) && chkParts nt (fun i => (fs[i]?).map fun f => (f.offset, P.cellsOf f.type)) parts.toList parts'
     | some (.array _ e) => (P.info? e).isSome && chkParts nt (fun i => some (i * P.cellsOf e, P.cellsOf e)) parts.toList parts'
     | _ => false) = true) {v : Value} {H' : Heap}
    (hs : stepI env H (.bld z parts') = some (v, H')) (hr : Rel ρ H w) (he : EnvR ρ H nt env a) :
    Done P (do Pure.pure (.value (← Instr.build t (parts.map fun (i, x) => (i, a.eval x))))) w ρ H v H' := by
  simp only [stepI, Option.map_eq_some_iff] at hs
  obtain ⟨r, hf, h2⟩ := hs
  obtain ⟨rfl, rfl⟩ := Prod.mk.inj h2
  split at hz
  · rename_i l hl
    simp only [Bool.and_eq_true] at hz
    obtain ⟨h3, h4⟩ := sameL_eq hz.1
    subst h3
    unfold zeroT at hl
    simp only [Option.map_eq_some_iff, Option.bind_eq_some_iff] at hl
    obtain ⟨zv, ⟨i, h5, h6⟩, h7⟩ := hl
    have hz0 : VRs ρ H l zv.cells.toList := by rw [h7]; exact VRs.plain h4
    have hzero : (zeroValue t).run P w = .ok zv w := by simp only [zeroValue, Sem.run_bind, run_typeInfo w h5, Result.andThen_ok, h6, Sem.run_pure]
    split at hp
    · rename_i fs hu
      simp only [Bool.and_eq_true] at hp
      obtain ⟨c', g1, g2⟩ := fill_run parts.toList parts' l zv.cells r hp.2 he hz0 hf
      refine Done.pure (v' := .agg c') ?_ (VRs.agg (by simpa using g2)) hr
      have hpl : (fun x : Nat => (fs.map fun f : Field => (f.offset, P.cellsOf f.type))[x]?) = (fun i : Nat => (fs[i]?).map fun f : Field => (f.offset, P.cellsOf f.type)) := by
        funext i; simp
      simp only [Instr.build, Sem.run_bind, hzero, Result.andThen_ok, run_underlying hu, run_mapM_places hp.1, Array.toList_map, hpl]
      rw [g1]
      simp only [Sem.run_pure, Result.andThen_ok]
    · rename_i len e hu
      simp only [Bool.and_eq_true] at hp
      obtain ⟨c', g1, g2⟩ := fill_run parts.toList parts' l zv.cells r hp.2 he hz0 hf
      refine Done.pure (v' := .agg c') ?_ (VRs.agg (by simpa using g2)) hr
      simp only [Instr.build, Sem.run_bind, hzero, Result.andThen_ok, run_underlying hu, run_sizeOf' hp.1, Array.toList_map]
      rw [g1]
      simp only [Sem.run_pure, Result.andThen_ok]
    · cases hp
  · cases hz

end
end Go.Proofs.Ytdkdifjjpbfohaa.Fw
