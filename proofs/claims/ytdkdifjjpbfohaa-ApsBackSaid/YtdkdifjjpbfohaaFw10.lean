/- Steps: cuts; append of what make would make. -/
import Derived.Test.YtdkdifjjpbfohaaFw9
namespace Go.Proofs.Ytdkdifjjpbfohaa.Fw
open Go
section
variable {P : Program} {nt : Nat} {env : Nat → Value} {H : Heap} {ρ : RP} {w : World} {a : Act}

theorem iV_some {v : Value} {i : Int} (h : iV v = some i) : ∃ k, v = .int k i := by
  unfold iV at h
  split at h
  · rename_i k j; exact ⟨k, by rw [Option.some.inj h]⟩
  · cases h

theorem bound_run {x : Value} {i : Int} {k : IntKind} (hx : x = .int k i) {y : Nat} {code : BoundsCode} (h0 : 0 ≤ i) (h1 : i ≤ y) (w : World) : (Instr.sliceBound x y code).run P w = .ok i.toNat w := by
  subst hx
  simp only [Instr.sliceBound, asIntOf, Sem.run_bind, Sem.run_pure, Result.andThen_ok, Sem.run_ite, if_pos (And.intro h0 h1)]

/-- The bounds of a cut. -/
theorem bounds_run {isSlice : Bool} {len cap : Nat} {lo hi mx : Option Operand} {lo' hi' mx' : Option Opd} (h1 : chkOpt nt lo lo' = true) (h2 : chkOpt nt hi hi' = true) (h3 : chkOpt nt mx mx' = true) (hm : (mx.isNone || hi.isSome) = true) (he : EnvR ρ H nt env a)
    {i j k : Int} (hi0 : optI env 0 lo' = some i) (hj0 : optI env len hi' = some j) (hk0 : mx' = none ∧ k = cap ∨ mx'.isSome = true ∧ optI env 0 mx' = some k) (b1 : 0 ≤ i) (b2 : i ≤ j) (b3 : j ≤ k) (b4 : k ≤ cap) (w : World) :
    (Instr.sliceBounds isSlice len cap (lo.map a.eval) (hi.map a.eval) (mx.map a.eval)).run P w = .ok (i.toNat, j.toNat, k.toNat) w := by
  have opt : ∀ {o : Option Operand} {o' : Option Opd} {d q : Int}, chkOpt nt o o' = true → optI env d o' = some q → (o = none ∧ o' = none ∧ q = d) ∨ ∃ x kk, o = some x ∧ a.eval x = .int kk q := by
    intro o o' d q hc hq
    cases o with
    | none =>
      cases o' with
      | none => simp only [optI] at hq; exact .inl ⟨rfl, rfl, (Option.some.inj hq).symm⟩
      | some _ => simp [chkOpt] at hc
    | some x =>
      cases o' with
      | none => simp [chkOpt] at hc
      | some x' =>
        simp only [optI] at hq
        obtain ⟨kk, hkk⟩ := iV_some hq
        have hv := opd_ok (a := a) (show chkO nt x x' = true by simpa [chkOpt] using hc) he
        rw [hkk] at hv
        exact .inr ⟨x, kk, rfl, hv.int_inv⟩
  have hL : ∀ (x : Operand) (kk : IntKind), a.eval x = .int kk i → ∀ code, (Instr.sliceBound (a.eval x) j.toNat code).run P w = .ok i.toNat w := fun x kk hx code => bound_run hx b1 (by omega) w
  have hHi : ∀ (x : Operand) (kk : IntKind), a.eval x = .int kk j → ∀ code, (Instr.sliceBound (a.eval x) k.toNat code).run P w = .ok j.toNat w := fun x kk hx code => bound_run hx (by omega) (by omega) w
  have hM : ∀ (x : Operand) (kk : IntKind), a.eval x = .int kk k → ∀ code, (Instr.sliceBound (a.eval x) cap code).run P w = .ok k.toNat w := fun x kk hx code => bound_run hx (by omega) b4 w
  rcases hk0 with ⟨h4, rfl⟩ | ⟨h4, h5⟩
  · subst h4
    cases mx with
    | some _ => simp [chkOpt] at h3
    | none =>
      rw [Int.toNat_natCast] at hHi ⊢
      rcases opt h2 hj0 with ⟨rfl, _, rfl⟩ | ⟨xh, kh, rfl, hh⟩
      · rw [Int.toNat_natCast] at hL ⊢
        rcases opt h1 hi0 with ⟨rfl, _, rfl⟩ | ⟨xl, kl, rfl, hl⟩
        · simp [Instr.sliceBounds]
        · simp [Instr.sliceBounds, hL xl kl hl]
      · rcases opt h1 hi0 with ⟨rfl, _, rfl⟩ | ⟨xl, kl, rfl, hl⟩
        · simp [Instr.sliceBounds, hHi xh kh hh]
        · simp [Instr.sliceBounds, hHi xh kh hh, hL xl kl hl]
  · rcases opt h3 h5 with ⟨_, h6, _⟩ | ⟨xm, km, rfl, hmm⟩
    · rw [h6] at h4; cases h4
    · rcases opt h2 hj0 with ⟨rfl, _, rfl⟩ | ⟨xh, kh, rfl, hh⟩
      · simp at hm
      · rcases opt h1 hi0 with ⟨rfl, _, rfl⟩ | ⟨xl, kl, rfl, hl⟩
        · simp [Instr.sliceBounds, hM xm km hmm, hHi xh kh hh]
        · simp [Instr.sliceBounds, hM xm km hmm, hHi xh kh hh, hL xl kl hl]

theorem step_sls {t : TypeId} {x : Operand} {lo hi : Option Operand} {x' : Opd} {lo' hi' : Option Opd} (ht : P.underlying t = some .string) (h1 : chkO nt x x' = true) (h2 : chkOpt nt lo lo' = true) (h3 : chkOpt nt hi hi' = true) {v : Value} {H' : Heap}
    (hs : stepI env H (.sls x' lo' hi') = some (v, H')) (hr : Rel ρ H w) (he : EnvR ρ H nt env a) :
    Done P (do Pure.pure (.value (← Instr.sliceAt t (a.eval x) (lo.map a.eval) (hi.map a.eval) (Option.map a.eval none)))) w ρ H v H' := by
  have hx := opd_ok h1 he
  simp only [stepI] at hs
  split at hs
  · rename_i s h4
    rw [h4] at hx
    split at hs
    · rename_i i j h5 h6
      split at hs
      · rename_i hb
        obtain ⟨rfl, rfl⟩ := Prod.mk.inj (Option.some.inj hs)
        have hbr := bounds_run (P := P) (isSlice := false) (len := s.size) (cap := s.size) (mx := none) (mx' := none) h2 h3 rfl rfl he h5 h6 (.inl ⟨rfl, rfl⟩) hb.1 hb.2.1 hb.2.2 (by omega) w
        rw [hx.string_inv]
        refine Done.pure (v' := .string (s.extract i.toNat j.toNat)) ?_ (.plain _ rfl) hr
        simp only [Option.map_none] at hbr
        simp only [Instr.sliceAt, Sem.run_bind, run_underlying ht, Result.andThen_ok, Instr.slice, Option.map_none, Option.isSome_none, Bool.false_eq_true, if_false, hbr, Sem.run_pure]
      · cases hs
    · cases hs
  · cases hs

theorem step_sle {t e : TypeId} {n : Nat} {x : Operand} {lo hi mx : Option Operand} {x' : Opd} {lo' hi' mx' : Option Opd} (ht : P.underlying t = some (.slice e)) (hie : (P.info? e).isSome = true) (hn : P.cellsOf e = n) (hm : (mx.isNone || hi.isSome) = true)
    (h1 : chkO nt x x' = true) (h2 : chkOpt nt lo lo' = true) (h3 : chkOpt nt hi hi' = true) (h4 : chkOpt nt mx mx' = true) {v : Value} {H' : Heap}
    (hs : stepI env H (.sle n x' lo' hi' mx') = some (v, H')) (hr : Rel ρ H w) (he : EnvR ρ H nt env a) :
    Done P (do Pure.pure (.value (← Instr.sliceAt t (a.eval x) (lo.map a.eval) (hi.map a.eval) (mx.map a.eval)))) w ρ H v H' := by
  have hx := opd_ok h1 he
  simp only [stepI, sleI] at hs
  have oj : ∀ (d : Int) (o : Option Opd), optJ d (optB env o) = optI env d o := fun d o => by cases o <;> rfl
  simp only [oj] at hs
  have hrun : ∀ (ad : Option Addr) (l c i j k : Nat), a.eval x = .slice ad l c → (Instr.sliceBounds true l c (lo.map a.eval) (hi.map a.eval) (mx.map a.eval)).run P w = .ok (i, j, k) w →
      ((do Pure.pure (.value (← Instr.sliceAt t (a.eval x) (lo.map a.eval) (hi.map a.eval) (mx.map a.eval))) : Sem Next)).run P w = .ok (.value (.slice (if k = i then ad else ad.map (·.add (i * n))) (j - i) (k - i))) w := by
    intro ad l c i j k hx hb
    rw [hx]
    simp only [Instr.sliceAt, Sem.run_bind, run_underlying ht, Result.andThen_ok, Instr.slice, hb, run_sizeOf' hie, hn, Sem.run_pure]
  split at hs
  · rename_i ad l c h5
    rw [h5] at hx
    split at hs
    · rename_i i j k h6 h7 h8
      split at hs
      · rename_i tag ro u cs hlk
        cases hu : (ro || Nat.beq u n) with
        | false => rw [hu] at hs; cases hs
        | true =>
          rw [hu] at hs
          simp only [cond_true] at hs
          split at hs
          · rename_i hb
            obtain ⟨b1, b2, b3, b4⟩ := hb
            obtain ⟨rfl, rfl⟩ := Prod.mk.inj (Option.some.inj hs)
            obtain ⟨q1, q2⟩ := lk_some hlk
            have hmk : ∀ c' : Nat, c ≤ c' → (mx' = none ∧ (if mx'.isNone then (c' : Int) else k) = c') ∨ (mx'.isSome = true ∧ optI env 0 mx' = some (if mx'.isNone then (c' : Int) else k)) := fun c' _ => by
              cases mx' with
              | none => exact .inl ⟨rfl, rfl⟩
              | some m => exact .inr ⟨rfl, by simp only [optI] at h8 ⊢; simpa using h8⟩
            have hkc : mx' = none → k = c := fun h => by subst h; simp only [optI] at h8; exact (Option.some.inj h8).symm
            rcases hx.sl_inv q1 q2 rfl with ⟨c', hv, hfit, hc1, hc2⟩ | ⟨rfl, rfl, a', hv⟩
            · obtain ⟨k', hk'⟩ : ∃ k' : Int, k' = if mx'.isNone then (c' : Int) else k := ⟨_, rfl⟩
              have hkk : k ≤ k' ∧ k' ≤ c' := by
                rw [hk']
                cases mx' with
                | none => have := hkc rfl; simp; omega
                | some m => simp; omega
              have hbr := bounds_run (P := P) (isSlice := true) (len := l) (cap := c') h2 h3 h4 hm he h6 h7 (by rw [hk']; exact hmk c' hc1) b1 b2 (by omega) hkk.2 w
              refine Done.pure (hrun _ _ _ _ _ _ hv hbr) ?_ hr
              by_cases hz : k'.toNat = i.toNat
              · -- nothing is left: where it begins doesn't matter
                have e1 : j.toNat - i.toNat = 0 := by omega
                have e2 : k.toNat - i.toNat = 0 := by omega
                have e3 : k'.toNat - i.toNat = 0 := by omega
                rw [if_pos hz, e1, e2, e3]
                exact .slNil ad.block (ad.off + i.toNat * n) ad.spot _ _ q1 (by rw [q2]; exact Nat.le_refl _)
              · rw [if_neg hz, Option.map_some, addr_add, Nat.add_assoc]
                refine .sl ad.block (ad.off + i.toNat * n) ad.spot _ _ _ _ ro u cs q1 q2 rfl (fun hro => ?_) (by omega) (by omega)
                have hfit := hfit hro
                rw [hro, Bool.false_or] at hu
                have hun := Nat.eq_of_beq_eq_true hu
                subst hun
                have h9 : (i.toNat + (k'.toNat - i.toNat)) * u ≤ c' * u := Nat.mul_le_mul_right _ (by omega)
                rw [Nat.add_mul] at h9
                omega
            · have hbr := bounds_run (P := P) (isSlice := true) (len := 0) (cap := 0) h2 h3 h4 hm he h6 h7 (by
                cases mx' with
                | none => exact .inl ⟨rfl, hkc rfl⟩
                | some m => exact .inr ⟨rfl, by simp only [optI] at h8 ⊢; exact h8⟩) b1 b2 b3 b4 w
              have e1 : j.toNat - i.toNat = 0 := by omega
              have e2 : k.toNat - i.toNat = 0 := by omega
              refine Done.pure (hrun _ _ _ _ _ _ hv hbr) ?_ hr
              rw [if_pos (by omega), e1, e2]
              exact .slNil ad.block (ad.off + i.toNat * n) ad.spot _ _ q1 (by rw [q2]; exact Nat.le_refl _)
          · cases hs
      · cases hs
    · cases hs
  · rename_i l c h5
    rw [h5] at hx
    split at hs
    · rename_i i j k h6 h7 h8
      cases hlc : (Nat.beq l 0 && Nat.beq c 0) with
      | false => rw [hlc] at hs; cases hs
      | true =>
        rw [hlc] at hs
        simp only [cond_true] at hs
        split at hs
        · rename_i hb
          obtain ⟨rfl, rfl, rfl⟩ := hb
          obtain ⟨rfl, rfl⟩ := Prod.mk.inj (Option.some.inj hs)
          simp only [Bool.and_eq_true] at hlc
          have hl := Nat.eq_of_beq_eq_true hlc.1
          have hc := Nat.eq_of_beq_eq_true hlc.2
          subst hl; subst hc
          have hbr := bounds_run (P := P) (isSlice := true) (len := 0) (cap := 0) h2 h3 h4 hm he h6 h7 (by
            cases mx' with
            | none => exact .inl ⟨rfl, rfl⟩
            | some m => exact .inr ⟨rfl, by simp only [optI] at h8 ⊢; exact h8⟩) (by decide) (by decide) (by decide) (by decide) w
          exact Done.pure (hrun _ _ _ _ _ _ (hx.plain_inv rfl) hbr) (.plain _ rfl) hr
        · cases hs
    · cases hs
  · rename_i l f cs h5
    rw [h5] at hx
    split at hs
    · rename_i i j k h6 h7 h8
      split at hs
      · rename_i hb
        obtain ⟨b1, b2, b3, b4⟩ := hb
        obtain ⟨rfl, rfl⟩ := Prod.mk.inj (Option.some.inj hs)
        have hkc : mx' = none → k = l := fun h => by subst h; simp only [optI] at h8; exact (Option.some.inj h8).symm
        rcases hx.imm_inv with ⟨_, ⟨b, o, c', c, hv, q1, q0, q2, q3, q4⟩ | ⟨rfl, rfl, a', hv⟩⟩
        · obtain ⟨k', hk'⟩ : ∃ k' : Int, k' = if mx'.isNone then (c' : Int) else k := ⟨_, rfl⟩
          have hkk : k ≤ k' ∧ k' ≤ c' := by
            rw [hk']
            cases mx' with
            | none => have := hkc rfl; simp; omega
            | some m => simp; omega
          have hmk : (mx' = none ∧ k' = c') ∨ (mx'.isSome = true ∧ optI env 0 mx' = some k') := by
            rw [hk']
            cases mx' with
            | none => exact .inl ⟨rfl, rfl⟩
            | some m => exact .inr ⟨rfl, by simp only [optI] at h8 ⊢; simpa using h8⟩
          have hbr := bounds_run (P := P) (isSlice := true) (len := l) (cap := c') h2 h3 h4 hm he h6 h7 hmk b1 b2 (by omega) hkk.2 w
          refine Done.pure (hrun _ _ _ _ _ _ hv hbr) ?_ hr
          by_cases hz : k'.toNat = i.toNat
          · have e1 : j.toNat - i.toNat = 0 := by omega
            have e3 : k'.toNat - i.toNat = 0 := by omega
            rw [if_pos hz, e1, e3, Nat.zero_mul, List.take_zero]
            exact .imm0 _
          · rw [if_neg hz, Option.map_some, addr_add]
            have hget : ∀ (y : Nat) (hy : y < ((cs.toList.drop (i.toNat * n)).take ((j.toNat - i.toNat) * n)).toArray.size), ∃ h' : i.toNat * n + y < cs.size, ((cs.toList.drop (i.toNat * n)).take ((j.toNat - i.toNat) * n)).toArray[y] = cs[i.toNat * n + y] := fun y hy => by
              have h1 : i.toNat * n + y < cs.size := by
                rw [List.size_toArray, List.length_take, List.length_drop, Array.length_toList] at hy
                omega
              refine ⟨h1, ?_⟩
              simp
            refine .imm _ _ b (o + i.toNat * n) _ c q1 (by omega) (fun y hy => ?_) (fun y hy => ?_) (fun y hy hy' => ?_)
            · obtain ⟨g1, _⟩ := hget y hy
              have := q2 _ g1
              omega
            · obtain ⟨g1, g2⟩ := hget y hy
              rw [g2]; exact q3 _ g1
            · obtain ⟨g1, g2⟩ := hget y hy
              rw [g2]
              have := q4 _ g1 (q2 _ g1)
              simp only [← Nat.add_assoc] at this
              exact this
        · have hbr := bounds_run (P := P) (isSlice := true) (len := 0) (cap := 0) h2 h3 h4 hm he h6 h7 (by
            cases mx' with
            | none => exact .inl ⟨rfl, hkc rfl⟩
            | some m => exact .inr ⟨rfl, by simp only [optI] at h8 ⊢; exact h8⟩) b1 b2 b3 b4 w
          have e1 : j.toNat - i.toNat = 0 := by omega
          have e2 : k.toNat - i.toNat = 0 := by omega
          refine Done.pure (hrun _ _ _ _ _ _ hv hbr) ?_ hr
          rw [if_pos (by omega), e1, e2, Nat.zero_mul, List.take_zero]
          exact .imm0 _
      · cases hs
    · cases hs
  · cases hs

theorem step_slr {t e : TypeId} {len n : Nat} {x : Operand} {lo hi : Option Operand} {x' : Opd} {lo' hi' : Option Opd} (ht : P.underlying t = some (.array len e)) (hie : (P.info? e).isSome = true) (hn : P.cellsOf e = n) (hn0 : 0 < n)
    (h1 : chkO nt x x' = true) (h2 : chkOpt nt lo lo' = true) (h3 : chkOpt nt hi hi' = true) {v : Value} {H' : Heap}
    (hs : stepI env H (.slr len n x' lo' hi') = some (v, H')) (hr : Rel ρ H w) (he : EnvR ρ H nt env a) :
    Done P (do Pure.pure (.value (← Instr.sliceAt t (a.eval x) (lo.map a.eval) (hi.map a.eval) (Option.map a.eval none)))) w ρ H v H' := by
  have hx := opd_ok h1 he
  simp only [stepI] at hs
  split at hs
  · rename_i ad h5
    rw [h5] at hx
    split at hs
    · rename_i i j h6 h7
      split at hs
      · rename_i tag ro u cs hlk
        cases hu : (ro || Nat.beq u n && Nat.beq ad.off 0 && Nat.beq cs.length (len * n)) with
        | false => rw [hu] at hs; cases hs
        | true =>
          rw [hu] at hs
          simp only [cond_true] at hs
          split at hs
          · rename_i hb
            obtain ⟨b1, b2, b3⟩ := hb
            obtain ⟨rfl, rfl⟩ := Prod.mk.inj (Option.some.inj hs)
            obtain ⟨q1, q2⟩ := lk_some hlk
            have hv := hx.ptr_inv q1 q2 rfl
            have hbr := bounds_run (P := P) (isSlice := false) (len := len) (cap := len) (mx := none) (mx' := none) h2 h3 rfl rfl he h6 h7 (.inl ⟨rfl, rfl⟩) b1 b2 b3 (Int.le_refl _) w
            simp only [Option.map_none] at hbr
            rw [hv]
            refine Done.pure (v' := .slice (some (if len = i.toNat then ⟨(ρ ad.block).block, (ρ ad.block).base + ad.off, none⟩ else (⟨(ρ ad.block).block, (ρ ad.block).base + ad.off, none⟩ : Addr).add (i.toNat * n))) (j.toNat - i.toNat) (len - i.toNat)) ?_ ?_ hr
            · simp only [Instr.sliceAt, Sem.run_bind, run_underlying ht, Result.andThen_ok, Instr.sureAddr, Sem.run_pure, Option.map_none, hbr, run_sizeOf' hie, hn, Int.toNat_natCast]
            · by_cases hz : len = i.toNat
              · have e1 : j.toNat - i.toNat = 0 := by omega
                have e2 : len - i.toNat = 0 := by omega
                rw [if_pos hz, e1, e2]
                exact .slNil ad.block (ad.off + i.toNat * n) ad.spot _ _ q1 (by rw [q2]; exact Nat.le_refl _)
              · rw [if_neg hz, addr_add, Nat.add_assoc]
                refine .sl ad.block (ad.off + i.toNat * n) ad.spot _ _ _ _ ro u cs q1 q2 rfl (fun hro => ?_) (Nat.le_refl _) (by omega)
                rw [hro, Bool.false_or, Bool.and_eq_true, Bool.and_eq_true] at hu
                obtain ⟨⟨u1, u2⟩, u3⟩ := hu
                have u1 := Nat.eq_of_beq_eq_true u1
                have u2 := Nat.eq_of_beq_eq_true u2
                have u3 := Nat.eq_of_beq_eq_true u3
                subst u1
                subst hro
                obtain ⟨cc, ty2, fr, r1, r2, r3, r4⟩ := hr.cells _ _ false u cs q1 rfl
                have hsz : (ρ ad.block).base + len * u ≤ (ρ ad.block).size := by
                  rcases Nat.eq_zero_or_pos (len * u) with h0 | h0
                  · rcases Nat.eq_zero_or_pos u with hu0 | hu0
                    · omega
                    · have : len = 0 := by
                        rcases Nat.eq_zero_or_pos len with h | h
                        · exact h
                        · have := Nat.mul_pos h hu0; omega
                      omega
                  · obtain ⟨_, x', h6, _⟩ := r4 (cs.length - 1) _ (List.getElem?_eq_getElem (by omega))
                    have := (Array.getElem?_eq_some_iff.1 h6).1
                    omega
                have h9 : (i.toNat + (len - i.toNat)) * u = len * u := by congr 1; omega
                rw [Nat.add_mul] at h9
                omega
          · cases hs
      · cases hs
    · cases hs
  · cases hs

end
end Go.Proofs.Ytdkdifjjpbfohaa.Fw
