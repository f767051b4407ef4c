/- Every step that bears no call: out of the check, the step and the relation. -/
import Derived.Test.YtdkdifjjpbfohaaFw11b
namespace Go.Proofs.Ytdkdifjjpbfohaa.Fw
open Go
section
variable {P : Program} {nt : Nat} {env : Nat → Value} {H : Heap} {ρ : RP} {w : World} {a : Act}

theorem Done.congr {s s' : Sem Next} {v : Value} {H' : Heap} (h : Done P s w ρ H v H') (he : s'.run P w = s.run P w) : Done P s' w ρ H v H' := by
  obtain ⟨r, v', w', ρ', h1, h2⟩ := h
  exact ⟨r, v', w', ρ', he.trans h1, h2⟩

theorem elemT_some {t e : TypeId} (h : elemT P t = some e) : P.underlying t = some (.slice e) := by
  unfold elemT at h
  split at h
  · rename_i q h1; cases h; exact h1
  · cases h

theorem bltn_run (dst : Option Tmp) (b : Builtin) (args : Array Operand) (tys : Array TypeId) (type : TypeId) (pos : String) (after : Array Edge) (g : Option (Nat × Bool)) :
    (execOp a.eval ⟨dst, .call ⟨.builtin b, args, tys⟩, type, pos, after, g⟩).run P w = (builtin b tys type (args.map fun | .const _ => true | _ => false) (args.map a.eval)).run P w := by
  simp only [execOp, resolve, Sem.run_bind, Sem.run_pure, Result.andThen_ok, invoke]
  rfl

def isCall : IOp → Bool
  | .mv _ => false
  | .pick _ _ _ => false
  | .bin _ _ _ => false
  | .un _ _ => false
  | .eqb _ _ _ => false
  | .eqn _ _ _ _ => false
  | .eqs _ _ _ _ => false
  | .conv _ _ => false
  | .cvs _ => false
  | .b2s _ => false
  | .s2b _ => false
  | .alloc _ _ => false
  | .box _ _ => false
  | .load _ => false
  | .loadN _ _ => false
  | .store _ _ _ => false
  | .fa _ _ => false
  | .fld _ _ _ => false
  | .ixa _ _ _ => false
  | .ixr _ _ _ _ => false
  | .ixs _ _ => false
  | .sle _ _ _ _ _ => false
  | .slr _ _ _ _ _ => false
  | .sls _ _ _ => false
  | .len _ _ => false
  | .app _ _ _ _ => false
  | .appz _ _ _ _ => false
  | .appf _ _ _ _ => false
  | .cpy _ _ _ => false
  | .bsl _ _ _ _ => false
  | .bld _ _ => false
  | .mks _ _ _ _ => false
  | .ext _ _ => false
  | .nilc _ => false
  | .mki _ _ => false
  | .mkf _ _ _ => false
  | .mx _ _ => false
  | .mn _ _ => false
  | .call _ _ => true
  | .callc _ _ => true
  | .calll _ _ => true
  | .callf _ _ => true
  | .mvf _ => false
  | .bsli _ _ _ _ => false
  | .bsle => false
  | .bslz _ => false
  | .s2bi _ => false
  | .cvsl _ => false
  | .cvslf _ => false
  | .rng _ => false
  | .nxt _ => false
  | .mkm => false
  | .lku _ _ _ _ _ _ => false
  | .mup _ _ _ _ => false
  | .callv _ _ => true

theorem step_ok (o : Oper) (io : IOp) (hc : chkOp P nt o.op io = true) (hnc : isCall io = false) {v : Value} {H' : Heap}
    (hs : stepI env H io = some (v, H')) (hr : Rel ρ H w) (he : EnvR ρ H nt env a) : Done P (execOp a.eval o) w ρ H v H' := by
  obtain ⟨dst, op, type, pos, after, guard⟩ := o
  simp only [] at hc
  unfold chkOp at hc
  split at hc
  · -- move
    simp only [stepI] at hs
    obtain ⟨rfl, rfl⟩ := Prod.mk.inj (Option.some.inj hs)
    exact step_mv hc hr he
  · simp only [stepI] at hs
    obtain ⟨rfl, rfl⟩ := Prod.mk.inj (Option.some.inj hs)
    exact step_mv hc hr he
  · simp only [Bool.and_eq_true] at hc
    exact step_pick hc.1.1 hc.1.2 hc.2 hs hr he
  · simp only [Bool.and_eq_true] at hc
    obtain rfl := opEq_eq hc.1.1
    exact step_bin hc.1.2 hc.2 hs hr he
  · simp only [Bool.and_eq_true] at hc
    obtain ⟨⟨⟨h1, h2⟩, h3⟩, h4⟩ := hc
    split at h2
    · rename_i h2'
      exact step_eqb h1 h2' h3 h4 hs hr he
    · cases h2
  · simp only [Bool.and_eq_true, beq_iff_eq] at hc
    obtain ⟨⟨⟨⟨h1, h2⟩, h5⟩, h3⟩, h4⟩ := hc
    exact step_eqn h1 h2 h5 h3 h4 hs hr he
  · simp only [Bool.and_eq_true] at hc
    obtain ⟨⟨⟨h1, h2⟩, h3⟩, h4⟩ := hc
    exact step_eqs h1 h2 h3 h4 hs hr he
  · simp only [Bool.and_eq_true] at hc
    obtain ⟨h1, h2⟩ := hc
    split at h1
    · exact step_un h2 hs hr he
    · exact step_un h2 hs hr he
    · exact step_un h2 hs hr he
    · cases h1
  · simp only [Bool.and_eq_true] at hc
    exact step_conv hc.1.1 hc.1.2 hc.2 hs hr he
  · simp only [Bool.and_eq_true] at hc
    obtain ⟨⟨h1, h2⟩, h3⟩ := hc
    split at h1
    · rename_i h1'
      split at h2
      · rename_i h2'
        exact step_cvs h1' h2' h3 hs hr he
      · cases h2
    · cases h1
  · simp only [Bool.and_eq_true] at hc
    obtain ⟨⟨h1, h2⟩, h3⟩ := hc
    split at h1
    · rename_i e h4
      split at h1
      · rename_i h5
        split at h2
        · rename_i h2'
          exact step_b2s (elemT_some h4) h5 h2' h3 hs hr he
        · cases h2
      · cases h1
    · cases h1
  · simp only [Bool.and_eq_true] at hc
    obtain ⟨⟨h1, h2⟩, h3⟩ := hc
    split at h1
    · rename_i h1'
      split at h2
      · rename_i e h4
        split at h2
        · rename_i h5
          exact step_s2b h1' (elemT_some h4) h5 h3 hs hr he
        · cases h2
      · cases h2
    · cases h1
  · exact step_alloc hc hs hr
  · exact step_box hc hs hr he
  · simp only [Bool.and_eq_true, beq_iff_eq] at hc
    exact step_load hc.1 hc.2 hs hr he
  · simp only [Bool.and_eq_true, beq_iff_eq] at hc
    obtain ⟨⟨⟨h1, h2⟩, h3⟩, h4⟩ := hc
    exact step_loadN h1 h2 h4 h3 hs hr he
  · simp only [Bool.and_eq_true, beq_iff_eq] at hc
    obtain ⟨⟨⟨⟨h1, h2⟩, h3⟩, h4⟩, h5⟩ := hc
    exact step_store (by simpa using h3) h1 h2 h4 h5 hs hr he
  · simp only [Bool.and_eq_true] at hc
    obtain ⟨h1, h2⟩ := hc
    split at h1
    · rename_i fs hfs
      split at h1
      · rename_i fd hfd
        simp only [Bool.and_eq_true, beq_iff_eq, bne_iff_ne] at h1
        exact step_fa hfs hfd h1.1.1 h1.1.2 h1.2 h2 hs hr he
      · cases h1
    · cases h1
  · simp only [Bool.and_eq_true] at hc
    obtain ⟨h1, h2⟩ := hc
    split at h1
    · rename_i fs hfs
      split at h1
      · rename_i fd hfd
        simp only [Bool.and_eq_true, beq_iff_eq] at h1
        exact step_fld hfs hfd h1.1.1 h1.1.2 (by obtain ⟨_, h⟩ := h1; split at h <;> simpa using h) h2 hs hr he
      · cases h1
    · cases h1
  · simp only [Bool.and_eq_true] at hc
    obtain ⟨⟨h1, h2⟩, h3⟩ := hc
    split at h1
    · rename_i e h4
      simp only [Bool.and_eq_true, beq_iff_eq] at h1
      exact step_ixa (elemT_some h4) h1.1 h1.2 h2 h3 hs hr he
    · cases h1
  · simp only [Bool.and_eq_true] at hc
    obtain ⟨⟨h1, h2⟩, h3⟩ := hc
    split at h1
    · rename_i l e h4
      simp only [Bool.and_eq_true, beq_iff_eq] at h1
      obtain ⟨⟨rfl, h5⟩, h6⟩ := h1
      exact step_ixr h4 h5 h6 h2 h3 hs hr he
    · cases h1
  · simp only [Bool.and_eq_true] at hc
    obtain ⟨⟨h1, h2⟩, h3⟩ := hc
    split at h1
    · rename_i h1'
      exact step_ixs h1' h2 h3 hs hr he
    · cases h1
  · simp only [Bool.and_eq_true] at hc
    obtain ⟨⟨⟨⟨⟨h1, h2⟩, h3⟩, h4⟩, h5⟩, h6⟩ := hc
    split at h1
    · rename_i e h7
      simp only [Bool.and_eq_true, beq_iff_eq] at h1
      exact step_sle (elemT_some h7) h1.1 h1.2 h6 h2 h3 h4 h5 hs hr he
    · cases h1
  · simp only [Bool.and_eq_true] at hc
    obtain ⟨⟨⟨h1, h2⟩, h3⟩, h4⟩ := hc
    split at h1
    · rename_i l e h7
      simp only [Bool.and_eq_true, beq_iff_eq] at h1
      obtain ⟨⟨⟨rfl, h5⟩, h6⟩, h8⟩ := h1
      exact step_slr h7 h5 h6 (by simpa using h8) h2 h3 h4 hs hr he
    · cases h1
  · simp only [Bool.and_eq_true] at hc
    obtain ⟨⟨⟨h1, h2⟩, h3⟩, h4⟩ := hc
    split at h1
    · rename_i h1'
      exact step_sls h1' h2 h3 h4 hs hr he
    · cases h1
  · split at hc
    · rename_i x t h1 h2
      simp only [Bool.and_eq_true, beq_iff_eq] at hc
      exact (step_len h1 h2 hc.1 hc.2 hs hr he).congr (bltn_run ..)
    · cases hc
  · split at hc
    · rename_i x y t t2 h1 h2
      simp only [Bool.and_eq_true] at hc
      obtain ⟨⟨⟨h3, h4⟩, h5⟩, h6⟩ := hc
      split at h3
      · rename_i e h7
        simp only [Bool.and_eq_true, beq_iff_eq, Bool.not_eq_true'] at h3
        obtain ⟨⟨⟨⟨g1, g2⟩, g3⟩, g4⟩, g5⟩ := h3
        split at g5
        · rename_i l h8
          exact (step_app h1 h2 (elemT_some h7) g3 g1 g2 g4 h8 (Nat.eq_of_beq_eq_true g5) h4 h5 h6 hs hr he).congr (bltn_run ..)
        · cases g5
      · cases h3
    · cases hc
  · split at hc
    · rename_i x y t t2 h1 h2
      simp only [Bool.and_eq_true] at hc
      obtain ⟨⟨⟨h3, h4⟩, h5⟩, h6⟩ := hc
      split at h3
      · rename_i e h7
        simp only [Bool.and_eq_true, beq_iff_eq, Bool.not_eq_true'] at h3
        obtain ⟨⟨⟨⟨g1, g2⟩, g3⟩, g4⟩, g5⟩ := h3
        split at g5
        · rename_i l h8
          exact (step_appf h1 h2 (elemT_some h7) g3 g1 g2 g4 h8 (Nat.eq_of_beq_eq_true g5) h4 h5 h6 hs hr he).congr (bltn_run ..)
        · cases g5
      · cases h3
    · cases hc
  · split at hc
    · rename_i x y t t2 h1 h2
      simp only [Bool.and_eq_true] at hc
      obtain ⟨⟨⟨h3, h4⟩, h5⟩, h6⟩ := hc
      split at h3
      · rename_i e h7
        simp only [Bool.and_eq_true, beq_iff_eq, Bool.not_eq_true'] at h3
        obtain ⟨⟨⟨⟨g1, g2⟩, g3⟩, g4⟩, g5⟩ := h3
        split at g5
        · rename_i l h8
          exact (step_cpy h1 h2 (elemT_some h7) g3 g1 g2 g4 h8 (Nat.eq_of_beq_eq_true g5) h4 h5 h6 hs hr he).congr (bltn_run ..)
        · cases g5
      · cases h3
    · cases hc
  · split at hc
    · rename_i x y t t2 h1 h2
      simp only [Bool.and_eq_true] at hc
      obtain ⟨⟨⟨h3, h4⟩, h5⟩, h6⟩ := hc
      split at h3
      · rename_i e h7
        simp only [Bool.and_eq_true, beq_iff_eq, Bool.not_eq_true'] at h3
        obtain ⟨⟨⟨⟨g1, g2⟩, g3⟩, g4⟩, g5⟩ := h3
        split at g5
        · rename_i z' h8
          simp only [Bool.and_eq_true] at g5
          split at h4
          · rename_i kk h9
            exact (step_appz h1 h2 (elemT_some h7) g3 g1 g2 g4 h8 g5.1 g5.2 h9 h5 h6 hs hr he).congr (bltn_run ..)
          · cases h4
        · cases g5
      · cases h3
    · cases hc
  · simp only [Bool.and_eq_true, Bool.not_eq_true'] at hc
    obtain ⟨⟨⟨⟨h1, h2⟩, h3⟩, h4⟩, h5⟩ := hc
    have h2 := Nat.eq_of_beq_eq_true h2
    subst h2
    split at h1
    · rename_i e h6
      simp only [Bool.and_eq_true, beq_iff_eq] at h1
      obtain ⟨⟨g1, g2⟩, g3⟩ := h1
      split at g3
      · rename_i l h7
        simp only [Bool.and_eq_true] at g3
        exact step_bsl (elemT_some h6) g1 g2 h7 g3.1.1 (Nat.eq_of_beq_eq_true g3.1.2) g3.2 (Nat.le_of_ble_eq_true h3) h4 h5 hs hr he
      · cases g3
    · cases h1
  · simp only [Bool.and_eq_true] at hc
    exact step_bld hc.1 hc.2 hs hr he
  · simp only [Bool.and_eq_true, Bool.not_eq_true'] at hc
    obtain ⟨⟨⟨h1, h2⟩, h3⟩, h4⟩ := hc
    split at h1
    · rename_i e h6
      simp only [Bool.and_eq_true, beq_iff_eq] at h1
      obtain ⟨⟨⟨g1, g2⟩, g3⟩, g4⟩ := h1
      split at g4
      · rename_i z' h7
        simp only [Bool.and_eq_true] at g4
        exact step_mks (elemT_some h6) g3 g1 g2 h7 g4.1 g4.2 h4 h2 h3 hs hr he
      · cases g4
    · cases h1
  · simp only [Bool.and_eq_true] at hc
    obtain ⟨h1, h2⟩ := hc
    have h1 := Nat.eq_of_beq_eq_true h1
    subst h1
    exact step_ext h2 hs hr he
  · exact step_nilc hc hs hr he _ rfl
  · simp only [Bool.and_eq_true] at hc
    obtain ⟨⟨h1, h2⟩, h3⟩ := hc
    have h1 := Nat.eq_of_beq_eq_true h1
    subst h1
    exact step_mki (by split at h2 <;> simp_all) h3 hs hr he
  · simp only [Bool.and_eq_true] at hc
    obtain ⟨⟨h1, h2⟩, h3⟩ := hc
    have h1 := Nat.eq_of_beq_eq_true h1
    subst h1
    exact step_mkf h2 h3 hs hr he
  · split at hc
    · rename_i x y h1
      simp only [Bool.and_eq_true] at hc
      exact (step_mx h1 hc.1 hc.2 hs hr he).congr (bltn_run ..)
    · cases hc
  · split at hc
    · rename_i x y h1
      simp only [Bool.and_eq_true] at hc
      exact (step_mn h1 hc.1 hc.2 hs hr he).congr (bltn_run ..)
    · cases hc
  · cases hnc
  · cases hnc
  · cases hnc
  · cases hnc
  · exact step_mvf hc hs hr he
  · exact step_mvf hc hs hr he
  · simp only [Bool.and_eq_true, Bool.not_eq_true'] at hc
    obtain ⟨⟨⟨⟨h1, h2⟩, h3⟩, h4⟩, h5⟩ := hc
    have h2 := Nat.eq_of_beq_eq_true h2
    subst h2
    split at h1
    · rename_i e h6
      simp only [Bool.and_eq_true, beq_iff_eq] at h1
      obtain ⟨⟨g1, g2⟩, g3⟩ := h1
      split at g3
      · rename_i l h7
        simp only [Bool.and_eq_true] at g3
        exact step_bsli (elemT_some h6) g1 g2 h7 g3.1.1 (Nat.eq_of_beq_eq_true g3.1.2) g3.2 (Nat.le_of_ble_eq_true h3) h4 h5 hs hr he
      · cases g3
    · cases h1
  · simp only [Bool.and_eq_true] at hc
    obtain ⟨⟨h1, h2⟩, h3⟩ := hc
    have h1 := Nat.eq_of_beq_eq_true h1
    subst h1
    split at h3
    · rename_i e h4
      exact step_bsle (elemT_some h4) h3 (Nat.eq_of_beq_eq_true h2) hs hr
    · cases h3
  · simp only [Bool.and_eq_true] at hc
    obtain ⟨⟨h1, h2⟩, h3⟩ := hc
    have h1 := Nat.eq_of_beq_eq_true h1
    subst h1
    split at h3
    · rename_i e h4
      simp only [Bool.and_eq_true] at h3
      exact step_bslz (elemT_some h4) h3.1 (Nat.eq_of_beq_eq_true h2) hs hr
    · cases h3
  · simp only [Bool.and_eq_true] at hc
    obtain ⟨⟨h1, h2⟩, h3⟩ := hc
    split at h1
    · rename_i h1'
      split at h2
      · rename_i e h4
        split at h2
        · rename_i h5
          exact step_s2bi h1' (elemT_some h4) h5 h3 hs hr he
        · cases h2
      · cases h2
    · cases h1
  · simp only [Bool.and_eq_true] at hc
    obtain ⟨⟨h1, h2⟩, h3⟩ := hc
    split at h2
    · rename_i e h4
      split at h2
      · rename_i h5
        exact step_cvsl h1 (elemT_some h4) h5 h3 hs hr he
      · cases h2
    · cases h2
  · simp only [Bool.and_eq_true] at hc
    obtain ⟨⟨h1, h2⟩, h3⟩ := hc
    split at h2
    · rename_i e h4
      split at h2
      · rename_i h5
        exact step_cvslf h1 (elemT_some h4) h5 h3 hs hr he
      · cases h2
    · cases h2
  · simp only [Bool.and_eq_true] at hc
    obtain ⟨h1, h2⟩ := hc
    split at h1
    · rename_i h1'
      exact step_rng h1' h2 hs hr he
    · cases h1
  · simp only [Bool.and_eq_true] at hc
    obtain ⟨rfl, h2⟩ := hc
    exact step_nxt h2 hs hr he
  · exact step_mkm hs hr
  · simp only [Bool.and_eq_true, beq_iff_eq] at hc
    obtain ⟨⟨⟨h1, rfl⟩, h3⟩, h4⟩ := hc
    split at h1
    · rename_i key elem h5
      simp only [Bool.and_eq_true, beq_iff_eq] at h1
      obtain ⟨g1, g2⟩ := h1
      split at g2
      · rename_i zv h6
        exact step_lku h5 g1 h6 g2 h3 h4 hs hr he
      · cases g2
    · cases h1
  · simp only [Bool.and_eq_true] at hc
    obtain ⟨⟨⟨h1, h2⟩, h3⟩, h4⟩ := hc
    split at h1
    · rename_i key elem h5
      exact step_mup h5 (by simpa using h1) h2 h3 h4 hs hr he
    · cases h1
  · cases hnc
  · cases hc

end
end Go.Proofs.Ytdkdifjjpbfohaa.Fw
