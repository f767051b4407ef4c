/- Code and functions. -/
import Derived.Test.YtdkdifjjpbfohaaFw16
namespace Go.Proofs.Ytdkdifjjpbfohaa.Fw
open Go

inductive ICode where
  | skip
  | reg (ss : List IStmt)
  | dreg (ss : List IStmt) (cks : List (Nat × Nat))
  | seq (a b : ICode)
  | cond (c : Opd) (a b : ICode)
  | block (id : Nat) (a : ICode)
  | loop (a : ICode)
  | exit (id : Nat)
  | ret
inductive IRes where
  | tmp (t : Nat)
  | cell (t : Nat) (n : Option Nat)
structure IFn where
  nt : Nat
  res : List IRes
  code : ICode

def chkC (P : Program) (nt : Nat) : Code → ICode → Bool
  | .skip, .skip => true
  | .region _ ops draw, .reg ss => !draw && chkL P nt ops.toList ss
  | .region _ ops draw, .dreg ss cks => draw && chkD P nt ops ss cks
  | .seq a b, .seq c d => chkC P nt a c && chkC P nt b d
  | .cond c a b, .cond c' a' b' => chkO nt c c' && chkC P nt a a' && chkC P nt b b'
  | .block id a, .block id' a' => Nat.beq id id' && chkC P nt a a'
  | .loop a, .loop a' => chkC P nt a a'
  | .exit id, .exit id' => Nat.beq id id'
  | .ret, .ret => true
  | _, _ => false
def chkR (P : Program) (nt : Nat) : List ResultVar → List IRes → Bool
  | [], [] => true
  | .tmp t :: l, .tmp t' :: m => Nat.beq t t' && Nat.blt t nt && chkR P nt l m
  | .cell t ty :: l, .cell t' none :: m => Nat.beq t t' && Nat.blt t nt && tyAgg P ty == some false && chkR P nt l m
  | .cell t ty :: l, .cell t' (some n) :: m => Nat.beq t t' && Nat.blt t nt && tyAgg P ty == some true && Nat.beq (P.cellsOf ty) n && (P.info? ty).isSome && chkR P nt l m
  | _, _ => false
def chkF (P : Program) (f : Nat) (fn : IFn) : Bool :=
  match P.funcs[f]? with
  | some g => bodied P f && Nat.beq g.ntmps fn.nt && chkR P fn.nt g.results.toList fn.res && (match g.body with | some c => chkC P fn.nt c fn.code | none => false)
  | none => false

inductive Ex where
  | normal
  | exit (id : Nat)
  | ret

def loopN (body : Env → Heap → Option (Ex × Env × Heap)) : Nat → Env → Heap → Option (Ex × Env × Heap)
  | 0, _, _ => none
  | m + 1, env, H =>
    match body env H with
    | some (.normal, e, h) => loopN body m e h
    | r => r

open Classical in
noncomputable def evalC (call : CallE) (n : Nat) : ICode → Env → Heap → Option (Ex × Env × Heap)
  | .skip, env, H => some (.normal, env, H)
  | .reg ss, env, H => (evalS call ss ss env H).map fun r => (.normal, r.1, r.2)
  | .dreg ss cks, env, H => bif cks.isEmpty then (evalS call ss ss env H).map fun r => (.normal, r.1, r.2) else
    (trS call ss ss env H).bind fun tr => if ∀ c ∈ cks, ckOk ss tr c then tr.getLast?.map fun r => (.normal, r.1, r.2) else none
  | .seq a b, env, H =>
    match evalC call n a env H with
    | some (.normal, e, h) => evalC call n b e h
    | r => r
  | .cond c a b, env, H =>
    match c.ev env with
    | .bool true => evalC call n a env H
    | .bool false => evalC call n b env H
    | _ => none
  | .block id a, env, H =>
    match evalC call n a env H with
    | some (.exit id', e, h) => bif Nat.beq id' id then some (.normal, e, h) else some (.exit id', e, h)
    | r => r
  | .loop a, env, H => loopN (evalC call n a) n env H
  | .exit id, env, H => some (.exit id, env, H)
  | .ret, env, H => some (.ret, env, H)

def evalR (env : Env) (H : Heap) : List IRes → Option (List Value)
  | [] => some []
  | .tmp t :: l => (evalR env H l).map (env t :: ·)
  | .cell t none :: l => ((stepI env H (.load (.t t))).map (·.1)).bind fun v => (evalR env H l).map (v :: ·)
  | .cell t (some n) :: l => ((stepI env H (.loadN n (.t t))).map (·.1)).bind fun v => (evalR env H l).map (v :: ·)
def one : List Value → Value
  | [v] => v
  | vs => .tuple vs.toArray
def ini (args : List Value) : Env := fun i => args.getD i undef

noncomputable def evalF (T : Nat → Option IFn) : Nat → CallE
  | 0, _, _, _ => none
  | n + 1, f, args, H =>
    match T f with
    | none => none
    | some fn =>
      bif Nat.ble args.length fn.nt then
        match evalC (evalF T n) n fn.code (ini args) H with
        | some (.exit _, _, _) => none
        | some (_, env, H') => (evalR env H' fn.res).map fun vs => (one vs, H')
        | none => none
      else none

section
variable {P : Program} {nt : Nat} {call : CallE}

theorem wp_loop_idx {c : Code} {Q : Exit → Act → World → Prop} (I : Nat → Act → World → Prop)
    (round : ∀ m a w, I m a w → c.wp P (Exit.then (fun a' w' => ∃ m', m' < m ∧ I m' a' w') Q) a w) {m : Nat} {a : Act} {w : World} (h0 : I m a w) : (Code.loop c).wp P Q a w := by
  intro b k cs
  have key : ∀ n a w, I n a w →
      ∃ e a' w', Q e a' w' ∧ Arrives P (lone (b.at a (.code c :: .inLoop c :: k)) cs w) b k cs e a' w' := by
    intro n
    induction n using Nat.strongRecOn with
    | _ n ih =>
      intro a w hI
      obtain ⟨e, a1, w1, hq, harr⟩ := round n a w hI b (.inLoop c :: k) cs
      cases e with
      | normal =>
        obtain ⟨m', hlt, hI1⟩ := hq
        obtain ⟨e2, a2, w2, hq2, harr2⟩ := ih m' hlt a1 w1 hI1
        exact ⟨e2, a2, w2, hq2, .of_steps (Steps.trans harr (.one step_inLoop)) harr2⟩
      | exit id => exact ⟨_, a1, w1, hq, .pass (x := .inLoop c) rfl (fun _ _ => .inl (by simp)) harr⟩
      | goto l => exact ⟨_, a1, w1, hq, .pass (x := .inLoop c) rfl (fun _ _ => .inl (by simp)) harr⟩
      | ret => exact ⟨_, a1, w1, hq, .pass (x := .inLoop c) rfl (fun _ _ => .inl (by simp)) harr⟩
      | panic ch => exact ⟨_, a1, w1, hq, .pass (x := .inLoop c) rfl (fun _ _ => .inl (by simp)) harr⟩
      | outgrown => exact ⟨_, a1, w1, hq, .pass (x := .inLoop c) rfl (fun _ _ => .inl (by simp)) harr⟩
  obtain ⟨e, a', w', hq, harr⟩ := key m a w h0
  exact ⟨e, a', w', hq, .of_steps (.one step_loop) harr⟩

def Ex.to : Ex → Exit
  | .normal => .normal
  | .exit id => .exit id
  | .ret => .ret

theorem trS_of_evalS {call : CallE} {all : List IStmt} : ∀ {l : List IStmt} {env : Env} {H : Heap} {e : Env} {h : Heap}, evalS call all l env H = some (e, h) → ∃ tr, trS call all l env H = some tr ∧ tr.getLast? = some (e, h)
  | [], env, H, e, h, hs => by cases hs; exact ⟨_, rfl, rfl⟩
  | s :: l, env, H, e, h, hs => by
    simp only [evalS, Option.bind_eq_some_iff] at hs
    obtain ⟨r, h1, h2⟩ := hs
    obtain ⟨tr, h3, h4⟩ := trS_of_evalS h2
    refine ⟨(env, H) :: tr, by simp only [trS, h1, Option.bind_some, h3, Option.map_some], ?_⟩
    rw [List.getLast?_cons, h4]
    rfl
theorem evalS_of_trS {call : CallE} {all : List IStmt} : ∀ {l : List IStmt} {env : Env} {H : Heap} {tr : List (Env × Heap)} {e : Env} {h : Heap}, trS call all l env H = some tr → tr.getLast? = some (e, h) → evalS call all l env H = some (e, h)
  | [], env, H, tr, e, h, h1, h2 => by cases h1; cases h2; rfl
  | s :: l, env, H, tr, e, h, h1, h2 => by
    simp only [trS, Option.bind_eq_some_iff, Option.map_eq_some_iff] at h1
    obtain ⟨r, h5, t, h6, rfl⟩ := h1
    simp only [evalS, h5, Option.bind_some]
    refine evalS_of_trS h6 ?_
    cases t with
    | nil => have := (trS_spec h6).1; simp at this
    | cons q t => rw [List.getLast?_cons_cons] at h2; exact h2
theorem evalC_ok (hcall : CallOk P call) (hm : P.follows .mixedOrders = true) {n : Nat} {ρ0 : RP} {H0 : Heap} {w0 : World} : ∀ (ic : ICode) (c : Code), chkC P nt c ic = true → ∀ (env : Env) (H : Heap) (x : Ex) (env' : Env) (H' : Heap),
    evalC call n ic env H = some (x, env', H') → ∀ (ρ : RP) (a : Act) (w : World), At P nt ρ0 H0 w0 ρ env H a w → ∀ (Q : Exit → Act → World → Prop),
      (∀ a' w' ρ', At P nt ρ0 H0 w0 ρ' env' H' a' w' → Q x.to a' w') → c.wp P Q a w := by
  intro ic
  induction ic with
  | skip =>
    intro c hc env H x env' H' he ρ a w hat Q hQ
    cases c <;> first | (cases hc; done) | skip
    obtain ⟨rfl, h⟩ := Prod.mk.inj (Option.some.inj he)
    obtain ⟨rfl, rfl⟩ := Prod.mk.inj h
    exact wp_skip (hQ _ _ _ hat)
  | reg ss =>
    intro c hc env H x env' H' he ρ a w hat Q hQ
    cases c <;> first | (cases hc; done) | skip
    rename_i id ops draw
    simp only [chkC, Bool.and_eq_true, Bool.not_eq_true'] at hc
    obtain ⟨rfl, hc⟩ := hc
    simp only [evalC, Option.map_eq_some_iff] at he
    obtain ⟨⟨e1, h1⟩, h2, h3⟩ := he
    obtain ⟨rfl, h⟩ := Prod.mk.inj h3
    obtain ⟨rfl, rfl⟩ := Prod.mk.inj h
    refine wp_region ?_
    have := evalS_ok hcall hc (ρ0 := ρ0) (H0 := H0) (w0 := w0) hQ ss 0 env H ρ a w rfl hat h2
    rw [Nat.sub_zero] at this
    rw [List.range_eq_range']
    exact this
  | dreg ss bs =>
    intro c hc env H x env' H' he ρ a w hat Q hQ
    cases c <;> first | (cases hc; done) | skip
    rename_i id ops draw
    simp only [chkC, Bool.and_eq_true] at hc
    obtain ⟨rfl, hc⟩ := hc
    simp only [chkD, Bool.and_eq_true, List.all_eq_true] at hc
    simp only [evalC] at he
    cases hem : bs.isEmpty with
    | true =>
      rw [hem, cond_true] at he
      simp only [Option.map_eq_some_iff] at he
      obtain ⟨⟨e1, h1'⟩, h2, h3⟩ := he
      obtain ⟨rfl, h⟩ := Prod.mk.inj h3
      obtain ⟨rfl, rfl⟩ := Prod.mk.inj h
      obtain ⟨tr, h4, h5⟩ := trS_of_evalS h2
      have hbs : bs = [] := List.isEmpty_iff.1 hem
      exact dreg_ok hcall hm hc.1 h4 (fun c hcm => by have := hc.2 c hcm; rw [hbs] at this; simp at this) h5 hat hQ
    | false =>
      rw [hem, cond_false] at he
      simp only [Option.bind_eq_some_iff] at he
      obtain ⟨tr, h1, h2⟩ := he
      split at h2
      · rename_i hck
        simp only [Option.map_eq_some_iff] at h2
        obtain ⟨⟨e1, h1'⟩, h2, h3⟩ := h2
        obtain ⟨rfl, h⟩ := Prod.mk.inj h3
        obtain ⟨rfl, rfl⟩ := Prod.mk.inj h
        exact dreg_ok hcall hm hc.1 h1 (fun c hcm => hck c (by simpa using hc.2 c hcm)) h2 hat hQ
      · cases h2
  | seq a b iha ihb =>
    intro c hc env H x env' H' he ρ a w hat Q hQ
    cases c <;> first | (cases hc; done) | skip
    rename_i ca cb
    simp only [chkC, Bool.and_eq_true] at hc
    simp only [evalC] at he
    refine wp_seq ?_
    split at he
    · rename_i e h h1
      exact iha ca hc.1 _ _ _ _ _ h1 ρ _ _ hat _ fun a' w' ρ' hat' => ihb cb hc.2 _ _ _ _ _ he ρ' a' w' hat' Q hQ
    · rename_i h1
      refine iha ca hc.1 _ _ _ _ _ he ρ _ _ hat _ fun a' w' ρ' hat' => ?_
      cases x with
      | normal => exact absurd he (h1 _ _)
      | exit id => exact hQ a' w' ρ' hat'
      | ret => exact hQ a' w' ρ' hat'
  | cond c0 a b iha ihb =>
    intro c hc env H x env' H' he ρ a w hat Q hQ
    cases c <;> first | (cases hc; done) | skip
    rename_i c1 ca cb
    simp only [chkC, Bool.and_eq_true] at hc
    simp only [evalC] at he
    have hv := opd_ok hc.1.1 hat.env
    split at he
    · rename_i h1
      rw [h1] at hv
      exact wp_cond_true hv.bool_inv (iha ca hc.1.2 _ _ _ _ _ he ρ _ _ hat _ hQ)
    · rename_i h1
      rw [h1] at hv
      exact wp_cond_false hv.bool_inv (ihb cb hc.2 _ _ _ _ _ he ρ _ _ hat _ hQ)
    · cases he
  | block id a ih =>
    intro c hc env H x env' H' he ρ a w hat Q hQ
    cases c <;> first | (cases hc; done) | skip
    rename_i id' ca
    simp only [chkC, Bool.and_eq_true] at hc
    have h1 := Nat.eq_of_beq_eq_true hc.1
    subst h1
    simp only [evalC] at he
    refine wp_block ?_
    split at he
    · rename_i i2 e h h1
      refine ih ca hc.2 _ _ _ _ _ h1 ρ _ _ hat _ fun a' w' ρ' hat' => ?_
      show Exit.inBlock id' Q (.exit i2) a' w'
      simp only [Exit.inBlock]
      cases hb : Nat.beq i2 id' with
      | true =>
        rw [hb] at he
        obtain ⟨rfl, hh⟩ := Prod.mk.inj (Option.some.inj he)
        obtain ⟨rfl, rfl⟩ := Prod.mk.inj hh
        rw [if_pos (Nat.eq_of_beq_eq_true hb)]
        exact hQ a' w' ρ' hat'
      | false =>
        rw [hb] at he
        obtain ⟨rfl, hh⟩ := Prod.mk.inj (Option.some.inj he)
        obtain ⟨rfl, rfl⟩ := Prod.mk.inj hh
        rw [if_neg (fun hq => by rw [hq, Nat.beq_refl] at hb; cases hb)]
        exact hQ a' w' ρ' hat'
    · rename_i h1
      refine ih ca hc.2 _ _ _ _ _ he ρ _ _ hat _ fun a' w' ρ' hat' => ?_
      cases x with
      | normal => exact hQ a' w' ρ' hat'
      | exit id => exact absurd he (h1 _ _ _)
      | ret => exact hQ a' w' ρ' hat'
  | loop a ih =>
    intro c hc env H x env' H' he ρ a w hat Q hQ
    cases c <;> first | (cases hc; done) | skip
    rename_i ca
    simp only [chkC] at hc
    simp only [evalC] at he
    refine wp_loop_idx (fun m a w => ∃ ρ env H, At P nt ρ0 H0 w0 ρ env H a w ∧ loopN (evalC call n _) m env H = some (x, env', H')) (fun m a w hI => ?_) (m := n) ⟨ρ, env, H, hat, he⟩
    obtain ⟨ρ, env, H, hat, hl⟩ := hI
    cases m with
    | zero => cases hl
    | succ m =>
      simp only [loopN] at hl
      split at hl
      · rename_i e h h1
        exact ih ca hc _ _ _ _ _ h1 ρ _ _ hat _ fun a' w' ρ' hat' => ⟨m, Nat.lt_succ_self m, ρ', e, h, hat', hl⟩
      · rename_i h1
        refine ih ca hc _ _ _ _ _ hl ρ _ _ hat _ fun a' w' ρ' hat' => ?_
        cases x with
        | normal => exact absurd hl (h1 _ _)
        | exit id => exact hQ a' w' ρ' hat'
        | ret => exact hQ a' w' ρ' hat'
  | exit id =>
    intro c hc env H x env' H' he ρ a w hat Q hQ
    cases c <;> first | (cases hc; done) | skip
    have h1 := Nat.eq_of_beq_eq_true hc
    subst h1
    obtain ⟨rfl, h⟩ := Prod.mk.inj (Option.some.inj he)
    obtain ⟨rfl, rfl⟩ := Prod.mk.inj h
    exact wp_exit (hQ _ _ _ hat)
  | ret =>
    intro c hc env H x env' H' he ρ a w hat Q hQ
    cases c <;> first | (cases hc; done) | skip
    obtain ⟨rfl, h⟩ := Prod.mk.inj (Option.some.inj he)
    obtain ⟨rfl, rfl⟩ := Prod.mk.inj h
    exact wp_ret (hQ _ _ _ hat)

theorem load_cell {env : Env} {H : Heap} {ρ : RP} {w : World} {a : Act} {t : Nat} {ty : TypeId} (ht : tyAgg P ty = some false) (htn : t < nt) {v : Value} {H' : Heap}
    (hs : stepI env H (.load (.t t)) = some (v, H')) (hr : Rel ρ H w) (he : EnvR ρ H nt env a) : ∃ v', (do loadVar ty (← asAddr (a.tmps.getD t undef))).run P w = .ok v' w ∧ VR ρ H v v' := by
  have hx := he t htn
  simp only [Act.eval] at hx
  simp only [stepI, Opd.ev, loadI] at hs
  split at hs
  · rename_i ad h4
    rw [h4] at hx
    split at hs
    · rename_i v0 l hc
      obtain ⟨rfl, rfl⟩ := Prod.mk.inj (Option.some.inj hs)
      obtain ⟨e, ro, u, cs, q1, q2, q3, q4⟩ := cellsAt_some hc
      have hp := hx.ptr_inv q1 q2 (by rw [q3]; rfl)
      obtain ⟨_, x', h5, h6⟩ := cell_at (j := 0) (x := v0) hr q1 q3 (by rw [← q4]; rfl)
      rw [hp]
      refine ⟨x', ?_, h6⟩
      simp only [asAddr, Sem.run_bind, Sem.run_pure, Result.andThen_ok, loadVar, run_isAgg ht, Bool.false_eq_true, if_false, run_load]
      rw [Nat.add_zero] at h5
      rw [h5]
    · cases hs
  · rename_i tt mm f cs h4
    rw [h4] at hx
    split at hs
    · rename_i v0 l hc
      obtain ⟨rfl, rfl⟩ := Prod.mk.inj (Option.some.inj hs)
      obtain ⟨_, _, _, b, off, c, hv, q1, q2, q3, q4⟩ := hx.iptr_inv
      have hc0 : cs.toList[0]? = some v0 := by rw [hc]; rfl
      rw [Array.getElem?_toList] at hc0
      obtain ⟨h5, rfl⟩ := Array.getElem?_eq_some_iff.1 hc0
      have h6 := q2 0 h5
      rw [hv]
      refine ⟨_, ?_, q4 0 h5 h6⟩
      simp only [asAddr, Sem.run_bind, Sem.run_pure, Result.andThen_ok, loadVar, run_isAgg ht, Bool.false_eq_true, if_false, run_load]
      rw [fz_cell hr q1 (show off < c.size from h6)]
      rfl
    · cases hs
  · cases hs
theorem load_cells {env : Env} {H : Heap} {ρ : RP} {w : World} {a : Act} {t n : Nat} {ty : TypeId} (ht : tyAgg P ty = some true) (hn : P.cellsOf ty = n) (hi : (P.info? ty).isSome = true) (htn : t < nt) {v : Value} {H' : Heap}
    (hs : stepI env H (.loadN n (.t t)) = some (v, H')) (hr : Rel ρ H w) (he : EnvR ρ H nt env a) : ∃ v', (do loadVar ty (← asAddr (a.tmps.getD t undef))).run P w = .ok v' w ∧ VR ρ H v v' := by
  have hx := he t htn
  simp only [Act.eval] at hx
  simp only [stepI, Opd.ev, loadNI] at hs
  split at hs
  · rename_i ad h4
    rw [h4] at hx
    split at hs
    · rename_i l hc
      simp only [Option.map_eq_some_iff] at hs
      obtain ⟨r, hrd, h2⟩ := hs
      obtain ⟨rfl, rfl⟩ := Prod.mk.inj h2
      obtain ⟨e, ro, u, cs, q1, q2, q3, q4⟩ := cellsAt_some hc
      have hp := hx.ptr_inv q1 q2 (by rw [q3]; rfl)
      obtain ⟨h5, h6⟩ := rdN_some hrd
      obtain ⟨r', h7, _, h8⟩ := read_list (off := ad.off) hr q1 q3 r 0 (fun j x hx => by rw [Nat.zero_add, ← q4]; exact h6 j x hx)
      have hrun := run_loadCells_list (P := P) w ⟨(ρ ad.block).block, (ρ ad.block).base + ad.off, none⟩ r' (fun j v hv => by rw [addr_add]; have := h8 j v hv; rwa [Nat.add_zero] at this)
      rw [hp]
      refine ⟨.agg r'.toArray, ?_, VRs.agg (by simpa using h7)⟩
      have hlen : r'.length = n := by rw [← h7.1, h5]
      rw [hlen] at hrun
      simp only [asAddr, Sem.run_bind, Sem.run_pure, Result.andThen_ok, loadVar, run_isAgg ht, if_true, run_sizeOf' hi, hn, hrun]
    · cases hs
  · rename_i tt mm f cs h4
    rw [h4] at hx
    simp only [Option.map_eq_some_iff] at hs
    obtain ⟨r, hrd, h2⟩ := hs
    obtain ⟨rfl, rfl⟩ := Prod.mk.inj h2
    obtain ⟨_, _, _, b, off, c, hv, q1, q2, q3, q4⟩ := hx.iptr_inv
    obtain ⟨h5, h6⟩ := rdN_some hrd
    obtain ⟨r', h7, h8⟩ := read_fz (w := w) hr q1 q2 q4 r 0 (fun j x hx => by rw [Nat.zero_add]; exact h6 j x hx)
    have hrun := run_loadCells_list (P := P) w ⟨b, off, none⟩ r' (fun j v hv => by rw [addr_add]; have := h8 j v hv; rwa [Nat.add_zero] at this)
    rw [hv]
    refine ⟨.agg r'.toArray, ?_, VRs.agg (by simpa using h7)⟩
    have hlen : r'.length = n := by rw [← h7.1, h5]
    rw [hlen] at hrun
    simp only [asAddr, Sem.run_bind, Sem.run_pure, Result.andThen_ok, loadVar, run_isAgg ht, if_true, run_sizeOf' hi, hn, hrun]
  · cases hs

theorem evalR_ok {env : Env} {H : Heap} {ρ : RP} {w : World} {a : Act} (hr : Rel ρ H w) (he : EnvR ρ H nt env a) :
    ∀ {rs : List ResultVar} {is : List IRes} {vs : List Value}, chkR P nt rs is = true → evalR env H is = some vs → ∃ vs', VRs ρ H vs vs' ∧
      ∀ f : ResultVar → Sem Value, (∀ u, f (.tmp u) = pure (a.tmps.getD u undef)) → (∀ t ty, f (.cell t ty) = (do loadVar ty (← asAddr (a.tmps.getD t undef)))) → (rs.mapM f).run P w = .ok vs' w := by
  intro rs
  induction rs with
  | nil =>
    intro is vs hc hs
    cases is with
    | nil =>
      obtain rfl := Option.some.inj hs
      exact ⟨[], VRs.nil _ _, fun f _ _ => by simp⟩
    | cons i is => cases i <;> cases hc
  | cons r rs ih =>
    intro is vs hc hs
    cases is with
    | nil => cases r <;> cases hc
    | cons i is =>
      cases r with
      | tmp t =>
        cases i with
        | tmp t' =>
          simp only [chkR, Bool.and_eq_true] at hc
          obtain ⟨⟨h1, h2⟩, h3⟩ := hc
          have h1 := Nat.eq_of_beq_eq_true h1
          subst h1
          simp only [evalR, Option.map_eq_some_iff] at hs
          obtain ⟨vs2, h4, rfl⟩ := hs
          obtain ⟨vs', g2, g1⟩ := ih h3 h4
          refine ⟨a.tmps.getD t undef :: vs', VRs.cons (he t (by simpa using h2)) g2, fun f hf hfc => ?_⟩
          simp [List.mapM_cons, hf, g1 f hf hfc]
        | cell t' n => cases hc
      | cell t ty =>
        cases i with
        | tmp t' => cases hc
        | cell t' n =>
          cases n with
          | none =>
            simp only [chkR, Bool.and_eq_true, beq_iff_eq] at hc
            obtain ⟨⟨⟨h1, h2⟩, h5⟩, h3⟩ := hc
            have h1 := Nat.eq_of_beq_eq_true h1
            subst h1
            simp only [evalR, Option.bind_eq_some_iff, Option.map_eq_some_iff] at hs
            obtain ⟨v, ⟨⟨v2, H2⟩, h6, rfl⟩, vs2, h4, rfl⟩ := hs
            obtain ⟨vs', g2, g1⟩ := ih h3 h4
            obtain ⟨v', g3, g4⟩ := load_cell h5 (by simpa using h2) h6 hr he
            refine ⟨v' :: vs', VRs.cons g4 g2, fun f hf hfc => ?_⟩
            rw [List.mapM_cons, hfc]
            simp only [Sem.run_bind] at g3 ⊢
            rw [g3]
            simp [g1 f hf hfc]
          | some n =>
            simp only [chkR, Bool.and_eq_true, beq_iff_eq] at hc
            obtain ⟨⟨⟨⟨⟨h1, h2⟩, h5⟩, h7⟩, h8⟩, h3⟩ := hc
            have h1 := Nat.eq_of_beq_eq_true h1
            subst h1
            simp only [evalR, Option.bind_eq_some_iff, Option.map_eq_some_iff] at hs
            obtain ⟨v, ⟨⟨v2, H2⟩, h6, rfl⟩, vs2, h4, rfl⟩ := hs
            obtain ⟨vs', g2, g1⟩ := ih h3 h4
            obtain ⟨v', g3, g4⟩ := load_cells h5 (Nat.eq_of_beq_eq_true h7) h8 (by simpa using h2) h6 hr he
            refine ⟨v' :: vs', VRs.cons g4 g2, fun f hf hfc => ?_⟩
            rw [List.mapM_cons, hfc]
            simp only [Sem.run_bind] at g3 ⊢
            rw [g3]
            simp [g1 f hf hfc]

theorem results_ok {env : Env} {H : Heap} {ρ : RP} {w : World} {a : Act} {fn : Func} {is : List IRes} {vs : List Value} (hr : Rel ρ H w) (he : EnvR ρ H nt env a) (hc : chkR P nt fn.results.toList is = true) (hs : evalR env H is = some vs) :
    ∃ v', (results fn a.tmps).run P w = .ok v' w ∧ VR ρ H (one vs) v' := by
  have hrs : fn.results = fn.results.toList.toArray := by simp
  obtain ⟨vs', h2, h1⟩ := evalR_ok (P := P) hr he hc hs
  unfold results
  rw [hrs, List.mapM_toArray]
  simp only [Sem.run_bind, Sem.run_map]
  rw [h1 _ (fun _ => rfl) (fun _ _ => rfl)]
  match vs, vs', h2 with
  | [], vs', h2 =>
    rw [h2.nil_inv]
    exact ⟨.tuple #[], by simp, .plain _ rfl⟩
  | [x], vs', h2 =>
    obtain ⟨x', t, rfl, g1, g2⟩ := h2.head
    rw [g2.nil_inv]
    exact ⟨x', by simp, g1⟩
  | x :: y :: l, vs', h2 =>
    obtain ⟨x', t, rfl, g1, g2⟩ := h2.head
    obtain ⟨y', t2, rfl, g3, g4⟩ := g2.head
    exact ⟨.tuple (x' :: y' :: t2).toArray, by simp, VRs.tuple h2⟩

/-- A table of functions that stands for the program's. -/
def Good (P : Program) (T : Nat → Option IFn) : Prop := P.follows .mixedOrders = true ∧ ∀ f fn, T f = some fn → chkF P f fn = true

theorem evalF_ok {T : Nat → Option IFn} (hT : Good P T) : ∀ n, CallOk P (evalF T n)
  | 0 => fun f args H v H' h => by cases h
  | n + 1 => fun f args H v H' h => by
    simp only [evalF] at h
    split at h
    · cases h
    · rename_i fn hfn
      have hc := hT.2 f fn hfn
      unfold chkF at hc
      split at hc
      · rename_i g hg
        simp only [Bool.and_eq_true] at hc
        obtain ⟨⟨⟨h1, h2⟩, h3⟩, h4⟩ := hc
        split at h4
        · rename_i c hbody
          cases hle : Nat.ble args.length fn.nt with
          | false => rw [hle] at h; cases h
          | true =>
            rw [hle, cond_true] at h
            refine ⟨h1, fun ρ w args' hargs hr => ?_⟩
            have main : ∀ (x : Ex) (env : Env) (H1 : Heap), evalC (evalF T n) n fn.code (ini args) H = some (x, env, H1) → (x = .normal ∨ x = .ret) → (evalR env H1 fn.res).map (fun vs => (one vs, H1)) = some (v, H') →
                Calls P f args'.toArray w fun e w' => ∃ v' ρ', e = .returned v' ∧ VR ρ' H' v v' ∧ Rel ρ' H' w' ∧ Fr ρ H w ρ' H' w' := by
              intro x env H1 hev hx hres
              simp only [Option.map_eq_some_iff] at hres
              obtain ⟨vs, h5, h6⟩ := hres
              obtain ⟨rfl, rfl⟩ := Prod.mk.inj h6
              have hnt := Nat.eq_of_beq_eq_true h2
              have hlen : args.length ≤ fn.nt := Nat.le_of_ble_eq_true hle
              have hal := hargs.1
              refine calls_of_wp hg hbody (evalC_ok (evalF_ok hT n) hT.1 (ρ0 := ρ) (H0 := H) (w0 := w) fn.code c h4 _ _ _ _ _ hev ρ _ _ ⟨hr, ?_, ?_, rfl, Fr.refl _ _ _⟩ _ ?_)
              · intro t ht
                simp only [Act.eval, ini]
                rcases Nat.lt_or_ge t args.length with hlt | hge
                · have q1 := List.getElem?_eq_getElem hlt
                  have q2 := List.getElem?_eq_getElem (show t < args'.length by omega)
                  rw [List.getD_eq_getElem?_getD, q1, Array.getD_eq_getD_getElem?, Array.getElem?_append_left (by simpa using (show t < args'.length by omega))]
                  rw [List.getElem?_toArray, q2]
                  exact hargs.2 t _ _ q1 q2
                · rw [List.getD_eq_getElem?_getD, List.getElem?_eq_none hge, Array.getD_eq_getD_getElem?, Array.getElem?_append_right (by simpa using (show args'.length ≤ t by omega)), Array.getElem?_replicate]
                  split
                  · exact VR.undef
                  · exact VR.undef
              · simp; omega
              · intro a' w' ρ' hat'
                obtain ⟨v', g1, g2⟩ := results_ok hat'.rel hat'.env h3 h5
                have : a'.defers = [] ∧ ∃ v, (results g a'.tmps).run P w' = .ok v w' ∧ (∃ v' ρ', Ending.returned v = .returned v' ∧ VR ρ' H1 (one vs) v' ∧ Rel ρ' H1 w' ∧ Fr ρ H w ρ' H1 w') :=
                  ⟨hat'.defers, v', g1, v', ρ', rfl, g2, hat'.rel, hat'.fr⟩
                rcases hx with rfl | rfl
                · exact this
                · exact this
            split at h
            · cases h
            · rename_i x env H1 hne hev
              refine main x env H1 hev ?_ h
              cases x with
              | normal => exact .inl rfl
              | ret => exact .inr rfl
              | exit id => exact absurd rfl (hne id)
            · cases h
        · cases h4
      · cases hc

end
end Go.Proofs.Ytdkdifjjpbfohaa.Fw
