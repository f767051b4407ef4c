/- Rules by which the evaluator is run over values that are not known in full. -/
import Derived.Test.YtdkdifjjpbfohaaFw17
namespace Go.Proofs.Ytdkdifjjpbfohaa.Fw
open Go

/-! ### More fuel -/
def CallLe (c c' : CallE) : Prop := ∀ f args H r, c f args H = some r → c' f args H = some r
theorem execI_mono {c c' : CallE} (h : CallLe c c') {env : Env} {H : Heap} {op : IOp} {r : Value × Heap} (hs : execI c env H op = some r) : execI c' env H op = some r := by
  unfold execI at hs ⊢
  split at hs
  · exact h _ _ _ _ hs
  · split at hs
    · exact h _ _ _ _ hs
    · cases hs
  · obtain ⟨hp, hs⟩ := bif_some' hs
    rw [hp, cond_true]
    simp only [Option.bind_eq_some_iff] at hs ⊢
    obtain ⟨q, h1, h2⟩ := hs
    exact ⟨q, h _ _ _ _ h1, h2⟩
  · simp only [Option.bind_eq_some_iff] at hs ⊢
    obtain ⟨as, h1, q, h2, h3⟩ := hs
    exact ⟨as, h1, q, h _ _ _ _ h2, h3⟩
  · simp only [Option.bind_eq_some_iff] at hs ⊢
    obtain ⟨q, h2, h3⟩ := hs
    exact ⟨q, h _ _ _ _ h2, h3⟩
  · exact hs
theorem stepS_mono {c c' : CallE} (h : CallLe c c') {all : List IStmt} {s : IStmt} {env : Env} {H : Heap} {r : Env × Heap} (hs : stepS c all s env H = some r) : stepS c' all s env H = some r := by
  unfold stepS at hs ⊢
  cases hw : wantedI all s env with
  | false => rw [hw] at hs; exact hs
  | true =>
    rw [hw] at hs
    simp only [cond_true, Option.map_eq_some_iff] at hs ⊢
    obtain ⟨q, h1, h2⟩ := hs
    exact ⟨q, execI_mono h h1, h2⟩
theorem evalS_mono {c c' : CallE} (h : CallLe c c') {all : List IStmt} : ∀ {l : List IStmt} {env : Env} {H : Heap} {r : Env × Heap}, evalS c all l env H = some r → evalS c' all l env H = some r
  | [], _, _, _, hs => hs
  | s :: l, env, H, r, hs => by
    simp only [evalS, Option.bind_eq_some_iff] at hs ⊢
    obtain ⟨q, h1, h2⟩ := hs
    exact ⟨q, stepS_mono h h1, evalS_mono h h2⟩
theorem trS_mono {c c' : CallE} (h : CallLe c c') {all : List IStmt} : ∀ {l : List IStmt} {env : Env} {H : Heap} {r : List (Env × Heap)}, trS c all l env H = some r → trS c' all l env H = some r
  | [], _, _, _, hs => hs
  | s :: l, env, H, r, hs => by
    simp only [trS, Option.bind_eq_some_iff, Option.map_eq_some_iff] at hs ⊢
    obtain ⟨q, h1, t, h2, h3⟩ := hs
    exact ⟨q, stepS_mono h h1, t, trS_mono h h2, h3⟩
theorem loopN_mono {b b' : Env → Heap → Option (Ex × Env × Heap)} (h : ∀ env H r, b env H = some r → b' env H = some r) : ∀ {m m' : Nat} {env : Env} {H : Heap} {r : Ex × Env × Heap}, m ≤ m' → loopN b m env H = some r → loopN b' m' env H = some r
  | 0, _, _, _, _, _, hs => by cases hs
  | m + 1, 0, _, _, _, hm, _ => by omega
  | m + 1, m' + 1, env, H, r, hm, hs => by
    simp only [loopN] at hs ⊢
    cases hb : b env H with
    | none => rw [hb] at hs; cases hs
    | some q =>
      rw [h _ _ _ hb]
      rw [hb] at hs
      obtain ⟨x, e, h1⟩ := q
      cases x with
      | normal => exact loopN_mono h (by omega) hs
      | exit id => exact hs
      | ret => exact hs
theorem evalC_mono {c c' : CallE} (h : CallLe c c') {n n' : Nat} (hn : n ≤ n') : ∀ (ic : ICode) (env : Env) (H : Heap) (r : Ex × Env × Heap), evalC c n ic env H = some r → evalC c' n' ic env H = some r := by
  intro ic
  induction ic with
  | skip => exact fun _ _ _ hs => hs
  | exit id => exact fun _ _ _ hs => hs
  | ret => exact fun _ _ _ hs => hs
  | reg ss =>
    intro env H r hs
    simp only [evalC, Option.map_eq_some_iff] at hs ⊢
    obtain ⟨q, h1, h2⟩ := hs
    exact ⟨q, evalS_mono h h1, h2⟩
  | dreg ss bs =>
    intro env H r hs
    simp only [evalC] at hs ⊢
    cases hem : bs.isEmpty with
    | true =>
      rw [hem, cond_true, Option.map_eq_some_iff] at hs
      rw [cond_true, Option.map_eq_some_iff]
      obtain ⟨q, h1, h2⟩ := hs
      exact ⟨q, evalS_mono h h1, h2⟩
    | false =>
      rw [hem, cond_false, Option.bind_eq_some_iff] at hs
      rw [cond_false, Option.bind_eq_some_iff]
      obtain ⟨q, h1, h2⟩ := hs
      exact ⟨q, trS_mono h h1, h2⟩
  | seq a b iha ihb =>
    intro env H r hs
    simp only [evalC] at hs ⊢
    cases ha : evalC c n a env H with
    | none => rw [ha] at hs; cases hs
    | some q =>
      rw [iha _ _ _ ha]
      rw [ha] at hs
      obtain ⟨x, e, h1⟩ := q
      cases x with
      | normal => exact ihb _ _ _ hs
      | exit id => exact hs
      | ret => exact hs
  | cond c0 a b iha ihb =>
    intro env H r hs
    simp only [evalC] at hs ⊢
    split at hs
    · exact iha _ _ _ hs
    · exact ihb _ _ _ hs
    · cases hs
  | block id a ih =>
    intro env H r hs
    simp only [evalC] at hs ⊢
    cases ha : evalC c n a env H with
    | none => rw [ha] at hs; cases hs
    | some q =>
      rw [ih _ _ _ ha]
      rw [ha] at hs
      exact hs
  | loop a ih =>
    intro env H r hs
    simp only [evalC] at hs ⊢
    exact loopN_mono ih hn hs
theorem evalF_le (T : Nat → Option IFn) : ∀ n, CallLe (evalF T n) (evalF T (n + 1))
  | 0 => fun _ _ _ _ h => by cases h
  | n + 1 => fun f args H r h => by
    simp only [evalF] at h
    rw [evalF]
    split at h
    · cases h
    · rename_i fn hfn
      cases hl : Nat.ble args.length fn.nt with
      | false => rw [hl] at h; cases h
      | true =>
        rw [hl] at h
        simp only [cond_true] at h ⊢
        cases hc : evalC (evalF T n) n fn.code (ini args) H with
        | none => rw [hc] at h; cases h
        | some q =>
          rw [evalC_mono (evalF_le T n) (Nat.le_succ n) _ _ _ _ hc]
          rw [hc] at h
          exact h
theorem evalF_mono (T : Nat → Option IFn) {n n' : Nat} (h : n ≤ n') : CallLe (evalF T n) (evalF T n') := by
  induction h with
  | refl => exact fun _ _ _ _ h => h
  | step _ ih => exact fun f args H r hs => evalF_le T _ _ _ _ _ (ih f args H r hs)
theorem evalC_up {T : Nat → Option IFn} {n n' : Nat} (h : n ≤ n') {ic : ICode} {env : Env} {H : Heap} {r : Ex × Env × Heap} (hs : evalC (evalF T n) n ic env H = some r) : evalC (evalF T n') n' ic env H = some r := evalC_mono (evalF_mono T h) h ic env H r hs

/-! ### The judgements -/
abbrev Tab := Nat → Option IFn
/-- A call ends, and so. -/
def Ev (T : Tab) (f : Nat) (args : List Value) (H : Heap) (K : Value → Heap → Prop) : Prop := ∃ n v H', evalF T n f args H = some (v, H') ∧ K v H'
/-- Code ends, and so. -/
def W (T : Tab) (c : ICode) (env : Env) (H : Heap) (Q : Ex → Env → Heap → Prop) : Prop := ∃ n x e h, evalC (evalF T n) n c env H = some (x, e, h) ∧ Q x e h
def WS (T : Tab) (all l : List IStmt) (env : Env) (H : Heap) (K : Env → Heap → Prop) : Prop := ∃ n e h, evalS (evalF T n) all l env H = some (e, h) ∧ K e h
def WT (T : Tab) (all l : List IStmt) (env : Env) (H : Heap) (K : List (Env × Heap) → Env → Heap → Prop) : Prop := ∃ n tr e h, trS (evalF T n) all l env H = some tr ∧ tr.getLast? = some (e, h) ∧ K tr e h

def thenQ (K : Env → Heap → Prop) (Q : Ex → Env → Heap → Prop) : Ex → Env → Heap → Prop
  | .normal, e, h => K e h
  | .exit id, e, h => Q (.exit id) e h
  | .ret, e, h => Q .ret e h
def blockQ (id : Nat) (Q : Ex → Env → Heap → Prop) : Ex → Env → Heap → Prop
  | .normal, e, h => Q .normal e h
  | .exit id', e, h => bif Nat.beq id' id then Q .normal e h else Q (.exit id') e h
  | .ret, e, h => Q .ret e h
def retQ (res : List IRes) (K : Value → Heap → Prop) : Ex → Env → Heap → Prop
  | .exit _, _, _ => False
  | _, e, h => ∃ vs, evalR e h res = some vs ∧ K (one vs) h
def condV (v : Value) (p q : Prop) : Prop := (v = .bool true ∧ p) ∨ (v = .bool false ∧ q)
def optK (o : Option (Value × Heap)) (K : Value → Heap → Prop) : Prop := ∃ v h, o = some (v, h) ∧ K v h

section
variable {T : Tab} {env : Env} {H : Heap} {Q : Ex → Env → Heap → Prop} {K : Env → Heap → Prop}
theorem thenQ_normal : thenQ K Q .normal env H ↔ K env H := Iff.rfl
theorem thenQ_exit {id : Nat} : thenQ K Q (.exit id) env H ↔ Q (.exit id) env H := Iff.rfl
theorem thenQ_ret : thenQ K Q .ret env H ↔ Q .ret env H := Iff.rfl
theorem blockQ_normal {id : Nat} : blockQ id Q .normal env H ↔ Q .normal env H := Iff.rfl
theorem blockQ_ret {id : Nat} : blockQ id Q .ret env H ↔ Q .ret env H := Iff.rfl
theorem blockQ_exit {id id' : Nat} : blockQ id Q (.exit id') env H ↔ (bif Nat.beq id' id then Q .normal env H else Q (.exit id') env H) := Iff.rfl
theorem retQ_ret {res : List IRes} {K : Value → Heap → Prop} : retQ res K .ret env H ↔ ∃ vs, evalR env H res = some vs ∧ K (one vs) H := Iff.rfl
theorem retQ_normal {res : List IRes} {K : Value → Heap → Prop} : retQ res K .normal env H ↔ ∃ vs, evalR env H res = some vs ∧ K (one vs) H := Iff.rfl
theorem condV_bool {b : Bool} {p q : Prop} : condV (.bool b) p q ↔ if b = true then p else q := by
  unfold condV
  cases b <;> simp
theorem optK_some {v : Value} {h : Heap} {K : Value → Heap → Prop} : optK (some (v, h)) K ↔ K v h := by
  unfold optK
  constructor
  · rintro ⟨v', h', he, hk⟩
    cases he
    exact hk
  · exact fun hk => ⟨v, h, rfl, hk⟩
theorem optK_none {K : Value → Heap → Prop} : optK none K ↔ False := by
  unfold optK
  simp

theorem Ev.mono {f : Nat} {args : List Value} {K K' : Value → Heap → Prop} (h : Ev T f args H K) (hk : ∀ v h, K v h → K' v h) : Ev T f args H K' := by
  obtain ⟨n, v, h1, h2, h3⟩ := h
  exact ⟨n, v, h1, h2, hk _ _ h3⟩
theorem W.mono {c : ICode} {Q' : Ex → Env → Heap → Prop} (h : W T c env H Q) (hk : ∀ x e h, Q x e h → Q' x e h) : W T c env H Q' := by
  obtain ⟨n, x, e, h1, h2, h3⟩ := h
  exact ⟨n, x, e, h1, h2, hk _ _ _ h3⟩
theorem WS.mono {all l : List IStmt} {K' : Env → Heap → Prop} (h : WS T all l env H K) (hk : ∀ e h, K e h → K' e h) : WS T all l env H K' := by
  obtain ⟨n, e, h1, h2, h3⟩ := h
  exact ⟨n, e, h1, h2, hk _ _ h3⟩

theorem W_skip : W T .skip env H Q ↔ Q .normal env H := by
  constructor
  · rintro ⟨n, x, e, h, h1, h2⟩
    cases h1
    exact h2
  · exact fun h => ⟨0, _, _, _, rfl, h⟩
theorem W_exit {id : Nat} : W T (.exit id) env H Q ↔ Q (.exit id) env H := by
  constructor
  · rintro ⟨n, x, e, h, h1, h2⟩
    cases h1
    exact h2
  · exact fun h => ⟨0, _, _, _, rfl, h⟩
theorem W_ret : W T .ret env H Q ↔ Q .ret env H := by
  constructor
  · rintro ⟨n, x, e, h, h1, h2⟩
    cases h1
    exact h2
  · exact fun h => ⟨0, _, _, _, rfl, h⟩
theorem W_seq {a b : ICode} : W T (.seq a b) env H Q ↔ W T a env H (thenQ (fun e h => W T b e h Q) Q) := by
  constructor
  · rintro ⟨n, x, e, h, h1, h2⟩
    simp only [evalC] at h1
    cases ha : evalC (evalF T n) n a env H with
    | none => rw [ha] at h1; cases h1
    | some r =>
      obtain ⟨y, e1, h3⟩ := r
      refine ⟨n, y, e1, h3, ha, ?_⟩
      rw [ha] at h1
      cases y with
      | normal => exact ⟨n, x, e, h, h1, h2⟩
      | exit id => cases h1; exact h2
      | ret => cases h1; exact h2
  · rintro ⟨n, x, e, h, h1, h2⟩
    cases x with
    | normal =>
      obtain ⟨m, y, e1, h3, h4, h5⟩ := h2
      refine ⟨max n m, y, e1, h3, ?_, h5⟩
      simp only [evalC]
      rw [evalC_up (Nat.le_max_left n m) h1]
      exact evalC_up (Nat.le_max_right n m) h4
    | exit id => exact ⟨n, _, e, h, by simp only [evalC]; rw [h1], h2⟩
    | ret => exact ⟨n, _, e, h, by simp only [evalC]; rw [h1], h2⟩
theorem W_cond {c : Opd} {a b : ICode} : W T (.cond c a b) env H Q ↔ condV (c.ev env) (W T a env H Q) (W T b env H Q) := by
  constructor
  · rintro ⟨n, x, e, h, h1, h2⟩
    simp only [evalC] at h1
    split at h1
    · rename_i h3; exact .inl ⟨h3, n, x, e, h, h1, h2⟩
    · rename_i h3; exact .inr ⟨h3, n, x, e, h, h1, h2⟩
    · cases h1
  · rintro (⟨h0, n, x, e, h, h1, h2⟩ | ⟨h0, n, x, e, h, h1, h2⟩)
    · exact ⟨n, x, e, h, by simp only [evalC]; rw [h0]; exact h1, h2⟩
    · exact ⟨n, x, e, h, by simp only [evalC]; rw [h0]; exact h1, h2⟩
theorem W_block {id : Nat} {a : ICode} : W T (.block id a) env H Q ↔ W T a env H (blockQ id Q) := by
  constructor
  · rintro ⟨n, x, e, h, h1, h2⟩
    simp only [evalC] at h1
    cases ha : evalC (evalF T n) n a env H with
    | none => rw [ha] at h1; cases h1
    | some r =>
      obtain ⟨y, e1, h3⟩ := r
      refine ⟨n, y, e1, h3, ha, ?_⟩
      rw [ha] at h1
      cases y with
      | normal => cases h1; exact h2
      | exit id' =>
        simp only [blockQ]
        simp only [] at h1
        cases hb : Nat.beq id' id with
        | true => rw [hb] at h1; cases h1; exact h2
        | false => rw [hb] at h1; cases h1; exact h2
      | ret => cases h1; exact h2
  · rintro ⟨n, x, e, h, h1, h2⟩
    cases x with
    | normal => exact ⟨n, _, e, h, by simp only [evalC]; rw [h1], h2⟩
    | ret => exact ⟨n, _, e, h, by simp only [evalC]; rw [h1], h2⟩
    | exit id' =>
      simp only [blockQ] at h2
      cases hb : Nat.beq id' id with
      | true => rw [hb] at h2; exact ⟨n, .normal, e, h, by simp only [evalC]; rw [h1]; simp only [hb, cond_true], h2⟩
      | false => rw [hb] at h2; exact ⟨n, .exit id', e, h, by simp only [evalC]; rw [h1]; simp only [hb, cond_false], h2⟩
theorem W_loop {a : ICode} : W T (.loop a) env H Q ↔ W T a env H (thenQ (fun e h => W T (.loop a) e h Q) Q) := by
  constructor
  · rintro ⟨n, x, e, h, h1, h2⟩
    simp only [evalC] at h1
    cases n with
    | zero => cases h1
    | succ n =>
      simp only [loopN] at h1
      cases ha : evalC (evalF T (n + 1)) (n + 1) a env H with
      | none => rw [ha] at h1; cases h1
      | some r =>
        obtain ⟨y, e1, h3⟩ := r
        refine ⟨n + 1, y, e1, h3, ha, ?_⟩
        rw [ha] at h1
        cases y with
        | normal => exact ⟨n + 1, x, e, h, by simp only [evalC]; exact loopN_mono (fun _ _ _ hs => hs) (Nat.le_succ n) h1, h2⟩
        | exit id => cases h1; exact h2
        | ret => cases h1; exact h2
  · rintro ⟨n, x, e, h, h1, h2⟩
    cases x with
    | normal =>
      obtain ⟨m, y, e1, h3, h4, h5⟩ := h2
      refine ⟨max n m + 1, y, e1, h3, ?_, h5⟩
      simp only [evalC, loopN] at h4 ⊢
      rw [evalC_up (show n ≤ max n m + 1 by omega) h1]
      exact loopN_mono (fun _ _ _ hs => evalC_up (show m ≤ max n m + 1 by omega) hs) (show m ≤ max n m by omega) h4
    | exit id => exact ⟨n + 1, _, e, h, by simp only [evalC, loopN]; rw [evalC_up (Nat.le_succ n) h1], h2⟩
    | ret => exact ⟨n + 1, _, e, h, by simp only [evalC, loopN]; rw [evalC_up (Nat.le_succ n) h1], h2⟩
theorem W_reg {ss : List IStmt} : W T (.reg ss) env H Q ↔ WS T ss ss env H (Q .normal) := by
  constructor
  · rintro ⟨n, x, e, h, h1, h2⟩
    simp only [evalC, Option.map_eq_some_iff] at h1
    obtain ⟨⟨e1, h3⟩, h4, h5⟩ := h1
    cases h5
    exact ⟨n, e1, h3, h4, h2⟩
  · rintro ⟨n, e, h, h1, h2⟩
    exact ⟨n, .normal, e, h, by simp only [evalC, h1, Option.map_some], h2⟩
theorem W_dreg {ss : List IStmt} {cks : List (Nat × Nat)} : W T (.dreg ss cks) env H Q ↔ WT T ss ss env H (fun tr e h => (∀ c ∈ cks, ckOk ss tr c) ∧ Q .normal e h) := by
  constructor
  · rintro ⟨n, x, e, h, h1, h2⟩
    simp only [evalC] at h1
    cases hem : cks.isEmpty with
    | true =>
      rw [hem, cond_true, Option.map_eq_some_iff] at h1
      obtain ⟨⟨e1, h3⟩, h4, h5⟩ := h1
      cases h5
      obtain ⟨tr, h6, h7⟩ := trS_of_evalS h4
      have hbs : cks = [] := List.isEmpty_iff.1 hem
      exact ⟨n, tr, e1, h3, h6, h7, fun c hcm => (by rw [hbs] at hcm; cases hcm), h2⟩
    | false =>
      rw [hem, cond_false, Option.bind_eq_some_iff] at h1
      obtain ⟨tr, h3, h4⟩ := h1
      split at h4
      · rename_i hck
        simp only [Option.map_eq_some_iff] at h4
        obtain ⟨⟨e1, h5⟩, h6, h7⟩ := h4
        cases h7
        exact ⟨n, tr, e1, h5, h3, h6, hck, h2⟩
      · cases h4
  · rintro ⟨n, tr, e, h, h1, h2, h3, h4⟩
    refine ⟨n, .normal, e, h, ?_, h4⟩
    simp only [evalC]
    cases hem : cks.isEmpty with
    | true => rw [cond_true, evalS_of_trS h1 h2]; rfl
    | false => rw [cond_false, h1, Option.bind_some, if_pos h3, h2]; rfl
theorem W_dreg0 {ss : List IStmt} (h : WS T ss ss env H (Q .normal)) : W T (.dreg ss []) env H Q := by
  obtain ⟨n, e, h1, h2, h3⟩ := h
  obtain ⟨tr, h4, h5⟩ := trS_of_evalS h2
  exact W_dreg.2 ⟨n, tr, e, h1, h4, h5, ⟨fun c hcm => (by cases hcm), h3⟩⟩

theorem WS_nil {all : List IStmt} : WS T all [] env H K ↔ K env H := by
  constructor
  · rintro ⟨n, e, h, h1, h2⟩
    cases h1
    exact h2
  · exact fun h => ⟨0, _, _, rfl, h⟩
theorem WS_step {all l : List IStmt} {s : IStmt} : WS T all (s :: l) env H K ↔ ∃ n r, stepS (evalF T n) all s env H = some r ∧ WS T all l r.1 r.2 K := by
  constructor
  · rintro ⟨n, e, h, h1, h2⟩
    simp only [evalS, Option.bind_eq_some_iff] at h1
    obtain ⟨r, h3, h4⟩ := h1
    exact ⟨n, r, h3, n, e, h, h4, h2⟩
  · rintro ⟨n, r, h1, m, e, h, h2, h3⟩
    refine ⟨max n m, e, h, ?_, h3⟩
    simp only [evalS]
    rw [stepS_mono (evalF_mono T (Nat.le_max_left n m)) h1]
    exact evalS_mono (evalF_mono T (Nat.le_max_right n m)) h2
theorem wanted_none {all : List IStmt} {d : Option Nat} {op : IOp} : wantedI all ⟨d, op, none⟩ env = true := rfl
/-- A step that is always done, and is no call. -/
theorem WS_op {all l : List IStmt} {d : Option Nat} {op : IOp} (hc : isCall op = false) : WS T all (⟨d, op, none⟩ :: l) env H K ↔ optK (stepI env H op) fun v h => WS T all l (putE env d v) h K := by
  rw [WS_step]
  constructor
  · rintro ⟨n, r, h1, h2⟩
    simp only [stepS, wanted_none, cond_true, execI_step _ _ _ hc, Option.map_eq_some_iff] at h1
    obtain ⟨⟨v, h⟩, h3, rfl⟩ := h1
    exact ⟨v, h, h3, h2⟩
  · rintro ⟨v, h, h1, h2⟩
    exact ⟨0, (putE env d v, h), by simp only [stepS, wanted_none, cond_true, execI_step _ _ _ hc, h1, Option.map_some], h2⟩
theorem WS_call {all l : List IStmt} {d : Option Nat} {f : Nat} {args : List Opd} : WS T all (⟨d, .call f args, none⟩ :: l) env H K ↔ Ev T f (evs env args) H fun v h => WS T all l (putE env d v) h K := by
  rw [WS_step]
  constructor
  · rintro ⟨n, r, h1, h2⟩
    simp only [stepS, wanted_none, cond_true, execI, Option.map_eq_some_iff] at h1
    obtain ⟨⟨v, h⟩, h3, rfl⟩ := h1
    exact ⟨n, v, h, h3, h2⟩
  · rintro ⟨n, v, h, h1, h2⟩
    exact ⟨n, (putE env d v, h), by simp only [stepS, wanted_none, cond_true, execI, h1, Option.map_some], h2⟩
/-- A step that is done where a bool says so. -/
theorem WS_guard {all l : List IStmt} {d : Option Nat} {op : IOp} {g : Nat × Bool} :
    WS T all (⟨d, op, some g⟩ :: l) env H K ↔ (if wantedI all ⟨d, op, some g⟩ env = true then WS T all (⟨d, op, none⟩ :: l) env H K else WS T all l (putE env d undef) H K) := by
  rw [WS_step]
  cases hw : wantedI all ⟨d, op, some g⟩ env with
  | true =>
    rw [if_pos rfl, WS_step]
    simp only [stepS, hw, wanted_none]
  | false =>
    rw [if_neg (by decide)]
    simp only [stepS, hw, cond_false, Option.some.injEq]
    constructor
    · rintro ⟨n, r, rfl, h⟩
      exact h
    · exact fun h => ⟨0, _, rfl, h⟩

/-- A function of the table. -/
theorem Ev_fn {f : Nat} {fn : IFn} {args : List Value} {K : Value → Heap → Prop} (hf : T f = some fn) (hl : Nat.ble args.length fn.nt = true) : Ev T f args H K ↔ W T fn.code (ini args) H (retQ fn.res K) := by
  constructor
  · rintro ⟨n, v, h, h1, h2⟩
    cases n with
    | zero => cases h1
    | succ n =>
      simp only [evalF, hf, hl, cond_true] at h1
      cases hc : evalC (evalF T n) n fn.code (ini args) H with
      | none => rw [hc] at h1; cases h1
      | some r =>
        obtain ⟨x, e, h3⟩ := r
        rw [hc] at h1
        refine ⟨n, x, e, h3, hc, ?_⟩
        cases x with
        | normal =>
          simp only [Option.map_eq_some_iff] at h1
          obtain ⟨vs, h4, h5⟩ := h1
          cases h5
          exact ⟨vs, h4, h2⟩
        | ret =>
          simp only [Option.map_eq_some_iff] at h1
          obtain ⟨vs, h4, h5⟩ := h1
          cases h5
          exact ⟨vs, h4, h2⟩
        | exit id => cases h1
  · rintro ⟨n, x, e, h, h1, h2⟩
    cases x with
    | normal =>
      obtain ⟨vs, h3, h4⟩ := h2
      exact ⟨n + 1, one vs, h, by simp only [evalF, hf, hl, cond_true, h1, h3, Option.map_some], h4⟩
    | ret =>
      obtain ⟨vs, h3, h4⟩ := h2
      exact ⟨n + 1, one vs, h, by simp only [evalF, hf, hl, cond_true, h1, h3, Option.map_some], h4⟩
    | exit id => exact h2.elim
end
end Go.Proofs.Ytdkdifjjpbfohaa.Fw
