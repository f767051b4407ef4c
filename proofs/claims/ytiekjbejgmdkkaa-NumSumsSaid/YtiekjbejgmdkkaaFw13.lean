/- The evaluator of the small language; regions in their order. -/
import Derived.Test.YtiekjbejgmdkkaaFw12
namespace Go.Proofs.Ytiekjbejgmdkkaa.Fw
open Go

abbrev Env := Nat → Value
abbrev CallE := Nat → List Value → Heap → Option (Value × Heap)

def putE (env : Env) (d : Option Nat) (v : Value) : Env :=
  match d with
  | some d => upd env d v
  | none => env
def bOf (v : Value) : Option Bool :=
  match v with
  | .bool b => some b
  | _ => none
def yieldI (all : List IStmt) (env : Env) (j : Nat) : Option Bool :=
  match (all[j]?).bind (·.dst) with
  | some d => bOf (env d)
  | none => none
def wantedI (all : List IStmt) (s : IStmt) (env : Env) : Bool :=
  match s.guard with
  | none => true
  | some (j, want) => yieldI all env j == some want
def execI (call : CallE) (env : Env) (H : Heap) (op : IOp) : Option (Value × Heap) :=
  match op with
  | .call f args => call f (evs env args) H
  | .callv x args =>
    match x.ev env with
    | .func (.func f) first captured => call f (first.toList ++ evs env args ++ captured.toList) H
    | _ => none
  | op => stepI env H op
theorem execI_step (call : CallE) (env : Env) (H : Heap) {op : IOp} (h : isCall op = false) : execI call env H op = stepI env H op := by
  cases op <;> first | rfl | (cases h)
def stepS (call : CallE) (all : List IStmt) (s : IStmt) (env : Env) (H : Heap) : Option (Env × Heap) :=
  bif wantedI all s env then (execI call env H s.op).map fun r => (putE env s.dst r.1, r.2) else some (putE env s.dst undef, H)
def evalS (call : CallE) (all : List IStmt) : List IStmt → Env → Heap → Option (Env × Heap)
  | [], env, H => some (env, H)
  | s :: l, env, H => (stepS call all s env H).bind fun r => evalS call all l r.1 r.2

/-- What a call is known to do: the world's follows. -/
def AC (P : Program) (f : Nat) (args : List Value) (H : Heap) (v : Value) (H' : Heap) : Prop :=
  bodied P f = true ∧ ∀ ρ w args', VRs ρ H args args' → Rel ρ H w →
    Calls P f args'.toArray w fun e w' => ∃ v' ρ', e = .returned v' ∧ VR ρ' H' v v' ∧ Rel ρ' H' w' ∧ Fr ρ H w ρ' H' w'
def CallOk (P : Program) (call : CallE) : Prop := ∀ f args H v H', call f args H = some (v, H') → AC P f args H v H'

section
variable {P : Program} {nt : Nat} {env : Nat → Value} {H : Heap} {ρ : Nat → Place} {w : World} {a : Act} {call : CallE}

theorem callFunc_run {f : Nat} (hb : bodied P f = true) (args : Array Value) (w : World) : (callFunc f args).run P w = .ok (.enter f args) w := by
  unfold bodied at hb
  split at hb
  · rename_i fn hf
    simp only [Bool.and_eq_true, bne_iff_ne] at hb
    have h1 : (fn.name == "runtime.NumGoroutine") = false := by simpa using hb.2
    have h2 : fn.body.isNone = false := by
      cases h : fn.body with
      | none => rw [h] at hb; cases hb.1
      | some _ => rfl
    unfold callFunc
    simp only [Sem.run_bind, run_program, Result.andThen_ok, hf, h1, h2, Bool.false_eq_true, if_false, Sem.run_pure]
  · cases hb

theorem resolve_run (o : Oper) (f : Operand) (args : Array Operand) (tys : Array TypeId) {fn : Nat} {first captured : Array Value} (hf : a.eval f = .func (.func fn) first captured) (hb : bodied P fn = true) (ho : o.op = .call ⟨.value f, args, tys⟩) :
    (execOp a.eval o).run P w = .ok (.enter fn (first ++ args.map a.eval ++ captured)) w := by
  unfold execOp
  rw [ho]
  simp only [resolve, Sem.run_bind, hf, Deferred.ofValue, Sem.run_pure, Result.andThen_ok, invoke, callFunc_run hb]

theorem VRs.toArr {l : List Value} {c : Array Value} (h : VRs ρ H l c.toList) : VRs ρ H l c.toList := h
theorem VRs.of_array {f f' : Array Value} (h1 : f.size = f'.size) (h2 : ∀ (j : Nat) (h : j < f.size) (h' : j < f'.size), VR ρ H f[j] f'[j]) : VRs ρ H f.toList f'.toList := by
  refine ⟨by simpa using h1, fun j x x' hx hx' => ?_⟩
  simp only [Array.getElem?_toList] at hx hx'
  obtain ⟨q1, rfl⟩ := Array.getElem?_eq_some_iff.1 hx
  obtain ⟨q2, rfl⟩ := Array.getElem?_eq_some_iff.1 hx'
  exact h2 j q1 q2

theorem call_wp {o : Oper} {f : Operand} {args : Array Operand} {tys : Array TypeId} {fn : Nat} {first captured : Array Value} {l : List Value} (ho : o.op = .call ⟨.value f, args, tys⟩) (hf : a.eval f = .func (.func fn) first captured)
    {v : Value} {H' : Heap} (hac : AC P fn l H v H') (hl : VRs ρ H l (first.toList ++ (args.toList.map a.eval) ++ captured.toList)) (hr : Rel ρ H w) {next : Act → World → Prop} {Q : Exit → Act → World → Prop}
    (hn : ∀ v' w' ρ', VR ρ' H' v v' → Rel ρ' H' w' → Fr ρ H w ρ' H' w' → next (a.put o.dst v') w') : o.wp P a w next Q := by
  unfold Oper.wp
  rw [resolve_run o f args tys hf hac.1 ho, Oper.upon_enter]
  have := hac.2 ρ w _ hl hr
  have e1 : (first.toList ++ (args.toList.map a.eval) ++ captured.toList).toArray = first ++ args.map a.eval ++ captured := by
    apply Array.ext'
    simp
  rw [e1] at this
  refine Calls.mono this fun e w' h => ?_
  obtain ⟨v', ρ', rfl, h1, h2, h3⟩ := h
  exact hn v' w' ρ' h1 h2 h3

theorem op_ok (hcall : CallOk P call) {o : Oper} {op : IOp} (hc : chkOp P nt o.op op = true) {v : Value} {H' : Heap} (hs : execI call env H op = some (v, H')) (hr : Rel ρ H w) (he : EnvR ρ H nt env a)
    {next : Act → World → Prop} {Q : Exit → Act → World → Prop} (hn : ∀ v' w' ρ', VR ρ' H' v v' → Rel ρ' H' w' → Fr ρ H w ρ' H' w' → next (a.put o.dst v') w') : o.wp P a w next Q := by
  cases hic : isCall op with
  | false =>
    rw [execI_step call env H hic] at hs
    obtain ⟨r, v', w', ρ', h1, h2, h3, h4, h5⟩ := step_ok o op hc hic hs hr he
    unfold Oper.wp
    rw [h1]
    rcases h2 with rfl | ⟨rfl, rfl⟩
    · exact hn v' w' ρ' h3 h4 h5
    · exact hn _ w' ρ' h3 h4 h5
  | true =>
    cases op <;> first | (cases hic; done) | skip
    · rename_i f args
      simp only [execI] at hs
      have hac := hcall _ _ _ _ _ hs
      obtain ⟨dst, op, type, pos, after, guard⟩ := o
      simp only [] at hc
      unfold chkOp at hc
      split at hc <;> first | (rename_i h; cases h; done) | skip
      all_goals first | (cases hc; done) | skip
      rename_i h0
      cases h0
      simp only [Bool.and_eq_true] at hc
      obtain ⟨⟨h1, h2⟩, h3⟩ := hc
      have h1 := Nat.eq_of_beq_eq_true h1
      subst h1
      exact call_wp (first := #[]) (captured := #[]) rfl rfl hac (by simpa using opds_ok h3 he) hr hn
    · rename_i f args
      simp only [execI] at hs
      split at hs
      · rename_i fn first captured h0
        have hac := hcall _ _ _ _ _ hs
        obtain ⟨dst, op, type, pos, after, guard⟩ := o
        simp only [] at hc
        unfold chkOp at hc
        split at hc <;> first | (rename_i h; cases h; done) | skip
        all_goals first | (cases hc; done) | skip
        rename_i h1
        cases h1
        simp only [Bool.and_eq_true] at hc
        have hf := opd_ok hc.1 he
        rw [h0] at hf
        obtain ⟨f', c', g1, g2, g3, g4, g5⟩ := hf.func_inv
        exact call_wp rfl g1 hac ((VRs.append (VRs.append (VRs.of_array g2 g3) (opds_ok hc.2 he)) (VRs.of_array g4 g5))) hr hn
      · cases hs

/-! The temporaries behind a step -/
theorem EnvR.mono {ρ' : Nat → Place} {H' : Heap} (he : EnvR ρ H nt env a) (h : ∀ v v', VR ρ H v v' → VR ρ' H' v v') : EnvR ρ' H' nt env a := fun t ht => h _ _ (he t ht)
theorem put_size (a : Act) (d : Option Tmp) (v : Value) : (a.put d v).tmps.size = a.tmps.size := by
  cases d with
  | none => rfl
  | some d => simp [Act.put]
theorem put_defers' (a : Act) (d : Option Tmp) (v : Value) : (a.put d v).defers = a.defers := by cases d <;> rfl
theorem EnvR.put (he : EnvR ρ H nt env a) (hsz : a.tmps.size = nt) {d : Option Nat} {v v' : Value} (hv : VR ρ H v v') : EnvR ρ H nt (putE env d v) (a.put d v') := by
  intro t ht
  cases d with
  | none => exact he t ht
  | some d =>
    simp only [putE, Act.put, Act.eval]
    by_cases h : t = d
    · subst h
      rw [upd_same]
      have : (a.tmps.setIfInBounds t v').getD t undef = v' := by
        rw [Array.getD_eq_getD_getElem?, Array.getElem?_setIfInBounds_self_of_lt (by omega)]
        rfl
      rw [this]
      exact hv
    · rw [upd_ne _ _ h]
      have : (a.tmps.setIfInBounds d v').getD t undef = a.tmps.getD t undef := by
        rw [Array.getD_eq_getD_getElem?, Array.getD_eq_getD_getElem?, Array.getElem?_setIfInBounds_ne (fun q => h q.symm)]
      rw [this]
      exact he t ht
theorem VR.undef : VR ρ H undef undef := .plain _ rfl

/-- Is a bool, in the world as in the heap. -/
theorem VR.bOf {v v' : Value} (h : VR ρ H v v') : bOf v' = bOf v := by cases h <;> rfl

theorem chkS_some {o : Oper} {s : IStmt} (h : chkS P nt o s = true) : o.dst = s.dst ∧ o.guard = s.guard ∧ chkOp P nt o.op s.op = true ∧ ∀ d, o.dst = some d → d < nt := by
  simp only [chkS, Bool.and_eq_true, beq_iff_eq] at h
  obtain ⟨⟨⟨h1, h2⟩, h3⟩, h4⟩ := h
  refine ⟨h1, h2, h3, fun d hd => ?_⟩
  rw [hd] at h4
  simpa using h4
theorem chkL_get : ∀ {l : List Oper} {m : List IStmt}, chkL P nt l m = true → l.length = m.length ∧ ∀ (i : Nat) o s, l[i]? = some o → m[i]? = some s → chkS P nt o s = true
  | [], [], _ => ⟨rfl, fun i o s h => by simp at h⟩
  | [], _ :: _, h => by simp [chkL] at h
  | _ :: _, [], h => by simp [chkL] at h
  | o :: l, s :: m, h => by
    simp only [chkL, Bool.and_eq_true] at h
    obtain ⟨h1, h2⟩ := chkL_get h.2
    refine ⟨by simp [h1], fun i p q hp hq => ?_⟩
    cases i with
    | zero => simp at hp hq; subst hp; subst hq; exact h.1
    | succ i => simp at hp hq; exact h2 i p q hp hq

theorem yielded_eq {ops : Array Oper} {ss : List IStmt} (hc : chkL P nt ops.toList ss = true) (he : EnvR ρ H nt env a) (hsz : a.tmps.size = nt) (j : Nat) : yielded ops a.tmps j = yieldI ss env j := by
  obtain ⟨h1, h2⟩ := chkL_get hc
  unfold yielded yieldI
  cases ho : ops[j]? with
  | none =>
    have : ss[j]? = none := by
      rw [List.getElem?_eq_none_iff, ← h1, Array.length_toList]
      exact Array.getElem?_eq_none_iff.1 ho
    rw [this]
    rfl
  | some o =>
    have hj : j < ss.length := by rw [← h1, Array.length_toList]; exact (Array.getElem?_eq_some_iff.1 ho).1
    have hs := List.getElem?_eq_getElem hj
    rw [hs]
    obtain ⟨g1, _, _, g4⟩ := chkS_some (h2 j o ss[j] (by rw [Array.getElem?_toList]; exact ho) hs)
    simp only [Option.bind_some]
    rw [g1] at g4 ⊢
    cases hd : ss[j].dst with
    | none => rfl
    | some d =>
      have hdn := g4 d hd
      have hv := he d hdn
      have hb := hv.bOf
      have hd2 : a.tmps[d]? = some (a.eval (.tmp d)) := by
        simp only [Act.eval]
        rw [Array.getD_eq_getD_getElem?, Array.getElem?_eq_getElem (show d < a.tmps.size by rw [hsz]; exact hdn)]
        rfl
      simp only [Option.bind_some, hd2]
      rw [← hb]
      unfold Fw.bOf
      split <;> simp_all

theorem wanted_eq {ops : Array Oper} {ss : List IStmt} (hc : chkL P nt ops.toList ss = true) (he : EnvR ρ H nt env a) (hsz : a.tmps.size = nt) {o : Oper} {s : IStmt} (hg : o.guard = s.guard) :
    Region.wanted o (yielded ops a.tmps) = wantedI ss s env := by
  unfold Region.wanted wantedI
  rw [hg]
  cases s.guard with
  | none => rfl
  | some g => simp only [yielded_eq hc he hsz]

/-- What stands between two places of a run, of the temporaries too. -/
structure At (P : Program) (nt : Nat) (ρ0 : Nat → Place) (H0 : Heap) (w0 : World) (ρ : Nat → Place) (env : Env) (H : Heap) (a : Act) (w : World) : Prop where
  rel : Rel ρ H w
  env : EnvR ρ H nt env a
  size : a.tmps.size = nt
  defers : a.defers = []
  fr : Fr ρ0 H0 w0 ρ H w

theorem stepS_ok (hcall : CallOk P call) {ops : Array Oper} {ss : List IStmt} (hc : chkL P nt ops.toList ss = true) {i : Nat} {s : IStmt} (hi : ss[i]? = some s) {ρ0 : Nat → Place} {H0 : Heap} {w0 : World} (hat : At P nt ρ0 H0 w0 ρ env H a w)
    {env' : Env} {H' : Heap} (hs : stepS call ss s env H = some (env', H')) {Q : Exit → Act → World → Prop} {K : Act → World → Prop} (hk : ∀ a' w' ρ', At P nt ρ0 H0 w0 ρ' env' H' a' w' → K a' w') :
    wpOp P ops Q i K a w := by
  obtain ⟨h1, h2⟩ := chkL_get hc
  have hil : i < ops.toList.length := by rw [h1]; exact (List.getElem?_eq_some_iff.1 hi).1
  have ho := List.getElem?_eq_getElem hil
  obtain ⟨o, hoo⟩ : ∃ o, o = ops.toList[i] := ⟨_, rfl⟩
  rw [← hoo] at ho
  obtain ⟨g1, g2, g3, g4⟩ := chkS_some (h2 i o s ho hi)
  unfold wpOp
  rw [Array.getElem?_toList] at ho
  rw [ho]
  simp only []
  rw [wanted_eq hc hat.env hat.size g2]
  unfold stepS at hs
  cases hw : wantedI ss s env with
  | true =>
    rw [hw] at hs
    simp only [cond_true, Option.map_eq_some_iff] at hs
    obtain ⟨⟨v, H1⟩, h3, h4⟩ := hs
    obtain ⟨rfl, rfl⟩ := Prod.mk.inj h4
    rw [if_pos rfl]
    left
    refine op_ok hcall g3 h3 hat.rel hat.env fun v' w' ρ' q1 q2 q3 => hk _ _ ρ' ⟨q2, ?_, ?_, ?_, hat.fr.trans q3⟩
    · rw [g1]; exact (hat.env.mono q3.vr).put hat.size q1
    · rw [put_size]; exact hat.size
    · rw [put_defers']; exact hat.defers
  | false =>
    rw [hw] at hs
    simp only [cond_false] at hs
    obtain ⟨rfl, rfl⟩ := Prod.mk.inj (Option.some.inj hs)
    rw [if_neg (by decide)]
    refine hk _ _ ρ ⟨hat.rel, ?_, ?_, ?_, hat.fr⟩
    · rw [g1]; exact hat.env.put hat.size VR.undef
    · rw [put_size]; exact hat.size
    · rw [put_defers']; exact hat.defers

theorem evalS_ok (hcall : CallOk P call) {ops : Array Oper} {ss : List IStmt} (hc : chkL P nt ops.toList ss = true) {ρ0 : Nat → Place} {H0 : Heap} {w0 : World} {env' : Env} {H' : Heap} {Q : Exit → Act → World → Prop}
    (hk : ∀ a' w' ρ', At P nt ρ0 H0 w0 ρ' env' H' a' w' → Q .normal a' w') :
    ∀ (l : List IStmt) (i : Nat) (env : Env) (H : Heap) (ρ : Nat → Place) (a : Act) (w : World), ss.drop i = l → At P nt ρ0 H0 w0 ρ env H a w → evalS call ss l env H = some (env', H') →
      wpOps P ops Q (List.range' i (ops.size - i)) a w := by
  intro l
  have hlen : ops.size = ss.length := by rw [← (chkL_get hc).1, Array.length_toList]
  induction l with
  | nil =>
    intro i env H ρ a w hd hat hs
    have : ops.size - i = 0 := by rw [hlen]; have := congrArg List.length hd; simpa using this
    rw [this]
    simp only [evalS] at hs
    obtain ⟨rfl, rfl⟩ := Prod.mk.inj (Option.some.inj hs)
    exact hk _ _ _ hat
  | cons s l ih =>
    intro i env H ρ a w hd hat hs
    have hl := congrArg List.length hd
    simp only [List.length_drop, List.length_cons] at hl
    have hsz : ops.size - i = (ops.size - (i + 1)) + 1 := by omega
    rw [hsz, List.range'_succ, wpOps_cons]
    have hi : ss[i]? = some s := by
      have : (ss.drop i)[0]? = some s := by rw [hd]; rfl
      rwa [List.getElem?_drop, Nat.add_zero] at this
    simp only [evalS, Option.bind_eq_some_iff] at hs
    obtain ⟨⟨e1, H1⟩, h3, h4⟩ := hs
    refine stepS_ok hcall hc hi hat h3 fun a' w' ρ' hat' => ih (i + 1) e1 H1 ρ' a' w' ?_ hat' h4
    rw [← List.tail_drop, hd]
    rfl

end
end Go.Proofs.Ytiekjbejgmdkkaa.Fw
