/- The evaluator of the small language; regions in their order. -/
import Derived.Test.YtdkdifjjpbfohaaFw12
namespace Go.Proofs.Ytdkdifjjpbfohaa.Fw
open Go

abbrev Env := Nat → Value
abbrev CallE := Nat → List Value → Heap → Option (Value × Heap)

def putE (env : Env) (d : Option Nat) (v : Value) : Env :=
  match d with
  | some d => upd env d v
  | none => env
def bOf (v : Value) : Option Bool :=
  match v with
  | .bool b => some b
  | _ => none
def yieldI (all : List IStmt) (env : Env) (j : Nat) : Option Bool :=
  match (all[j]?).bind (·.dst) with
  | some d => bOf (env d)
  | none => none
def wantedI (all : List IStmt) (s : IStmt) (env : Env) : Bool :=
  match s.guard with
  | none => true
  | some (j, want) => yieldI all env j == some want
def execI (call : CallE) (env : Env) (H : Heap) (op : IOp) : Option (Value × Heap) :=
  match op with
  | .call f args => call f (evs env args) H
  | .callv x args =>
    match x.ev env with
    | .func (.func f) first captured => call f (first.toList ++ evs env args ++ captured.toList) H
    | _ => none
  | .callc f args => bif (evs env args).all (pureV 6) then (call f (evs env args) []).bind fun r => (frz 8 r.2 r.1).map (·, H) else none
  | .calll f args => ((evs env args).mapM (frz 8 H)).bind fun as => (call f as []).bind fun r => bif flatV 4 r.1 then some (r.1, H) else none
  | .callf f args => (call f (evs env args) H).bind fun r => fzA r.2 r.1
  | op => stepI env H op
theorem execI_step (call : CallE) (env : Env) (H : Heap) {op : IOp} (h : isCall op = false) : execI call env H op = stepI env H op := by
  cases op <;> first | rfl | (cases h)
def stepS (call : CallE) (all : List IStmt) (s : IStmt) (env : Env) (H : Heap) : Option (Env × Heap) :=
  bif wantedI all s env then (execI call env H s.op).map fun r => (putE env s.dst r.1, r.2) else some (putE env s.dst undef, H)
def evalS (call : CallE) (all : List IStmt) : List IStmt → Env → Heap → Option (Env × Heap)
  | [], env, H => some (env, H)
  | s :: l, env, H => (stepS call all s env H).bind fun r => evalS call all l r.1 r.2

/-- What a call is known to do: the world's follows. -/
def AC (P : Program) (f : Nat) (args : List Value) (H : Heap) (v : Value) (H' : Heap) : Prop :=
  bodied P f = true ∧ ∀ ρ w args', VRs ρ H args args' → Rel ρ H w →
    Calls P f args'.toArray w fun e w' => ∃ v' ρ', e = .returned v' ∧ VR ρ' H' v v' ∧ Rel ρ' H' w' ∧ Fr ρ H w ρ' H' w'
def CallOk (P : Program) (call : CallE) : Prop := ∀ f args H v H', call f args H = some (v, H') → AC P f args H v H'

section
variable {P : Program} {nt : Nat} {env : Nat → Value} {H : Heap} {ρ : RP} {w : World} {a : Act} {call : CallE}

theorem callFunc_run {f : Nat} (hb : bodied P f = true) (args : Array Value) (w : World) : (callFunc f args).run P w = .ok (.enter f args) w := by
  unfold bodied at hb
  split at hb
  · rename_i fn hf
    simp only [Bool.and_eq_true, bne_iff_ne] at hb
    have h1 : (fn.name == "runtime.NumGoroutine") = false := by simpa using hb.2
    have h2 : fn.body.isNone = false := by
      cases h : fn.body with
      | none => rw [h] at hb; cases hb.1
      | some _ => rfl
    unfold callFunc
    simp only [Sem.run_bind, run_program, Result.andThen_ok, hf, h1, h2, Bool.false_eq_true, if_false, Sem.run_pure]
  · cases hb

theorem resolve_run (o : Oper) (f : Operand) (args : Array Operand) (tys : Array TypeId) {fn : Nat} {first captured : Array Value} (hf : a.eval f = .func (.func fn) first captured) (hb : bodied P fn = true) (ho : o.op = .call ⟨.value f, args, tys⟩) :
    (execOp a.eval o).run P w = .ok (.enter fn (first ++ args.map a.eval ++ captured)) w := by
  unfold execOp
  rw [ho]
  simp only [resolve, Sem.run_bind, hf, Deferred.ofValue, Sem.run_pure, Result.andThen_ok, invoke, callFunc_run hb]

theorem VRs.toArr {l : List Value} {c : Array Value} (h : VRs ρ H l c.toList) : VRs ρ H l c.toList := h
theorem VRs.of_array {f f' : Array Value} (h1 : f.size = f'.size) (h2 : ∀ (j : Nat) (h : j < f.size) (h' : j < f'.size), VR ρ H f[j] f'[j]) : VRs ρ H f.toList f'.toList := by
  refine ⟨by simpa using h1, fun j x x' hx hx' => ?_⟩
  simp only [Array.getElem?_toList] at hx hx'
  obtain ⟨q1, rfl⟩ := Array.getElem?_eq_some_iff.1 hx
  obtain ⟨q2, rfl⟩ := Array.getElem?_eq_some_iff.1 hx'
  exact h2 j q1 q2

theorem call_wp {o : Oper} {f : Operand} {args : Array Operand} {tys : Array TypeId} {fn : Nat} {first captured : Array Value} {l : List Value} (ho : o.op = .call ⟨.value f, args, tys⟩) (hf : a.eval f = .func (.func fn) first captured)
    {v : Value} {H' : Heap} (hac : AC P fn l H v H') (hl : VRs ρ H l (first.toList ++ (args.toList.map a.eval) ++ captured.toList)) (hr : Rel ρ H w) {next : Act → World → Prop} {Q : Exit → Act → World → Prop}
    (hn : ∀ v' w' ρ', VR ρ' H' v v' → Rel ρ' H' w' → Fr ρ H w ρ' H' w' → next (a.put o.dst v') w') : o.wp P a w next Q := by
  unfold Oper.wp
  rw [resolve_run o f args tys hf hac.1 ho, Oper.upon_enter]
  have := hac.2 ρ w _ hl hr
  have e1 : (first.toList ++ (args.toList.map a.eval) ++ captured.toList).toArray = first ++ args.map a.eval ++ captured := by
    apply Array.ext'
    simp
  rw [e1] at this
  refine Calls.mono this fun e w' h => ?_
  obtain ⟨v', ρ', rfl, h1, h2, h3⟩ := h
  exact hn v' w' ρ' h1 h2 h3

/-! Calls for themselves: what they are given bears no address of the heap, what they answer is there for good -/
theorem pure_vr {ρ1 : RP} {H1 : Heap} (hf : ∀ b c, ρ.fz b = some c → ρ1.fz b = some c) : ∀ (k : Nat) {v v' : Value}, pureV k v = true → VR ρ H v v' → VR ρ1 H1 v v'
  | 0, v, v', h, hv => by
    rw [hv.plain_inv h]; exact .plain _ h
  | k + 1, v, v', h, hv => by
    unfold pureV at h
    split at h
    · rename_i n f cs
      rw [List.all_eq_true] at h
      have hm : ∀ (j : Nat) (hj : j < cs.size), pureV k cs[j] = true := fun j hj => h _ (by simp)
      rcases hv.imm_inv with ⟨rfl, ⟨b, o, c', c, rfl, q1, q0, q2, q3, q4⟩ | ⟨rfl, rfl, a', rfl⟩⟩
      · exact .imm n cs b o c' c (hf _ _ q1) q0 q2 q3 fun j hj hj' => pure_vr hf k (hm j hj) (q4 j hj hj')
      · exact .imm0 a'
    · rename_i cs
      rw [List.all_eq_true] at h
      obtain ⟨cs', rfl, h1, h2⟩ := hv.agg_inv
      exact .agg cs cs' h1 fun j hj hj' => pure_vr hf k (h _ (by simp)) (h2 j hj hj')
    · rename_i cs
      rw [List.all_eq_true] at h
      obtain ⟨cs', rfl, h1, h2⟩ := hv.tuple_inv
      exact .tuple cs cs' h1 fun j hj hj' => pure_vr hf k (h _ (by simp)) (h2 j hj hj')
    · rename_i t x
      obtain ⟨x', rfl, h1⟩ := hv.iface_inv
      exact .iface t x x' (pure_vr hf k h h1)
    · rw [hv.plain_inv h]; exact .plain _ h
theorem flat_vr {ρ1 : RP} {H1 : Heap} : ∀ (k : Nat) {v v' : Value}, flatV k v = true → VR ρ H v v' → VR ρ1 H1 v v'
  | 0, v, v', h, hv => by
    rw [hv.plain_inv h]; exact .plain _ h
  | k + 1, v, v', h, hv => by
    unfold flatV at h
    split at h
    · rename_i cs
      rw [List.all_eq_true] at h
      obtain ⟨cs', rfl, h1, h2⟩ := hv.agg_inv
      exact .agg cs cs' h1 fun j hj hj' => flat_vr k (h _ (by simp)) (h2 j hj hj')
    · rename_i cs
      rw [List.all_eq_true] at h
      obtain ⟨cs', rfl, h1, h2⟩ := hv.tuple_inv
      exact .tuple cs cs' h1 fun j hj hj' => flat_vr k (h _ (by simp)) (h2 j hj hj')
    · rename_i t x
      obtain ⟨x', rfl, h1⟩ := hv.iface_inv
      exact .iface t x x' (flat_vr k h h1)
    · rw [hv.plain_inv h]; exact .plain _ h
theorem mapM_get {f : Value → Option Value} : ∀ {l m : List Value}, l.mapM f = some m → m.length = l.length ∧ ∀ (j : Nat) x, l[j]? = some x → ∃ y, m[j]? = some y ∧ f x = some y
  | [], m, h => by
    simp only [List.mapM_nil] at h
    obtain rfl := Option.some.inj h
    exact ⟨rfl, fun j x h => by simp at h⟩
  | x :: l, m, h => by
    simp only [List.mapM_cons, bind, Option.bind_eq_some_iff, pure, Option.some.injEq] at h
    obtain ⟨y, h1, m', h2, rfl⟩ := h
    obtain ⟨h3, h4⟩ := mapM_get h2
    refine ⟨by simp [h3], fun j z hz => ?_⟩
    cases j with
    | zero => simp at hz; subst hz; exact ⟨y, rfl, h1⟩
    | succ j => simp at hz; obtain ⟨u, h5, h6⟩ := h4 j z hz; exact ⟨u, by simpa using h5, h6⟩
theorem frz_oneC : ∀ (k : Nat) {v u : Value}, frz k H v = some u → oneC u = oneC v
  | 0, v, u, h => by
    simp only [frz] at h
    obtain ⟨_, rfl⟩ := bif_some h
    rfl
  | k + 1, v, u, h => by
    simp only [frz] at h
    cases hp : pureV (k + 1) v with
    | true => rw [hp] at h; obtain rfl := Option.some.inj h; rfl
    | false =>
      rw [hp, cond_false] at h
      split at h
      · split at h
        · simp only [Option.map_eq_some_iff] at h
          obtain ⟨l, _, rfl⟩ := h
          rfl
        · cases h
      · simp only [Option.map_eq_some_iff] at h
        obtain ⟨l, _, rfl⟩ := h
        rfl
      · simp only [Option.map_eq_some_iff] at h
        obtain ⟨l, _, rfl⟩ := h
        rfl
      · simp only [Option.map_eq_some_iff] at h
        obtain ⟨l, _, rfl⟩ := h
        rfl
      · cases h
theorem frz_vr {ρ2 : RP} {H2 : Heap} (hr : Rel ρ H w) (hf : ∀ b c, ρ.fz b = some c → ρ2.fz b = some c)
    (ho : ∀ i e, H[i]? = some e → e.obj.own = true → ∀ c t fr, w.heap[(ρ i).block]? = some (.cells c t fr) → ρ2.fz (ρ i).block = some c) : ∀ (k : Nat) {v v' u : Value}, frz k H v = some u → VR ρ H v v' → VR ρ2 H2 u v'
  | 0, v, v', u, h, hv => by
    simp only [frz] at h
    obtain ⟨hp, rfl⟩ := bif_some h
    exact pure_vr hf 0 hp hv
  | k + 1, v, v', u, h, hv => by
    simp only [frz] at h
    cases hp : pureV (k + 1) v with
    | true => rw [hp] at h; obtain rfl := Option.some.inj h; exact pure_vr hf (k + 1) hp hv
    | false =>
      rw [hp, cond_false] at h
      have hlist : ∀ {cs l : List Value} {cs' : List Value}, cs.mapM (frz k H) = some l → VRs ρ H cs cs' → VRs ρ2 H2 l cs' := fun {cs l cs'} h1 h2 => by
        obtain ⟨h3, h4⟩ := mapM_get h1
        refine ⟨by rw [h3, h2.1], fun j x x' hx hx' => ?_⟩
        have hj : j < cs.length := by rw [← h3]; exact (List.getElem?_eq_some_iff.1 hx).1
        obtain ⟨y, h5, h6⟩ := h4 j _ (List.getElem?_eq_getElem hj)
        rw [hx] at h5
        obtain rfl := Option.some.inj h5
        exact frz_vr hr hf ho k h6 (h2.2 j _ x' (List.getElem?_eq_getElem hj) hx')
      split at h
      · rename_i a n c0
        split at h
        · rename_i tag u0 cs hlk
          simp only [Option.map_eq_some_iff, Option.bind_eq_some_iff] at h
          obtain ⟨l2, ⟨l, h1, h2⟩, rfl⟩ := h
          obtain ⟨q1, q2⟩ := lk_some hlk
          obtain ⟨h3, h4⟩ := rdN_some h1
          obtain ⟨h5, h6⟩ := mapM_get h2
          rcases hv.sl_inv q1 q2 rfl with ⟨c', rfl, _, _, hn⟩ | ⟨rfl, _, a', rfl⟩
          · obtain ⟨c, t, fr, r1, r2, r3, r4⟩ := hr.cells _ _ false u0 cs q1 rfl
            have hat : ∀ (j : Nat) (hj : j < l2.toArray.size), ∃ x x', frz k H x = some l2.toArray[j] ∧ oneC x = true ∧ c[(ρ a.block).base + a.off + j]? = some x' ∧ VR ρ H x x' := fun j hj => by
              have hj' : j < l.length := by rw [← h5]; simpa using hj
              obtain ⟨y, h7, h8⟩ := h6 j _ (List.getElem?_eq_getElem hj')
              have h9 := h4 j _ (List.getElem?_eq_getElem hj')
              rw [List.getElem?_drop] at h9
              obtain ⟨h10, x', h11, h12⟩ := r4 _ _ h9
              refine ⟨_, x', ?_, h10, by rw [← Nat.add_assoc] at h11; exact h11, h12⟩
              rw [h8]
              congr 1
              have : l2[j]? = some l2.toArray[j] := by simp
              rw [h7] at this
              exact Option.some.inj this
            refine .imm n _ _ ((ρ a.block).base + a.off) c' c (ho _ _ q1 rfl c t fr r1) hn (fun j hj => ?_) (fun j hj => ?_) (fun j hj hj' => ?_)
            · obtain ⟨x, x', _, _, h8, _⟩ := hat j hj
              exact (Array.getElem?_eq_some_iff.1 h8).1
            · obtain ⟨x, x', h7, h8, _, _⟩ := hat j hj
              rw [frz_oneC k h7]; exact h8
            · obtain ⟨x, x', h7, _, h8, h9⟩ := hat j hj
              obtain ⟨h10, rfl⟩ := Array.getElem?_eq_some_iff.1 h8
              exact frz_vr hr hf ho k h7 h9
          · have : l2 = [] := List.eq_nil_of_length_eq_zero (by rw [h5, h3, Nat.zero_mul])
            subst this
            exact .imm0 a'
        · cases h
      · simp only [Option.map_eq_some_iff] at h
        obtain ⟨l, h1, rfl⟩ := h
        obtain ⟨cs', rfl, h2⟩ := hv.agg_list
        exact VRs.agg (by simpa using hlist h1 h2)
      · simp only [Option.map_eq_some_iff] at h
        obtain ⟨l, h1, rfl⟩ := h
        obtain ⟨cs', rfl, h2, h3⟩ := hv.tuple_inv
        exact VRs.tuple (by simpa using hlist h1 (VRs.of_array h2 h3))
      · simp only [Option.map_eq_some_iff] at h
        obtain ⟨x, h1, rfl⟩ := h
        obtain ⟨x', rfl, h2⟩ := hv.iface_inv
        exact .iface _ _ _ (frz_vr hr hf ho k h1 h2)
      · cases h

theorem callc_ok {f : Nat} {args : List Value} {v u : Value} {h' : Heap} (hac : AC P f args [] v h') (hp : args.all (pureV 6) = true) (hz : frz 8 h' v = some u) : AC P f args H u H := by
  refine ⟨hac.1, fun ρ w args' ha hr => ?_⟩
  rw [List.all_eq_true] at hp
  have ha' : VRs ρ [] args args' := ⟨ha.1, fun j x x' hx hx' => pure_vr (fun _ _ h => h) 6 (hp x (List.mem_of_getElem? hx)) (ha.2 j x x' hx hx')⟩
  refine (hac.2 ρ w args' ha' hr.nil').mono fun e w' h => ?_
  obtain ⟨v', ρ', rfl, h1, h2, h3⟩ := h
  have hk : ∀ b, b < w.heap.size → w'.heap[b]? = w.heap[b]? := fun b hb => h3.keep b hb fun i e h => by simp at h
  obtain ⟨ρ2, hρ2⟩ : ∃ ρ2 : RP, ρ2 = ⟨ρ.pl, fun b => if b < w.heap.size then ρ.fz b else match w'.heap[b]? with | some (.cells c _ _) => some c | _ => none⟩ := ⟨_, rfl⟩
  have hpl : ρ2.pl = ρ.pl := by rw [hρ2]
  have hlo : ∀ b, b < w.heap.size → ρ2.fz b = ρ.fz b := fun b hb => by rw [hρ2]; simp only []; rw [if_pos hb]
  have hhi : ∀ b c t fr, w.heap.size ≤ b → w'.heap[b]? = some (.cells c t fr) → ρ2.fz b = some c := fun b c t fr hb h => by
    rw [hρ2]; simp only []; rw [if_neg (by omega), h]
  have hhi' : ∀ b c, w.heap.size ≤ b → ρ2.fz b = some c → ∃ t fr, w'.heap[b]? = some (.cells c t fr) := fun b c hb h => by
    rw [hρ2] at h
    simp only [] at h
    rw [if_neg (by omega)] at h
    split at h
    · rename_i c' t fr h4
      obtain rfl := Option.some.inj h
      exact ⟨t, fr, h4⟩
    · cases h
  have hlt : ∀ b c, ρ.fz b = some c → b < w.heap.size := fun b c hb => by
    obtain ⟨⟨t, fr, h4⟩, _⟩ := hr.fz b c hb
    exact (Array.getElem?_eq_some_iff.1 h4).1
  obtain ⟨hR, hvr⟩ := hr.kept hpl hk (fun b c hb => by rw [hlo b (hlt b c hb)]; exact hb) (fun b c hb => by
    rcases Nat.lt_or_ge b w.heap.size with h4 | h4
    · rw [hlo b h4] at hb; exact .inl hb
    · exact .inr ⟨h4, hhi' b c h4 hb⟩)
  refine ⟨v', ρ2, rfl, ?_, hR, ⟨h3.os, h3.tape, h3.output, h3.size, fun b hb _ => hk b hb, fun i e he ho => .inr ⟨i, e, he, ho, by show (ρ.pl i).block = (ρ2.pl i).block; rw [hpl]⟩, fun b c hb => ?_, hvr⟩⟩
  · refine frz_vr h2 (fun b c hb => ?_) (fun i e he ho c t fr hc => ?_) 8 hz h1
    · rcases Nat.lt_or_ge b w.heap.size with h4 | h4
      · rw [hlo b h4]
        rcases h3.fz b c hb with h5 | h5 | ⟨j, e0, h5, _⟩
        · exact h5
        · omega
        · simp at h5
      · obtain ⟨⟨t, fr, h5⟩, _⟩ := h2.fz b c hb
        exact hhi b c t fr h4 h5
    · refine hhi _ c t fr ?_ hc
      rcases h3.own i e he ho with h5 | ⟨j, e0, h5, _⟩
      · exact h5
      · simp at h5
  · rcases Nat.lt_or_ge b w.heap.size with h4 | h4
    · rw [hlo b h4] at hb; exact .inl hb
    · exact .inr (.inl h4)

theorem callf_ok {f : Nat} {args : List Value} {v u : Value} {H1 H2 : Heap} (hac : AC P f args H v H1) (hz : fzA H1 v = some (u, H2)) : AC P f args H u H2 := by
  refine ⟨hac.1, fun ρ w args' ha hr => ?_⟩
  refine (hac.2 ρ w args' ha hr).mono fun e w' h => ?_
  obtain ⟨v', ρ', rfl, h1, h2, h3⟩ := h
  obtain ⟨ρ2, g1, g2, g3⟩ := fzA_ok h2 h1 hz
  exact ⟨v', ρ2, rfl, g2, g1, h3.trans g3⟩

theorem calll_ok {f : Nat} {args as : List Value} {v : Value} {h' : Heap} (hac : AC P f as [] v h') (hz : args.mapM (frz 8 H) = some as) (hv : flatV 4 v = true) : AC P f args H v H := by
  refine ⟨hac.1, fun ρ w args' ha hr => ?_⟩
  obtain ⟨ρc, hρc⟩ : ∃ ρc : RP, ρc = ⟨ρ.pl, fun b => match w.heap[b]? with | some (.cells c _ _) => some c | _ => none⟩ := ⟨_, rfl⟩
  have hin : ∀ b c t fr, w.heap[b]? = some (.cells c t fr) → ρc.fz b = some c := fun b c t fr h => by rw [hρc]; simp only []; rw [h]
  have hout : ∀ b c, ρc.fz b = some c → ∃ t fr, w.heap[b]? = some (.cells c t fr) := fun b c h => by
    rw [hρc] at h
    simp only [] at h
    split at h
    · rename_i c' t fr h4
      obtain rfl := Option.some.inj h
      exact ⟨t, fr, h4⟩
    · cases h
  have hrc : Rel ρc [] w := ⟨fun i e ro u cs h => by simp at h, fun i e kv h => by simp at h, fun i e s p h => by simp at h, fun b c hb => ⟨hout b c hb, fun i e h => by simp at h⟩, fun i j ei ej h => by simp at h⟩
  obtain ⟨g1, g2⟩ := mapM_get hz
  have ha' : VRs ρc [] as args' := ⟨by rw [g1, ha.1], fun j x x' hx hx' => by
    have hj : j < args.length := by rw [← g1]; exact (List.getElem?_eq_some_iff.1 hx).1
    obtain ⟨y, h5, h6⟩ := g2 j _ (List.getElem?_eq_getElem hj)
    rw [hx] at h5
    obtain rfl := Option.some.inj h5
    exact frz_vr hr (fun b c hb => by obtain ⟨⟨t, fr, h7⟩, _⟩ := hr.fz b c hb; exact hin b c t fr h7) (fun i e he ho c t fr hc => hin _ c t fr hc) 8 h6 (ha.2 j _ x' (List.getElem?_eq_getElem hj) hx')⟩
  refine (hac.2 ρc w args' ha' hrc).mono fun e w' h => ?_
  obtain ⟨v', ρ', rfl, h1, h2, h3⟩ := h
  have hk : ∀ b, b < w.heap.size → w'.heap[b]? = w.heap[b]? := fun b hb => h3.keep b hb fun i e h => by simp at h
  obtain ⟨hR, hvr⟩ := hr.kept (ρ2 := ρ) rfl hk (fun _ _ h => h) (fun _ _ h => .inl h)
  exact ⟨v', ρ, rfl, flat_vr 4 hv h1, hR, ⟨h3.os, h3.tape, h3.output, h3.size, fun b hb _ => hk b hb, fun i e he ho => .inr ⟨i, e, he, ho, rfl⟩, fun b c hb => .inl hb, hvr⟩⟩

theorem bif_some' {α : Type} {b : Bool} {x : Option α} {y : α} (h : (bif b then x else none) = some y) : b = true ∧ x = some y := by
  cases b with
  | false => cases h
  | true => exact ⟨rfl, h⟩
theorem op_ok (hcall : CallOk P call) {o : Oper} {op : IOp} (hc : chkOp P nt o.op op = true) {v : Value} {H' : Heap} (hs : execI call env H op = some (v, H')) (hr : Rel ρ H w) (he : EnvR ρ H nt env a)
    {next : Act → World → Prop} {Q : Exit → Act → World → Prop} (hn : ∀ v' w' ρ', VR ρ' H' v v' → Rel ρ' H' w' → Fr ρ H w ρ' H' w' → next (a.put o.dst v') w') : o.wp P a w next Q := by
  cases hic : isCall op with
  | false =>
    rw [execI_step call env H hic] at hs
    obtain ⟨r, v', w', ρ', h1, h2, h3, h4, h5⟩ := step_ok o op hc hic hs hr he
    unfold Oper.wp
    rw [h1]
    rcases h2 with rfl | ⟨rfl, rfl⟩
    · exact hn v' w' ρ' h3 h4 h5
    · exact hn _ w' ρ' h3 h4 h5
  | true =>
    cases op <;> first | (cases hic; done) | skip
    · rename_i f args
      simp only [execI] at hs
      have hac := hcall _ _ _ _ _ hs
      obtain ⟨dst, op, type, pos, after, guard⟩ := o
      simp only [] at hc
      unfold chkOp at hc
      split at hc <;> first | (rename_i h; cases h; done) | skip
      all_goals first | (cases hc; done) | skip
      rename_i h0
      cases h0
      simp only [Bool.and_eq_true] at hc
      obtain ⟨⟨h1, h2⟩, h3⟩ := hc
      have h1 := Nat.eq_of_beq_eq_true h1
      subst h1
      exact call_wp (first := #[]) (captured := #[]) rfl rfl hac (by simpa using opds_ok h3 he) hr hn
    · rename_i f args
      simp only [execI] at hs
      obtain ⟨hp, hs⟩ := bif_some' hs
      simp only [Option.bind_eq_some_iff, Option.map_eq_some_iff] at hs
      obtain ⟨⟨v0, h0'⟩, g1, u, g2, g3⟩ := hs
      obtain ⟨rfl, rfl⟩ := Prod.mk.inj g3
      have hac := callc_ok (H := H) (hcall _ _ _ _ _ g1) hp g2
      obtain ⟨dst, op, type, pos, after, guard⟩ := o
      simp only [] at hc
      unfold chkOp at hc
      split at hc <;> first | (rename_i h; cases h; done) | skip
      all_goals first | (cases hc; done) | skip
      rename_i h0
      cases h0
      simp only [Bool.and_eq_true] at hc
      obtain ⟨⟨h1, h2⟩, h3⟩ := hc
      have h1 := Nat.eq_of_beq_eq_true h1
      subst h1
      exact call_wp (first := #[]) (captured := #[]) rfl rfl hac (by simpa using opds_ok h3 he) hr hn
    · rename_i f args
      simp only [execI] at hs
      simp only [Option.bind_eq_some_iff] at hs
      obtain ⟨as, g1, ⟨v0, h0'⟩, g2, g3⟩ := hs
      obtain ⟨hp, g3⟩ := bif_some g3
      obtain ⟨rfl, rfl⟩ := Prod.mk.inj g3
      have hac := calll_ok (hcall _ _ _ _ _ g2) g1 hp
      obtain ⟨dst, op, type, pos, after, guard⟩ := o
      simp only [] at hc
      unfold chkOp at hc
      split at hc <;> first | (rename_i h; cases h; done) | skip
      all_goals first | (cases hc; done) | skip
      rename_i h0
      cases h0
      simp only [Bool.and_eq_true] at hc
      obtain ⟨⟨h1, h2⟩, h3⟩ := hc
      have h1 := Nat.eq_of_beq_eq_true h1
      subst h1
      exact call_wp (first := #[]) (captured := #[]) rfl rfl hac (by simpa using opds_ok h3 he) hr hn
    · rename_i f args
      simp only [execI] at hs
      simp only [Option.bind_eq_some_iff] at hs
      obtain ⟨⟨v0, h0'⟩, g2, g3⟩ := hs
      have hac := callf_ok (hcall _ _ _ _ _ g2) g3
      obtain ⟨dst, op, type, pos, after, guard⟩ := o
      simp only [] at hc
      unfold chkOp at hc
      split at hc <;> first | (rename_i h; cases h; done) | skip
      all_goals first | (cases hc; done) | skip
      rename_i h0
      cases h0
      simp only [Bool.and_eq_true] at hc
      obtain ⟨⟨h1, h2⟩, h3⟩ := hc
      have h1 := Nat.eq_of_beq_eq_true h1
      subst h1
      exact call_wp (first := #[]) (captured := #[]) rfl rfl hac (by simpa using opds_ok h3 he) hr hn
    · rename_i f args
      simp only [execI] at hs
      split at hs
      · rename_i fn first captured h0
        have hac := hcall _ _ _ _ _ hs
        obtain ⟨dst, op, type, pos, after, guard⟩ := o
        simp only [] at hc
        unfold chkOp at hc
        split at hc <;> first | (rename_i h; cases h; done) | skip
        all_goals first | (cases hc; done) | skip
        rename_i h1
        cases h1
        simp only [Bool.and_eq_true] at hc
        have hf := opd_ok hc.1 he
        rw [h0] at hf
        obtain ⟨f', c', g1, g2, g3, g4, g5⟩ := hf.func_inv
        exact call_wp rfl g1 hac ((VRs.append (VRs.append (VRs.of_array g2 g3) (opds_ok hc.2 he)) (VRs.of_array g4 g5))) hr hn
      · cases hs

/-! The temporaries behind a step -/
theorem EnvR.mono {ρ' : RP} {H' : Heap} (he : EnvR ρ H nt env a) (h : ∀ v v', VR ρ H v v' → VR ρ' H' v v') : EnvR ρ' H' nt env a := fun t ht => h _ _ (he t ht)
theorem put_size (a : Act) (d : Option Tmp) (v : Value) : (a.put d v).tmps.size = a.tmps.size := by
  cases d with
  | none => rfl
  | some d => simp [Act.put]
theorem put_defers' (a : Act) (d : Option Tmp) (v : Value) : (a.put d v).defers = a.defers := by cases d <;> rfl
theorem EnvR.put (he : EnvR ρ H nt env a) (hsz : a.tmps.size = nt) {d : Option Nat} {v v' : Value} (hv : VR ρ H v v') : EnvR ρ H nt (putE env d v) (a.put d v') := by
  intro t ht
  cases d with
  | none => exact he t ht
  | some d =>
    simp only [putE, Act.put, Act.eval]
    by_cases h : t = d
    · subst h
      rw [upd_same]
      have : (a.tmps.setIfInBounds t v').getD t undef = v' := by
        rw [Array.getD_eq_getD_getElem?, Array.getElem?_setIfInBounds_self_of_lt (by omega)]
        rfl
      rw [this]
      exact hv
    · rw [upd_ne _ _ h]
      have : (a.tmps.setIfInBounds d v').getD t undef = a.tmps.getD t undef := by
        rw [Array.getD_eq_getD_getElem?, Array.getD_eq_getD_getElem?, Array.getElem?_setIfInBounds_ne (fun q => h q.symm)]
      rw [this]
      exact he t ht
theorem VR.undef : VR ρ H undef undef := .plain _ rfl

/-- Is a bool, in the world as in the heap. -/
theorem VR.bOf {v v' : Value} (h : VR ρ H v v') : bOf v' = bOf v := by cases h <;> rfl

theorem chkS_some {o : Oper} {s : IStmt} (h : chkS P nt o s = true) : o.dst = s.dst ∧ o.guard = s.guard ∧ chkOp P nt o.op s.op = true ∧ ∀ d, o.dst = some d → d < nt := by
  simp only [chkS, Bool.and_eq_true, beq_iff_eq] at h
  obtain ⟨⟨⟨h1, h2⟩, h3⟩, h4⟩ := h
  refine ⟨h1, h2, h3, fun d hd => ?_⟩
  rw [hd] at h4
  simpa using h4
theorem chkL_get : ∀ {l : List Oper} {m : List IStmt}, chkL P nt l m = true → l.length = m.length ∧ ∀ (i : Nat) o s, l[i]? = some o → m[i]? = some s → chkS P nt o s = true
  | [], [], _ => ⟨rfl, fun i o s h => by simp at h⟩
  | [], _ :: _, h => by simp [chkL] at h
  | _ :: _, [], h => by simp [chkL] at h
  | o :: l, s :: m, h => by
    simp only [chkL, Bool.and_eq_true] at h
    obtain ⟨h1, h2⟩ := chkL_get h.2
    refine ⟨by simp [h1], fun i p q hp hq => ?_⟩
    cases i with
    | zero => simp at hp hq; subst hp; subst hq; exact h.1
    | succ i => simp at hp hq; exact h2 i p q hp hq

theorem yielded_eq {ops : Array Oper} {ss : List IStmt} (hc : chkL P nt ops.toList ss = true) (he : EnvR ρ H nt env a) (hsz : a.tmps.size = nt) (j : Nat) : yielded ops a.tmps j = yieldI ss env j := by
  obtain ⟨h1, h2⟩ := chkL_get hc
  unfold yielded yieldI
  cases ho : ops[j]? with
  | none =>
    have : ss[j]? = none := by
      rw [List.getElem?_eq_none_iff, ← h1, Array.length_toList]
      exact Array.getElem?_eq_none_iff.1 ho
    rw [this]
    rfl
  | some o =>
    have hj : j < ss.length := by rw [← h1, Array.length_toList]; exact (Array.getElem?_eq_some_iff.1 ho).1
    have hs := List.getElem?_eq_getElem hj
    rw [hs]
    obtain ⟨g1, _, _, g4⟩ := chkS_some (h2 j o ss[j] (by rw [Array.getElem?_toList]; exact ho) hs)
    simp only [Option.bind_some]
    rw [g1] at g4 ⊢
    cases hd : ss[j].dst with
    | none => rfl
    | some d =>
      have hdn := g4 d hd
      have hv := he d hdn
      have hb := hv.bOf
      have hd2 : a.tmps[d]? = some (a.eval (.tmp d)) := by
        simp only [Act.eval]
        rw [Array.getD_eq_getD_getElem?, Array.getElem?_eq_getElem (show d < a.tmps.size by rw [hsz]; exact hdn)]
        rfl
      simp only [Option.bind_some, hd2]
      rw [← hb]
      unfold Fw.bOf
      split <;> simp_all

theorem wanted_eq {ops : Array Oper} {ss : List IStmt} (hc : chkL P nt ops.toList ss = true) (he : EnvR ρ H nt env a) (hsz : a.tmps.size = nt) {o : Oper} {s : IStmt} (hg : o.guard = s.guard) :
    Region.wanted o (yielded ops a.tmps) = wantedI ss s env := by
  unfold Region.wanted wantedI
  rw [hg]
  cases s.guard with
  | none => rfl
  | some g => simp only [yielded_eq hc he hsz]

/-- What stands between two places of a run, of the temporaries too. -/
structure At (P : Program) (nt : Nat) (ρ0 : RP) (H0 : Heap) (w0 : World) (ρ : RP) (env : Env) (H : Heap) (a : Act) (w : World) : Prop where
  rel : Rel ρ H w
  env : EnvR ρ H nt env a
  size : a.tmps.size = nt
  defers : a.defers = []
  fr : Fr ρ0 H0 w0 ρ H w

theorem stepS_ok (hcall : CallOk P call) {ops : Array Oper} {ss : List IStmt} (hc : chkL P nt ops.toList ss = true) {i : Nat} {s : IStmt} (hi : ss[i]? = some s) {ρ0 : RP} {H0 : Heap} {w0 : World} (hat : At P nt ρ0 H0 w0 ρ env H a w)
    {env' : Env} {H' : Heap} (hs : stepS call ss s env H = some (env', H')) {Q : Exit → Act → World → Prop} {K : Act → World → Prop} (hk : ∀ a' w' ρ', At P nt ρ0 H0 w0 ρ' env' H' a' w' → K a' w') :
    wpOp P ops Q i K a w := by
  obtain ⟨h1, h2⟩ := chkL_get hc
  have hil : i < ops.toList.length := by rw [h1]; exact (List.getElem?_eq_some_iff.1 hi).1
  have ho := List.getElem?_eq_getElem hil
  obtain ⟨o, hoo⟩ : ∃ o, o = ops.toList[i] := ⟨_, rfl⟩
  rw [← hoo] at ho
  obtain ⟨g1, g2, g3, g4⟩ := chkS_some (h2 i o s ho hi)
  unfold wpOp
  rw [Array.getElem?_toList] at ho
  rw [ho]
  simp only []
  rw [wanted_eq hc hat.env hat.size g2]
  unfold stepS at hs
  cases hw : wantedI ss s env with
  | true =>
    rw [hw] at hs
    simp only [cond_true, Option.map_eq_some_iff] at hs
    obtain ⟨⟨v, H1⟩, h3, h4⟩ := hs
    obtain ⟨rfl, rfl⟩ := Prod.mk.inj h4
    rw [if_pos rfl]
    left
    refine op_ok hcall g3 h3 hat.rel hat.env fun v' w' ρ' q1 q2 q3 => hk _ _ ρ' ⟨q2, ?_, ?_, ?_, hat.fr.trans q3⟩
    · rw [g1]; exact (hat.env.mono q3.vr).put hat.size q1
    · rw [put_size]; exact hat.size
    · rw [put_defers']; exact hat.defers
  | false =>
    rw [hw] at hs
    simp only [cond_false] at hs
    obtain ⟨rfl, rfl⟩ := Prod.mk.inj (Option.some.inj hs)
    rw [if_neg (by decide)]
    refine hk _ _ ρ ⟨hat.rel, ?_, ?_, ?_, hat.fr⟩
    · rw [g1]; exact hat.env.put hat.size VR.undef
    · rw [put_size]; exact hat.size
    · rw [put_defers']; exact hat.defers

theorem evalS_ok (hcall : CallOk P call) {ops : Array Oper} {ss : List IStmt} (hc : chkL P nt ops.toList ss = true) {ρ0 : RP} {H0 : Heap} {w0 : World} {env' : Env} {H' : Heap} {Q : Exit → Act → World → Prop}
    (hk : ∀ a' w' ρ', At P nt ρ0 H0 w0 ρ' env' H' a' w' → Q .normal a' w') :
    ∀ (l : List IStmt) (i : Nat) (env : Env) (H : Heap) (ρ : RP) (a : Act) (w : World), ss.drop i = l → At P nt ρ0 H0 w0 ρ env H a w → evalS call ss l env H = some (env', H') →
      wpOps P ops Q (List.range' i (ops.size - i)) a w := by
  intro l
  have hlen : ops.size = ss.length := by rw [← (chkL_get hc).1, Array.length_toList]
  induction l with
  | nil =>
    intro i env H ρ a w hd hat hs
    have : ops.size - i = 0 := by rw [hlen]; have := congrArg List.length hd; simpa using this
    rw [this]
    simp only [evalS] at hs
    obtain ⟨rfl, rfl⟩ := Prod.mk.inj (Option.some.inj hs)
    exact hk _ _ _ hat
  | cons s l ih =>
    intro i env H ρ a w hd hat hs
    have hl := congrArg List.length hd
    simp only [List.length_drop, List.length_cons] at hl
    have hsz : ops.size - i = (ops.size - (i + 1)) + 1 := by omega
    rw [hsz, List.range'_succ, wpOps_cons]
    have hi : ss[i]? = some s := by
      have : (ss.drop i)[0]? = some s := by rw [hd]; rfl
      rwa [List.getElem?_drop, Nat.add_zero] at this
    simp only [evalS, Option.bind_eq_some_iff] at hs
    obtain ⟨⟨e1, H1⟩, h3, h4⟩ := hs
    refine stepS_ok hcall hc hi hat h3 fun a' w' ρ' hat' => ih (i + 1) e1 H1 ρ' a' w' ?_ hat' h4
    rw [← List.tail_drop, hd]
    rfl

end
end Go.Proofs.Ytdkdifjjpbfohaa.Fw
