/- The evaluator of the small language; regions in any order. -/
import Derived.Test.YtdkdifjjpbfohaaFw13
namespace Go.Proofs.Ytdkdifjjpbfohaa.Fw
open Go
set_option linter.unusedSimpArgs false
set_option linter.unusedVariables false

/-- The operands of an operation. -/
def partOpds (l : List (Nat × Opd)) : List Opd := l.map (·.2)
def partOpds3 (l : List (Nat × Nat × Opd)) : List Opd := l.map (·.2.2)
def IOp.opds : IOp → List Opd
  | .mv x | .un _ x | .conv _ x | .cvs x | .b2s x | .s2b x | .box _ x | .load x | .loadN _ x | .fa _ x | .fld _ _ x | .len _ x | .ext x _ | .nilc x | .mki _ x | .mvf x | .cpy _ _ x | .s2bi x | .cvsl x | .cvslf x | .rng x | .nxt x => [x]
  | .pick c a b => [c, a, b]
  | .bin _ x y | .eqb _ x y | .eqn _ _ x y | .eqs _ _ x y | .store _ x y | .ixa _ x y | .ixr _ _ x y | .ixs x y | .app _ _ x y | .appf _ _ x y | .appz _ _ x y | .mks _ _ x y | .mx x y | .mn x y => [x, y]
  | .alloc _ _ | .bsle | .bslz _ | .mkm => []
  | .lku _ _ _ _ x k => [x, k]
  | .mup _ x k v => [x, k, v]
  | .sle _ x lo hi m2 => x :: (lo.toList ++ hi.toList ++ m2.toList)
  | .slr _ _ x lo hi => x :: (lo.toList ++ hi.toList)
  | .sls x lo hi => x :: (lo.toList ++ hi.toList)
  | .bsl _ _ _ parts | .bsli _ _ _ parts => partOpds parts
  | .bld _ parts => partOpds3 parts
  | .mkf _ first captured => first ++ captured
  | .call _ args | .callc _ args | .calll _ args | .callf _ args => args
  | .callv f args => f :: args

/-- Nothing of the heap (0), read alone (1), or more (2). -/
def kindI : IOp → Nat
  | .mv _ | .pick _ _ _ | .bin _ _ _ | .un _ _ | .eqb _ _ _ | .eqn _ _ _ _ | .eqs _ _ _ _ | .conv _ _ | .cvs _ | .fa _ _ | .fld _ _ _ | .ixa _ _ _ | .ixr _ _ _ _ | .ixs _ _ | .sls _ _ _ | .bld _ _ | .ext _ _ | .nilc _ | .mki _ _ | .mkf _ _ _ | .mx _ _ | .mn _ _ | .callc _ _ | .bsli _ _ _ _ | .bsle | .s2bi _ => 0
  | .b2s _ | .load _ | .loadN _ _ | .sle _ _ _ _ _ | .slr _ _ _ _ _ | .lku _ _ _ _ _ _ | .cpy _ _ _ => 1
  | .len kd _ => if kd = 2 then 1 else 0
  | _ => 2

theorem evs_congr {env env' : Env} {l : List Opd} (h : ∀ x ∈ l, x.ev env = x.ev env') : evs env l = evs env' l := List.map_congr_left h
theorem optB_congr {env env' : Env} {o : Option Opd} (h : ∀ x ∈ o.toList, x.ev env = x.ev env') : optB env o = optB env' o := by
  cases o with
  | none => rfl
  | some x => simp only [optB]; rw [h x (by simp)]
theorem optI_congr {env env' : Env} {o : Option Opd} (d : Int) (h : ∀ x ∈ o.toList, x.ev env = x.ev env') : optI env d o = optI env' d o := by
  cases o with
  | none => rfl
  | some x => simp only [optI]; rw [h x (by simp)]
theorem parts_congr {α : Type} {env env' : Env} {l : List (Nat × Opd)} (f : Nat → Value → α) (h : ∀ x ∈ partOpds l, x.ev env = x.ev env') : l.map (fun q => f q.1 (q.2.ev env)) = l.map (fun q => f q.1 (q.2.ev env')) :=
  List.map_congr_left fun q hq => by rw [h q.2 (List.mem_map.2 ⟨q, hq, rfl⟩)]
theorem parts3_congr {env env' : Env} {l : List (Nat × Nat × Opd)} (h : ∀ x ∈ partOpds3 l, x.ev env = x.ev env') : l.map (fun q => (q.1, q.2.1, q.2.2.ev env)) = l.map (fun q => (q.1, q.2.1, q.2.2.ev env')) :=
  List.map_congr_left fun q hq => by rw [h q.2.2 (List.mem_map.2 ⟨q, hq, rfl⟩)]

theorem execI_congr {call : CallE} {env env' : Env} {H : Heap} {op : IOp} (h : ∀ x ∈ op.opds, x.ev env = x.ev env') : execI call env H op = execI call env' H op := by
  cases op <;> simp only [IOp.opds, List.forall_mem_cons, List.forall_mem_append, List.not_mem_nil, false_imp_iff, implies_true, and_true] at h
  case bsl n len z parts =>
    have := parts_congr (fun i v => (i * n, n, v)) h
    simp only [execI, stepI]
    rw [this]
  case bsli n len z parts =>
    have := parts_congr (fun i v => (i * n, n, v)) h
    simp only [execI, stepI]
    rw [this]
  case bld z parts =>
    have := parts3_congr h
    simp only [execI, stepI]
    rw [this]
  case sle n x lo hi mx =>
    obtain ⟨h1, ⟨h2, h3⟩, h4⟩ := h
    simp only [execI, stepI, h1, optB_congr h2, optB_congr h3, optB_congr h4]
  case slr len n x lo hi =>
    obtain ⟨h1, h2, h3⟩ := h
    simp only [execI, stepI, h1, optI_congr _ h2, optI_congr _ h3]
  case sls x lo hi =>
    obtain ⟨h1, h2, h3⟩ := h
    simp only [execI, stepI, h1, optI_congr _ h2, optI_congr _ h3]
  case mkf f first captured =>
    simp only [execI, stepI, evs_congr h.1, evs_congr h.2]
  case call f args => simp only [execI, evs_congr h]
  case callc f args => simp only [execI, evs_congr h]
  case calll f args => simp only [execI, evs_congr h]
  case callf f args => simp only [execI, evs_congr h]
  case callv f args => simp only [execI, h.1, evs_congr h.2]
  all_goals first
    | rfl
    | (obtain ⟨h1, h2, h3⟩ := h; simp only [execI, stepI, h1, h2, h3])
    | (obtain ⟨h1, h2⟩ := h; simp only [execI, stepI, h1, h2])
    | simp only [execI, stepI, h]

theorem map_heap {α : Type} {o : Option α} {f : α → Value} {H : Heap} {v : Value} {H1 : Heap} (h : o.map (fun r => (f r, H)) = some (v, H1)) : H1 = H ∧ ∀ H' : Heap, o.map (fun r => (f r, H')) = some (v, H') := by
  cases o with
  | none => cases h
  | some r =>
    simp only [Option.map_some, Option.some.injEq, Prod.mk.injEq] at h ⊢
    exact ⟨h.2.symm, fun H' => ⟨h.1, trivial⟩⟩

theorem mapV {o : Option Value} {H H1 : Heap} {v : Value} (h : o.map (·, H) = some (v, H1)) : H1 = H ∧ ∀ H' : Heap, o.map (·, H') = some (v, H') := by
  cases o with
  | none => cases h
  | some r =>
    simp only [Option.map_some, Option.some.injEq, Prod.mk.injEq] at h ⊢
    exact ⟨h.2.symm, fun H' => ⟨h.1, trivial⟩⟩
theorem kind0 {call : CallE} {env : Env} {H H1 : Heap} {op : IOp} {v : Value} (hk : kindI op = 0) (h : execI call env H op = some (v, H1)) : H1 = H ∧ ∀ H', execI call env H' op = some (v, H') := by
  cases op <;> first | (cases hk; done) | skip
  case len kd x =>
    simp only [kindI] at hk
    have hk : kd ≠ 2 := by intro h; rw [if_pos h] at hk; cases hk
    have hb : Nat.beq kd 2 = false := by
      cases hq : Nat.beq kd 2 with
      | false => rfl
      | true => exact absurd (Nat.eq_of_beq_eq_true hq) hk
    simp only [execI, stepI, lenI] at h ⊢
    split at h <;> (try simp only [hb, cond_false] at h ⊢) <;> first | (cases h; done) | skip
    · rename_i h1
      cases hq : Nat.beq kd 1 <;> rw [hq] at h <;> first | (cases h; done) | skip
      obtain ⟨rfl, rfl⟩ := Prod.mk.inj (Option.some.inj h)
      exact ⟨rfl, fun _ => rfl⟩
    · rename_i h1
      cases hq : Nat.beq kd 1 <;> rw [hq] at h <;> first | (cases h; done) | skip
      obtain ⟨rfl, rfl⟩ := Prod.mk.inj (Option.some.inj h)
      exact ⟨rfl, fun _ => rfl⟩
    · rename_i h1
      cases hq : Nat.beq kd 0 <;> rw [hq] at h <;> first | (cases h; done) | skip
      obtain ⟨rfl, rfl⟩ := Prod.mk.inj (Option.some.inj h)
      exact ⟨rfl, fun _ => rfl⟩
    · split at h <;> cases h
  case bsli n len z parts =>
    simp only [execI, stepI, Option.bind_eq_some_iff] at h ⊢
    obtain ⟨cs, h1, h2⟩ := h
    obtain ⟨h3, h2⟩ := bif_some h2
    obtain ⟨rfl, rfl⟩ := Prod.mk.inj h2
    exact ⟨rfl, fun H' => ⟨cs, h1, by rw [h3]; rfl⟩⟩
  case callc f args =>
    simp only [execI] at h ⊢
    obtain ⟨hp, h⟩ := bif_some' h
    simp only [Option.bind_eq_some_iff, Option.map_eq_some_iff] at h
    obtain ⟨r, g1, u, g2, g3⟩ := h
    obtain ⟨rfl, rfl⟩ := Prod.mk.inj g3
    exact ⟨rfl, fun H' => by rw [hp, cond_true, g1, Option.bind_some, g2]; rfl⟩
  all_goals simp only [execI, stepI, faI, ixaI] at h ⊢
  all_goals first
    | (obtain ⟨rfl, rfl⟩ := Prod.mk.inj (Option.some.inj h); exact ⟨rfl, fun _ => rfl⟩)
    | exact mapV h
    | exact map_heap h
    | ((repeat' split at h) <;> first
        | (cases h; done)
        | (obtain ⟨rfl, rfl⟩ := Prod.mk.inj (Option.some.inj h); exact ⟨rfl, fun _ => by simp [*]⟩)
        | exact mapV h
        | exact map_heap h
        | (rename_i p q _ _
           cases p <;> cases q <;> first
             | (cases h; done)
             | (obtain ⟨rfl, rfl⟩ := Prod.mk.inj (Option.some.inj h); exact ⟨rfl, fun _ => rfl⟩)))
theorem bif_none {α : Type} {b : Bool} {y : α} (h : (bif b then none else none) = some y) : False := by cases b <;> cases h
theorem kind1 {call : CallE} {env : Env} {H H1 : Heap} {op : IOp} {v : Value} (hk : kindI op = 1) (h : execI call env H op = some (v, H1)) : H1 = H := by
  cases op <;> first | (cases hk; done) | skip
  case cpy n eb y =>
    simp only [execI, stepI, cpyI] at h
    split at h
    · rename_i src m _
      cases hb : Nat.beq m 0 with
      | true => rw [hb] at h; obtain ⟨rfl, rfl⟩ := Prod.mk.inj (Option.some.inj h); rfl
      | false =>
        rw [hb, cond_false] at h
        split at h
        · obtain ⟨rfl, rfl⟩ := Prod.mk.inj (Option.some.inj h); rfl
        · cases h
    · cases h
  all_goals simp only [execI, stepI, loadI, loadNI, b2sI, sleI, lenI, lkuI, cpyI] at h ⊢
  all_goals first
    | ((repeat' split at h) <;> first
        | (cases h; done)
        | (obtain ⟨rfl, rfl⟩ := Prod.mk.inj (Option.some.inj h); rfl)
        | exact (mapV h).1
        | exact (map_heap h).1
        | (obtain ⟨_, h⟩ := bif_some h; obtain ⟨rfl, rfl⟩ := Prod.mk.inj h; rfl)
        | exact (bif_none h).elim)

/-! ### What is known of a region in any order -/
def tmpOf : Opd → Option Nat
  | .t n => some n
  | .c _ => none
def namesI (ss : List IStmt) (s : IStmt) : List Nat :=
  s.dst.toList ++ s.op.opds.filterMap tmpOf ++ (match s.guard with | some (g, _) => ((ss[g]?).bind (·.dst)).toList | none => [])
/-- Steps that may not change places. -/
def clash (ss : List IStmt) (a b : IStmt) : Bool :=
  (match a.dst with | some d => (namesI ss b).contains d | none => false) || (match b.dst with | some d => (namesI ss a).contains d | none => false) || (Nat.beq (kindI a.op) 2 && Nat.beq (kindI b.op) 2)
def ordOk (ss : List IStmt) (bs : List (List Nat)) : Bool :=
  ss.zipIdx.all fun (s, i) => ss.zipIdx.all fun (r, j) => !(Nat.blt j i) || !(clash ss r s) || (bs.getD i []).contains j
def befOk (bs : List (List Nat)) : List Oper → List (List Nat) → Nat → Bool
  | [], [], _ => true
  | o :: l, b :: m, i => (b.all fun k => Nat.blt k i && o.after.any fun e => Region.binds .any e && (Nat.beq e.on k || (bs.getD e.on []).contains k)) &&
      (o.after.all fun e => !(Region.binds .any e) || Nat.blt e.on i) && befOk bs l m (i + 1)
  | _, _, _ => false
/-- Where a step that reads may find itself. -/
def effs (ss : List IStmt) : List Nat := (List.range ss.length).filter fun e => match ss[e]? with | some s => Nat.beq (kindI s.op) 2 | none => false
def spots (ss : List IStmt) (bs : List (List Nat)) (i : Nat) : List Nat :=
  let es := effs ss
  (bif es.all fun e => !((bs.getD i []).contains e) then [0] else []) ++
    (es.filter fun e => !((bs.getD e []).contains i) && es.all fun e' => !((bs.getD i []).contains e') || Nat.ble e' e).map (· + 1)
/-- Between two places nothing more than reads lies. -/
def quiet (ss : List IStmt) (p q : Nat) : Bool := (effs ss).all fun e => !(Nat.ble p e && Nat.blt e q)
def cksOf (ss : List IStmt) (bs : List (List Nat)) : List (Nat × Nat) :=
  ((List.range ss.length).filter fun i => match ss[i]? with | some s => Nat.beq (kindI s.op) 1 | none => false).flatMap fun i =>
    ((spots ss bs i).filter fun p => !(bif Nat.ble p i then quiet ss p i else quiet ss i p)).map fun p => (i, p)
def chkB (P : Program) (nt : Nat) (ops : Array Oper) (ss : List IStmt) (bs : List (List Nat)) : Bool :=
  chkL P nt ops.toList ss && befOk bs ops.toList bs 0 && ordOk ss bs
def addL (l m : List Nat) : List Nat := m.foldl (fun l k => bif l.contains k then l else k :: l) l
def befs : List Oper → List (List Nat) → List (List Nat)
  | [], acc => acc
  | o :: l, acc => befs l (acc ++ [o.after.toList.foldl (fun s e => bif Region.binds .any e then addL (addL s (acc.getD e.on [])) [e.on] else s) []])
def chkD (P : Program) (nt : Nat) (ops : Array Oper) (ss : List IStmt) (cks : List (Nat × Nat)) : Bool :=
  chkB P nt ops ss (befs ops.toList []) && (cksOf ss (befs ops.toList [])).all (cks.contains ·)

def trS (call : CallE) (all : List IStmt) : List IStmt → Env → Heap → Option (List (Env × Heap))
  | [], env, H => some [(env, H)]
  | s :: l, env, H => (stepS call all s env H).bind fun r => (trS call all l r.1 r.2).map ((env, H) :: ·)
def ckOk (ss : List IStmt) (tr : List (Env × Heap)) (c : Nat × Nat) : Prop :=
  ∀ s e h e' h', ss[c.1]? = some s → tr[c.1]? = some (e, h) → tr[c.2]? = some (e', h') → wantedI ss s e = true → (stepI e h' s.op).map (·.1) = (stepI e h s.op).map (·.1)

theorem trS_spec {call : CallE} {all : List IStmt} : ∀ {l : List IStmt} {env : Env} {H : Heap} {tr : List (Env × Heap)}, trS call all l env H = some tr →
    tr.length = l.length + 1 ∧ tr[0]? = some (env, H) ∧ ∀ (i : Nat) s r r', l[i]? = some s → tr[i]? = some r → tr[i + 1]? = some r' → stepS call all s r.1 r.2 = some r'
  | [], env, H, tr, h => by
    simp only [trS] at h
    obtain rfl := Option.some.inj h
    exact ⟨rfl, rfl, fun i s r r' h => by simp at h⟩
  | s :: l, env, H, tr, h => by
    simp only [trS, Option.bind_eq_some_iff, Option.map_eq_some_iff] at h
    obtain ⟨r1, h1, t, h2, rfl⟩ := h
    obtain ⟨g1, g2, g3⟩ := trS_spec h2
    refine ⟨by simp [g1], rfl, fun i s' r r' hs hr hr' => ?_⟩
    cases i with
    | zero =>
      simp at hs hr
      subst hs; subst hr
      rw [List.getElem?_cons_succ, g2] at hr'
      obtain rfl := Option.some.inj hr'
      exact h1
    | succ i =>
      simp only [List.getElem?_cons_succ] at hs hr hr'
      exact g3 i s' r r' hs hr hr'

end Go.Proofs.Ytdkdifjjpbfohaa.Fw
