/- A region in any order does what it does in its own. -/
import Derived.Test.YtdkdifjjpbfohaaFw14
namespace Go.Proofs.Ytdkdifjjpbfohaa.Fw
open Go

section
variable (ss : List IStmt) (E : Nat → Env) (Hf : Nat → Heap)
def eL (L : Nat → Bool) : Nat → Env
  | 0 => E 0
  | k + 1 => fun t => match ss[k]? with
    | some s => bif L k && (s.dst == some t) then E (k + 1) t else eL L k t
    | none => eL L k t
def hL (L : Nat → Bool) : Nat → Heap
  | 0 => Hf 0
  | k + 1 => match ss[k]? with
    | some s => bif L k && Nat.beq (kindI s.op) 2 then Hf (k + 1) else hL L k
    | none => hL L k
end

section
variable {ss : List IStmt} {E : Nat → Env} {Hf : Nat → Heap} {call : CallE} {bs : Nat → List Nat} {L : Nat → Bool}

theorem putE_ne {env : Env} {d : Option Nat} {v : Value} {t : Nat} (h : d ≠ some t) : putE env d v t = env t := by
  cases d with
  | none => rfl
  | some d => exact upd_ne _ _ (fun q => h (by rw [q]))
theorem putE_same {env : Env} {v : Value} {t : Nat} : putE env (some t) v t = v := upd_same _ _ _

theorem stepS_cases {s : IStmt} {env env' : Env} {H H' : Heap} (h : stepS call ss s env H = some (env', H')) :
    ∃ v, env' = putE env s.dst v ∧ ((wantedI ss s env = true ∧ execI call env H s.op = some (v, H')) ∨ (wantedI ss s env = false ∧ v = undef ∧ H' = H)) := by
  unfold stepS at h
  cases hw : wantedI ss s env with
  | true =>
    rw [hw] at h
    simp only [cond_true, Option.map_eq_some_iff] at h
    obtain ⟨⟨v, H1⟩, h3, h4⟩ := h
    obtain ⟨rfl, rfl⟩ := Prod.mk.inj h4
    exact ⟨v, rfl, .inl ⟨rfl, h3⟩⟩
  | false =>
    rw [hw] at h
    simp only [cond_false] at h
    obtain ⟨rfl, rfl⟩ := Prod.mk.inj (Option.some.inj h)
    exact ⟨undef, rfl, .inr ⟨rfl, rfl, rfl⟩⟩

theorem stepS_ne {s : IStmt} {env env' : Env} {H H' : Heap} (h : stepS call ss s env H = some (env', H')) {t : Nat} (ht : s.dst ≠ some t) : env' t = env t := by
  obtain ⟨v, rfl, _⟩ := stepS_cases h
  exact putE_ne ht

theorem kind_ne2 {op : IOp} (h : Nat.beq (kindI op) 2 = false) : kindI op = 0 ∨ kindI op = 1 := by
  cases op <;> first
    | exact .inl rfl
    | exact .inr rfl
    | (cases h; done)
    | skip
  case len kd x =>
    simp only [kindI]
    split
    · exact .inr rfl
    · exact .inl rfl

theorem stepS_heap {s : IStmt} {env env' : Env} {H H' : Heap} (h : stepS call ss s env H = some (env', H')) (hk : Nat.beq (kindI s.op) 2 = false) : H' = H := by
  obtain ⟨v, _, ⟨_, h1⟩ | ⟨_, _, h1⟩⟩ := stepS_cases h
  · rcases kind_ne2 hk with h2 | h2
    · exact (kind0 h2 h1).1
    · exact kind1 h2 h1
  · exact h1

variable (hstep : ∀ i s, ss[i]? = some s → stepS call ss s (E i) (Hf i) = some (E (i + 1), Hf (i + 1)))
  (hord : ∀ i j s r, ss[i]? = some s → ss[j]? = some r → j < i → clash ss r s = true → j ∈ bs i)
  (hD : ∀ i, L i = true → ∀ k ∈ bs i, L k = true)
include hstep hord hD

omit hstep hord hD in
theorem clash_l {a b : IStmt} {t : Nat} (h1 : a.dst = some t) (h2 : t ∈ namesI ss b) : clash ss a b = true := by
  unfold clash
  rw [h1]
  simp [h2]
omit hstep hord hD in
theorem clash_r {a b : IStmt} {t : Nat} (h1 : b.dst = some t) (h2 : t ∈ namesI ss a) : clash ss a b = true := by
  unfold clash
  rw [h1]
  simp [h2]
omit hstep hord hD in
theorem clash_k {a b : IStmt} (h1 : Nat.beq (kindI a.op) 2 = true) (h2 : Nat.beq (kindI b.op) 2 = true) : clash ss a b = true := by
  unfold clash
  rw [h1, h2]
  simp

theorem eL_name {i : Nat} {s : IStmt} (hi : ss[i]? = some s) (hL0 : L i = false) (hb : ∀ k ∈ bs i, L k = true) {t : Nat} (ht : t ∈ namesI ss s) : ∀ k, k ≤ ss.length → eL ss E L k t = E (min k i) t := by
  intro k
  induction k with
  | zero => intro _; simp [eL]
  | succ k ih =>
    intro hk
    have ih := ih (by omega)
    have hr := List.getElem?_eq_getElem (show k < ss.length by omega)
    obtain ⟨r, hrr⟩ : ∃ r, r = ss[k] := ⟨_, rfl⟩
    rw [← hrr] at hr
    simp only [eL, hr]
    cases hc : (L k && (r.dst == some t)) with
    | true =>
      simp only [Bool.and_eq_true, beq_iff_eq] at hc
      rw [cond_true]
      rcases Nat.lt_trichotomy k i with h | h | h
      · rw [Nat.min_eq_left (by omega)]
      · subst h; rw [hc.1] at hL0; cases hL0
      · have := hord k i r s hr hi h (clash_r hc.2 ht)
        rw [hD k hc.1 i this] at hL0
        cases hL0
    | false =>
      rw [cond_false, ih]
      rcases Nat.lt_or_ge k i with h | h
      · rw [Nat.min_eq_left (by omega), Nat.min_eq_left (by omega)]
        refine (stepS_ne (hstep k r hr) fun hd => ?_).symm
        have := hb k (hord i k s r hi hr h (clash_l hd ht))
        rw [this, hd] at hc
        simp at hc
      · rw [Nat.min_eq_right h, Nat.min_eq_right (by omega)]

theorem hL_eff {i : Nat} {s : IStmt} (hi : ss[i]? = some s) (hL0 : L i = false) (hb : ∀ k ∈ bs i, L k = true) (ht : Nat.beq (kindI s.op) 2 = true) : ∀ k, k ≤ ss.length → hL ss Hf L k = Hf (min k i) := by
  intro k
  induction k with
  | zero => intro _; simp [hL]
  | succ k ih =>
    intro hk
    have ih := ih (by omega)
    have hr := List.getElem?_eq_getElem (show k < ss.length by omega)
    obtain ⟨r, hrr⟩ : ∃ r, r = ss[k] := ⟨_, rfl⟩
    rw [← hrr] at hr
    simp only [hL, hr]
    cases hc : (L k && Nat.beq (kindI r.op) 2) with
    | true =>
      simp only [Bool.and_eq_true] at hc
      rw [cond_true]
      rcases Nat.lt_trichotomy k i with h | h | h
      · rw [Nat.min_eq_left (by omega)]
      · subst h; rw [hc.1] at hL0; cases hL0
      · have := hord k i r s hr hi h (clash_k ht hc.2)
        rw [hD k hc.1 i this] at hL0
        cases hL0
    | false =>
      rw [cond_false, ih]
      rcases Nat.lt_or_ge k i with h | h
      · rw [Nat.min_eq_left (by omega), Nat.min_eq_left (by omega)]
        refine (stepS_heap (hstep k r hr) ?_).symm
        cases hq : Nat.beq (kindI r.op) 2 with
        | false => rfl
        | true =>
          have := hb k (hord i k s r hi hr h (clash_k hq ht))
          rw [this, hq] at hc
          cases hc
      · rw [Nat.min_eq_right h, Nat.min_eq_right (by omega)]

omit hstep hord hD in
/-- One more is listed. -/
theorem eL_other {i : Nat} {s : IStmt} (hi : ss[i]? = some s) (hL0 : L i = false) {t : Nat} (ht : s.dst ≠ some t) : ∀ k, eL ss E (upd L i true) k t = eL ss E L k t := by
  intro k
  induction k with
  | zero => rfl
  | succ k ih =>
    simp only [eL]
    cases hr : ss[k]? with
    | none => exact ih
    | some r =>
      simp only []
      rw [ih]
      by_cases hk : k = i
      · subst hk
        rw [hi] at hr
        cases hr
        have : (s.dst == some t) = false := by simpa using ht
        rw [this]
        simp
      · rw [upd_ne _ _ hk]
omit hstep in
theorem eL_same {i : Nat} {s : IStmt} (hi : ss[i]? = some s) (hL0 : L i = false) {t : Nat} (ht : s.dst = some t) : ∀ k, i + 1 ≤ k → k ≤ ss.length → eL ss E (upd L i true) k t = E (i + 1) t := by
  intro k
  induction k with
  | zero => intro h _; omega
  | succ k ih =>
    intro h1 h2
    have hr := List.getElem?_eq_getElem (show k < ss.length by omega)
    obtain ⟨r, hrr⟩ : ∃ r, r = ss[k] := ⟨_, rfl⟩
    rw [← hrr] at hr
    simp only [eL, hr]
    by_cases hk : k = i
    · subst hk
      rw [hi] at hr
      cases hr
      rw [upd_same, ht]
      simp
    · rw [upd_ne _ _ hk]
      cases hc : (L k && (r.dst == some t)) with
      | true =>
        simp only [Bool.and_eq_true, beq_iff_eq] at hc
        have := hord k i r s hr hi (by omega) (clash_l ht (by unfold namesI; rw [hc.2]; simp))
        rw [hD k hc.1 i this] at hL0
        cases hL0
      | false => exact ih (by omega) (by omega)
omit hstep hord hD in
theorem hL_other {i : Nat} {s : IStmt} (hi : ss[i]? = some s) (ht : Nat.beq (kindI s.op) 2 = false) : ∀ k, hL ss Hf (upd L i true) k = hL ss Hf L k := by
  intro k
  induction k with
  | zero => rfl
  | succ k ih =>
    simp only [hL]
    cases hr : ss[k]? with
    | none => exact ih
    | some r =>
      simp only []
      rw [ih]
      by_cases hk : k = i
      · subst hk
        rw [hi] at hr
        cases hr
        rw [ht]
        simp
      · rw [upd_ne _ _ hk]
omit hstep in
theorem hL_same {i : Nat} {s : IStmt} (hi : ss[i]? = some s) (hL0 : L i = false) (ht : Nat.beq (kindI s.op) 2 = true) : ∀ k, i + 1 ≤ k → k ≤ ss.length → hL ss Hf (upd L i true) k = Hf (i + 1) := by
  intro k
  induction k with
  | zero => intro h _; omega
  | succ k ih =>
    intro h1 h2
    have hr := List.getElem?_eq_getElem (show k < ss.length by omega)
    obtain ⟨r, hrr⟩ : ∃ r, r = ss[k] := ⟨_, rfl⟩
    rw [← hrr] at hr
    simp only [hL, hr]
    by_cases hk : k = i
    · subst hk
      rw [hi] at hr
      cases hr
      rw [upd_same, ht]
      simp
    · rw [upd_ne _ _ hk]
      cases hc : (L k && Nat.beq (kindI r.op) 2) with
      | true =>
        simp only [Bool.and_eq_true] at hc
        have := hord k i r s hr hi (by omega) (clash_k ht hc.2)
        rw [hD k hc.1 i this] at hL0
        cases hL0
      | false => exact ih (by omega) (by omega)

omit hstep hord hD in
theorem hL_last : ∀ k, k ≤ ss.length → (hL ss Hf L k = Hf 0 ∧ ∀ e r, e < k → ss[e]? = some r → Nat.beq (kindI r.op) 2 = true → L e = false) ∨
    (∃ e r, e < k ∧ ss[e]? = some r ∧ Nat.beq (kindI r.op) 2 = true ∧ L e = true ∧ hL ss Hf L k = Hf (e + 1) ∧ ∀ e' r', e < e' → e' < k → ss[e']? = some r' → Nat.beq (kindI r'.op) 2 = true → L e' = false) := by
  intro k
  induction k with
  | zero => intro _; exact .inl ⟨rfl, fun e r h => by omega⟩
  | succ k ih =>
    intro hk
    have hr := List.getElem?_eq_getElem (show k < ss.length by omega)
    obtain ⟨r, hrr⟩ : ∃ r, r = ss[k] := ⟨_, rfl⟩
    rw [← hrr] at hr
    simp only [hL, hr]
    cases hc : (L k && Nat.beq (kindI r.op) 2) with
    | true =>
      simp only [Bool.and_eq_true] at hc
      exact .inr ⟨k, r, by omega, hr, hc.2, hc.1, rfl, fun e' r' h1 h2 => by omega⟩
    | false =>
      rw [cond_false]
      have hlast : ∀ q, ss[k]? = some q → Nat.beq (kindI q.op) 2 = true → L k = false := fun q hq hq2 => by
        rw [hr] at hq
        cases hq
        rw [hq2] at hc
        simpa using hc
      rcases ih (by omega) with ⟨h1, h2⟩ | ⟨e, q, h1, h2, h3, h4, h5, h6⟩
      · refine .inl ⟨h1, fun e q he hq hq2 => ?_⟩
        rcases Nat.lt_or_ge e k with h | h
        · exact h2 e q h hq hq2
        · have : e = k := by omega
          subst this
          exact hlast q hq hq2
      · refine .inr ⟨e, q, by omega, h2, h3, h4, h5, fun e' q' g1 g2 g3 g4 => ?_⟩
        rcases Nat.lt_or_ge e' k with h | h
        · exact h6 e' q' g1 h g3 g4
        · have : e' = k := by omega
          subst this
          exact hlast q' g3 g4

omit hord hD in
theorem quiet_eq {p : Nat} : ∀ q, p ≤ q → q ≤ ss.length → quiet ss p q = true → Hf q = Hf p := by
  intro q
  induction q with
  | zero => intro h _ _; have : p = 0 := by omega
            rw [this]
  | succ q ih =>
    intro h1 h2 h3
    rcases Nat.lt_or_ge q p with h | h
    · have : p = q + 1 := by omega
      rw [this]
    · have hr := List.getElem?_eq_getElem (show q < ss.length by omega)
      unfold quiet at h3
      rw [List.all_eq_true] at h3
      rw [← ih h (by omega) (by
        unfold quiet
        rw [List.all_eq_true]
        intro e he
        have := h3 e he
        simp only [Bool.not_eq_true', Bool.and_eq_false_iff] at this ⊢
        rcases this with h | h
        · exact .inl h
        · right
          rw [Bool.eq_false_iff] at h ⊢
          intro hh
          apply h
          simp only [Nat.blt_eq] at hh ⊢
          omega)]
      refine stepS_heap (hstep q _ hr) ?_
      cases hk : Nat.beq (kindI ss[q].op) 2 with
      | false => rfl
      | true =>
        have := h3 q (by
          unfold effs
          rw [List.mem_filter, List.mem_range]
          refine ⟨by omega, ?_⟩
          rw [hr]
          exact hk)
        simp only [Bool.not_eq_true', Bool.and_eq_false_iff] at this
        rcases this with h4 | h4
        · rw [Bool.eq_false_iff] at h4
          exact absurd (Nat.ble_eq_true_of_le h) h4
        · rw [Bool.eq_false_iff] at h4
          exact absurd (by simp) h4


theorem stepL {bsl : List (List Nat)} (hbs : ∀ i, bs i = bsl.getD i []) {tr : List (Env × Heap)} (htr : ∀ i, i ≤ ss.length → tr[i]? = some (E i, Hf i)) (hck : ∀ c ∈ cksOf ss bsl, ckOk ss tr c)
    {i : Nat} {s : IStmt} (hi : ss[i]? = some s) (hL0 : L i = false) (hb : ∀ k ∈ bs i, L k = true) :
    stepS call ss s (eL ss E L ss.length) (hL ss Hf L ss.length) = some (eL ss E (upd L i true) ss.length, hL ss Hf (upd L i true) ss.length) := by
  have hin : i < ss.length := (List.getElem?_eq_some_iff.1 hi).1
  have hmin : min ss.length i = i := Nat.min_eq_right (by omega)
  have hname : ∀ t, t ∈ namesI ss s → eL ss E L ss.length t = E i t := fun t ht => by
    have := eL_name hstep hord hD hi hL0 hb ht ss.length (Nat.le_refl _)
    rwa [hmin] at this
  have hw : wantedI ss s (eL ss E L ss.length) = wantedI ss s (E i) := by
    unfold wantedI
    cases hg : s.guard with
    | none => rfl
    | some g =>
      obtain ⟨g, want⟩ := g
      simp only []
      congr 1
      unfold yieldI
      cases hd : (ss[g]?).bind (·.dst) with
      | none => rfl
      | some d =>
        simp only []
        rw [hname d (by unfold namesI; rw [hg]; simp [hd])]
  have hops : ∀ x ∈ s.op.opds, x.ev (eL ss E L ss.length) = x.ev (E i) := fun x hx => by
    cases x with
    | c v => rfl
    | t n =>
      refine hname n ?_
      unfold namesI
      simp only [List.mem_append]
      exact .inl (.inr (List.mem_filterMap.2 ⟨_, hx, rfl⟩))
  have heL : ∀ v, E (i + 1) = putE (E i) s.dst v → eL ss E (upd L i true) ss.length = putE (eL ss E L ss.length) s.dst v := fun v hv => by
    funext t
    by_cases ht : s.dst = some t
    · rw [eL_same hord hD hi hL0 ht ss.length (by omega) (Nat.le_refl _), hv, ht, putE_same, putE_same]
    · rw [eL_other hi hL0 ht, putE_ne ht]
  have h0 := hstep i s hi
  obtain ⟨v, h1, h2⟩ := stepS_cases h0
  rw [heL v h1]
  have heff : Nat.beq (kindI s.op) 2 = true → hL ss Hf L ss.length = Hf i ∧ hL ss Hf (upd L i true) ss.length = Hf (i + 1) := fun hk => by
    have := hL_eff hstep hord hD hi hL0 hb hk ss.length (Nat.le_refl _)
    rw [hmin] at this
    exact ⟨this, hL_same hord hD hi hL0 hk ss.length (by omega) (Nat.le_refl _)⟩
  unfold stepS
  rw [hw]
  rcases h2 with ⟨h2, h3⟩ | ⟨h2, rfl, h3⟩
  · rw [h2, cond_true, execI_congr hops]
    cases hk : Nat.beq (kindI s.op) 2 with
    | true =>
      obtain ⟨g1, g2⟩ := heff hk
      rw [g1, g2, h3]
      rfl
    | false =>
      rw [hL_other hi hk]
      rcases kind_ne2 hk with hk0 | hk1
      · rw [(kind0 hk0 h3).2]
        rfl
      · have hic : isCall s.op = false := by
          cases hq : s.op <;> first | rfl | (rw [hq] at hk1; cases hk1)
        rw [execI_step _ _ _ hic] at h3 ⊢
        have hH := kind1 (call := call) hk1 (by rw [execI_step _ _ _ hic]; exact h3)
        have main : ∃ p, p ≤ ss.length ∧ p ∈ spots ss bsl i ∧ hL ss Hf L ss.length = Hf p := by
          have hset : ∀ e r, ss[e]? = some r → Nat.beq (kindI r.op) 2 = true → e ∈ effs ss := fun e r he hr => by
            unfold effs
            rw [List.mem_filter, List.mem_range]
            exact ⟨(List.getElem?_eq_some_iff.1 he).1, by rw [he]; exact hr⟩
          have hset' : ∀ e ∈ effs ss, ∃ r, ss[e]? = some r ∧ Nat.beq (kindI r.op) 2 = true := fun e he => by
            unfold effs at he
            rw [List.mem_filter, List.mem_range] at he
            obtain ⟨g1, g2⟩ := he
            rw [List.getElem?_eq_getElem g1] at g2
            exact ⟨_, List.getElem?_eq_getElem g1, g2⟩
          rcases hL_last (Hf := Hf) (L := L) ss.length (Nat.le_refl _) with ⟨g1, g2⟩ | ⟨e, r, g1, g2, g3, g4, g5, g6⟩
          · refine ⟨0, Nat.zero_le _, ?_, g1⟩
            unfold spots
            have : (effs ss).all (fun e => !((bsl.getD i []).contains e)) = true := by
              rw [List.all_eq_true]
              intro e he
              obtain ⟨r, q1, q2⟩ := hset' e he
              have := g2 e r (List.getElem?_eq_some_iff.1 q1).1 q1 q2
              simp only [Bool.not_eq_true', List.contains_eq_mem, decide_eq_false_iff_not]
              intro hm
              rw [← hbs] at hm
              rw [hb e hm] at this
              cases this
            simp only [this, cond_true]
            simp
          · refine ⟨e + 1, by omega, ?_, g5⟩
            unfold spots
            simp only [List.mem_append, List.mem_map, List.mem_filter]
            right
            refine ⟨e, ⟨hset e r g2 g3, ?_⟩, rfl⟩
            simp only [Bool.and_eq_true, Bool.not_eq_true', List.contains_eq_mem, decide_eq_false_iff_not, List.all_eq_true, Bool.or_eq_true]
            refine ⟨fun hm => ?_, fun e' he' => ?_⟩
            · rw [← hbs] at hm
              rw [hD e g4 i hm] at hL0
              cases hL0
            · by_cases hm : e' ∈ bsl.getD i []
              · right
                obtain ⟨r', q1, q2⟩ := hset' e' he'
                rcases Nat.lt_or_ge e e' with hlt | hge
                · have := g6 e' r' hlt (List.getElem?_eq_some_iff.1 q1).1 q1 q2
                  rw [← hbs] at hm
                  rw [hb e' hm] at this
                  cases this
                · exact Nat.ble_eq_true_of_le hge
              · left; exact hm
        obtain ⟨p, hp1, hp2, hp3⟩ := main
        rw [hp3]
        cases hq : (bif Nat.ble p i then quiet ss p i else quiet ss i p) with
        | true =>
          have : Hf p = Hf i := by
            cases hpi : Nat.ble p i with
            | true =>
              rw [hpi] at hq
              exact (quiet_eq hstep i (Nat.le_of_ble_eq_true hpi) (by omega) hq).symm
            | false =>
              rw [hpi] at hq
              have : i ≤ p := by
                rcases Nat.lt_or_ge p i with h | h
                · rw [Nat.ble_eq_true_of_le (by omega)] at hpi; cases hpi
                · exact h
              exact quiet_eq hstep p this hp1 hq
          rw [this, h3, ← hH]
          rfl
        | false =>
          have hc : (i, p) ∈ cksOf ss bsl := by
            unfold cksOf
            rw [List.mem_flatMap]
            refine ⟨i, ?_, ?_⟩
            · rw [List.mem_filter, List.mem_range]
              refine ⟨hin, ?_⟩
              rw [hi]
              simp only [hk1]
              rfl
            · rw [List.mem_map]
              exact ⟨p, List.mem_filter.2 ⟨hp2, by rw [hq]; rfl⟩, rfl⟩
          have := hck _ hc s _ _ _ _ hi (htr i (by omega)) (htr p hp1) h2
          rw [h3] at this
          simp only [Option.map_some, Option.map_eq_some_iff] at this
          obtain ⟨⟨v2, H2⟩, q1, rfl⟩ := this
          rw [q1]
          have := kind1 (call := call) hk1 (by rw [execI_step _ _ _ hic]; exact q1)
          rw [this]
          rfl
  · rw [h2, cond_false]
    cases hk : Nat.beq (kindI s.op) 2 with
    | true =>
      obtain ⟨g1, g2⟩ := heff hk
      rw [g1, g2, h3]
    | false => rw [hL_other hi hk]

omit hord hD in
/-- All are listed. -/
theorem eL_all (hall : ∀ i, i < ss.length → L i = true) : ∀ k, k ≤ ss.length → eL ss E L k = E k ∧ hL ss Hf L k = Hf k := by
  intro k
  induction k with
  | zero => intro _; exact ⟨rfl, rfl⟩
  | succ k ih =>
    intro hk
    obtain ⟨h1, h2⟩ := ih (by omega)
    have hr := List.getElem?_eq_getElem (show k < ss.length by omega)
    obtain ⟨r, hrr⟩ : ∃ r, r = ss[k] := ⟨_, rfl⟩
    rw [← hrr] at hr
    have hs := hstep k r hr
    constructor
    · funext t
      simp only [eL, hr, hall k (by omega), Bool.true_and]
      cases hd : (r.dst == some t) with
      | true => rfl
      | false =>
        rw [cond_false, h1]
        exact (stepS_ne hs (by simpa using hd)).symm
    · simp only [hL, hr, hall k (by omega), Bool.true_and]
      cases hd : Nat.beq (kindI r.op) 2 with
      | true => rfl
      | false =>
        rw [cond_false, h2]
        exact (stepS_heap hs hd).symm

end
end Go.Proofs.Ytdkdifjjpbfohaa.Fw
