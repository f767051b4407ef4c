/- Steps: held against nil, structs held against each other, strings and bytes, cuts. -/
import Derived.Test.YtdkdifjjpbfohaaFw5
namespace Go.Proofs.Ytdkdifjjpbfohaa.Fw
open Go
section
variable {P : Program} {nt : Nat} {env : Nat → Value} {H : Heap} {ρ : RP} {w : World} {a : Act}

theorem nilT_cases {t : TypeId} {kd : Nat} (h : nilT P t = some kd) :
    (∃ e, P.underlying t = some (.pointer e) ∧ kd = 0) ∨ (∃ e, P.underlying t = some (.slice e) ∧ kd = 1) ∨ (∃ k e, P.underlying t = some (.map k e) ∧ kd = 2) ∨
    (∃ ps rs v, P.underlying t = some (.func ps rs v) ∧ kd = 3) ∨ (∃ ms, P.underlying t = some (.interface ms) ∧ kd = 4) := by
  unfold nilT at h
  split at h
  · rename_i e h1; exact .inl ⟨e, h1, (Option.some.inj h).symm⟩
  · rename_i e h1; exact .inr (.inl ⟨e, h1, (Option.some.inj h).symm⟩)
  · rename_i k e h1; exact .inr (.inr (.inl ⟨k, e, h1, (Option.some.inj h).symm⟩))
  · rename_i ps rs v h1; exact .inr (.inr (.inr (.inl ⟨ps, rs, v, h1, (Option.some.inj h).symm⟩)))
  · rename_i ms h1; exact .inr (.inr (.inr (.inr ⟨ms, h1, (Option.some.inj h).symm⟩)))
  · cases h

/-- A value of a kind, as it is told of what stands for it. -/
theorem isNil_rel {kd : Nat} {v v' : Value} {b : Bool} (h : isNil kd v = some b) (hv : VR ρ H v v') : isNilR kd v' = some b := by
  cases v with
  | pointer p =>
    cases p with
    | none => rw [hv.plain_inv rfl]; exact h
    | some ad => obtain ⟨a', rfl⟩ := hv.ptr_some; exact h
  | slice p n c =>
    cases p with
    | none => rw [hv.plain_inv rfl]; exact h
    | some ad => obtain ⟨a', c', rfl⟩ := hv.sl_some; exact h
  | map r =>
    cases r with
    | none => rw [hv.plain_inv rfl]; exact h
    | some r => rw [hv.map_inv]; exact h
  | nilFunc => rw [hv.plain_inv rfl]; exact h
  | nilIface => rw [hv.plain_inv rfl]; exact h
  | func fn f c =>
    cases fn with
    | func fn => obtain ⟨f', c', rfl, _⟩ := hv.func_inv; exact h
    | yield n => obtain ⟨a, c', rfl⟩ := hv.imm_sl; exact h
    | methodOf t m => obtain ⟨_, _, _, _, _, _, rfl, _⟩ := hv.iptr_inv; exact h
    | _ => simp [isNil] at h
  | iface t x => obtain ⟨x', rfl, _⟩ := hv.iface_inv; exact h
  | _ => simp [isNil] at h

theorem isNil_kd {kd : Nat} {v : Value} {b : Bool} (h : isNilR kd v = some b) :
    (kd = 0 ∧ ∃ p, v = .pointer p ∧ b = p.isNone) ∨ (kd = 1 ∧ ∃ p n c, v = .slice p n c ∧ b = p.isNone) ∨ (kd = 2 ∧ ∃ p, v = .map p ∧ b = p.isNone) ∨
    (kd = 3 ∧ ((v = .nilFunc ∧ b = true) ∨ ∃ fn f c, v = .func fn f c ∧ b = false)) ∨ (kd = 4 ∧ ((v = .nilIface ∧ b = true) ∨ ∃ t x, v = .iface t x ∧ b = false)) := by
  unfold isNilR at h
  split at h
  case h_1 => obtain ⟨h1, h2⟩ := bif_some h; exact .inl ⟨Nat.eq_of_beq_eq_true h1, none, rfl, h2.symm⟩
  case h_2 p => obtain ⟨h1, h2⟩ := bif_some h; exact .inl ⟨Nat.eq_of_beq_eq_true h1, some p, rfl, h2.symm⟩
  case h_3 n c => obtain ⟨h1, h2⟩ := bif_some h; exact .inr (.inl ⟨Nat.eq_of_beq_eq_true h1, none, n, c, rfl, h2.symm⟩)
  case h_4 p n c => obtain ⟨h1, h2⟩ := bif_some h; exact .inr (.inl ⟨Nat.eq_of_beq_eq_true h1, some p, n, c, rfl, h2.symm⟩)
  case h_5 => obtain ⟨h1, h2⟩ := bif_some h; exact .inr (.inr (.inl ⟨Nat.eq_of_beq_eq_true h1, none, rfl, h2.symm⟩))
  case h_6 p => obtain ⟨h1, h2⟩ := bif_some h; exact .inr (.inr (.inl ⟨Nat.eq_of_beq_eq_true h1, some p, rfl, h2.symm⟩))
  case h_7 => obtain ⟨h1, h2⟩ := bif_some h; exact .inr (.inr (.inr (.inl ⟨Nat.eq_of_beq_eq_true h1, .inl ⟨rfl, h2.symm⟩⟩)))
  case h_8 fn f c => obtain ⟨h1, h2⟩ := bif_some h; exact .inr (.inr (.inr (.inl ⟨Nat.eq_of_beq_eq_true h1, .inr ⟨fn, f, c, rfl, h2.symm⟩⟩)))
  case h_9 => obtain ⟨h1, h2⟩ := bif_some h; exact .inr (.inr (.inr (.inr ⟨Nat.eq_of_beq_eq_true h1, .inl ⟨rfl, h2.symm⟩⟩)))
  case h_10 t x => obtain ⟨h1, h2⟩ := bif_some h; exact .inr (.inr (.inr (.inr ⟨Nat.eq_of_beq_eq_true h1, .inr ⟨t, x, rfl, h2.symm⟩⟩)))
  case h_11 => cases h

theorem run_equal_nil {t : TypeId} {kd : Nat} (ht : nilT P t = some kd) {x y : Value} {p q : Bool} (hx : isNilR kd x = some p) (hy : isNilR kd y = some q) (h : (p || q) = true) : (Op.equal t x y).run P w = .ok (p && q) w := by
  unfold Op.equal Op.maxDepth Op.equalIn
  rcases isNil_kd hx with ⟨rfl, r1, rfl, rfl⟩ | ⟨rfl, r1, n1, c1, rfl, rfl⟩ | ⟨rfl, r1, rfl, rfl⟩ | ⟨rfl, hx1⟩ | ⟨rfl, hx1⟩
  · rcases isNil_kd hy with ⟨_, r2, rfl, rfl⟩ | ⟨k, _⟩ | ⟨k, _⟩ | ⟨k, _⟩ | ⟨k, _⟩
    · rcases nilT_cases ht with ⟨e, he, _⟩ | ⟨_, _, k⟩ | ⟨_, _, _, k⟩ | ⟨_, _, _, _, k⟩ | ⟨_, _, k⟩
      · rw [Sem.run_bind, run_underlying he, Result.andThen_ok]
        cases r1 <;> cases r2 <;> first | rfl | cases h
      all_goals omega
    all_goals omega
  · rcases isNil_kd hy with ⟨k, _⟩ | ⟨_, r2, n2, c2, rfl, rfl⟩ | ⟨k, _⟩ | ⟨k, _⟩ | ⟨k, _⟩
    · omega
    · rcases nilT_cases ht with ⟨_, _, k⟩ | ⟨e, he, _⟩ | ⟨_, _, _, k⟩ | ⟨_, _, _, _, k⟩ | ⟨_, _, k⟩
      · omega
      · rw [Sem.run_bind, run_underlying he, Result.andThen_ok]
        cases r1 <;> cases r2 <;> first | rfl | cases h
      all_goals omega
    all_goals omega
  · rcases isNil_kd hy with ⟨k, _⟩ | ⟨k, _⟩ | ⟨_, r2, rfl, rfl⟩ | ⟨k, _⟩ | ⟨k, _⟩
    · omega
    · omega
    · rcases nilT_cases ht with ⟨_, _, k⟩ | ⟨_, _, k⟩ | ⟨k1, e, he, _⟩ | ⟨_, _, _, _, k⟩ | ⟨_, _, k⟩
      · omega
      · omega
      · rw [Sem.run_bind, run_underlying he, Result.andThen_ok]
        cases r1 <;> cases r2 <;> first | rfl | cases h
      all_goals omega
    all_goals omega
  · rcases isNil_kd hy with ⟨k, _⟩ | ⟨k, _⟩ | ⟨k, _⟩ | ⟨_, hy1⟩ | ⟨k, _⟩
    · omega
    · omega
    · omega
    · rcases nilT_cases ht with ⟨_, _, k⟩ | ⟨_, _, k⟩ | ⟨_, _, _, k⟩ | ⟨ps, rs, v, he, _⟩ | ⟨_, _, k⟩
      · omega
      · omega
      · omega
      · rcases hx1 with ⟨rfl, rfl⟩ | ⟨fn, f, c, rfl, rfl⟩ <;> rcases hy1 with ⟨rfl, rfl⟩ | ⟨fn2, f2, c2, rfl, rfl⟩ <;>
        first | exact absurd h (by decide) | (rw [Sem.run_bind, run_underlying he, Result.andThen_ok]; rfl)
      · omega
    · omega
  · rcases isNil_kd hy with ⟨k, _⟩ | ⟨k, _⟩ | ⟨k, _⟩ | ⟨k, _⟩ | ⟨_, hy1⟩
    · omega
    · omega
    · omega
    · omega
    · rcases nilT_cases ht with ⟨_, _, k⟩ | ⟨_, _, k⟩ | ⟨_, _, _, k⟩ | ⟨_, _, _, _, k⟩ | ⟨ms, he, _⟩
      · omega
      · omega
      · omega
      · omega
      · rcases hx1 with ⟨rfl, rfl⟩ | ⟨t1, x1, rfl, rfl⟩ <;> rcases hy1 with ⟨rfl, rfl⟩ | ⟨t2, x2, rfl, rfl⟩ <;>
        first | exact absurd h (by decide) | (rw [Sem.run_bind, run_underlying he, Result.andThen_ok]; rfl)

theorem run_binOp_eql (t : TypeId) {x y : Value} {kd : Nat} {p q r : Bool} (hx : isNilR kd x = some p) (hy : isNilR kd y = some q) (h : (Op.equal t x y).run P w = .ok r w) :
    (binOp .eql t x y).run P w = .ok (.bool r) w ∧ (binOp .neq t x y).run P w = .ok (.bool (!r)) w := by
  have e1 : binOp .eql t x y = (do Pure.pure (.bool (← Op.equal t x y))) := by
    rcases isNil_kd hx with ⟨rfl, r1, rfl, rfl⟩ | ⟨rfl, r1, n1, c1, rfl, rfl⟩ | ⟨rfl, r1, rfl, rfl⟩ | ⟨rfl, ⟨rfl, _⟩ | ⟨_, _, _, rfl, _⟩⟩ | ⟨rfl, ⟨rfl, _⟩ | ⟨_, _, rfl, _⟩⟩ <;>
    rcases isNil_kd hy with ⟨_, r2, rfl, rfl⟩ | ⟨_, r2, n2, c2, rfl, rfl⟩ | ⟨_, r2, rfl, rfl⟩ | ⟨_, ⟨rfl, _⟩ | ⟨_, _, _, rfl, _⟩⟩ | ⟨_, ⟨rfl, _⟩ | ⟨_, _, rfl, _⟩⟩ <;> rfl
  have e2 : binOp .neq t x y = (do Pure.pure (.bool (!(← Op.equal t x y)))) := by
    rcases isNil_kd hx with ⟨rfl, r1, rfl, rfl⟩ | ⟨rfl, r1, n1, c1, rfl, rfl⟩ | ⟨rfl, r1, rfl, rfl⟩ | ⟨rfl, ⟨rfl, _⟩ | ⟨_, _, _, rfl, _⟩⟩ | ⟨rfl, ⟨rfl, _⟩ | ⟨_, _, rfl, _⟩⟩ <;>
    rcases isNil_kd hy with ⟨_, r2, rfl, rfl⟩ | ⟨_, r2, n2, c2, rfl, rfl⟩ | ⟨_, r2, rfl, rfl⟩ | ⟨_, ⟨rfl, _⟩ | ⟨_, _, _, rfl, _⟩⟩ | ⟨_, ⟨rfl, _⟩ | ⟨_, _, rfl, _⟩⟩ <;> rfl
  rw [e1, e2]
  simp only [Sem.run_bind, h, Result.andThen_ok, Sem.run_pure, and_self]

theorem run_eqGuard_nil (op : BinOp) (t : TypeId) {o1 o2 : Operand} (hc : (Region.isConst o1 || Region.isConst o2) = true) {x y : Value} {kd : Nat} {p q : Bool} (hx : isNilR kd x = some p) (hy : isNilR kd y = some q) :
    (eqGuard op t o1 o2 x y).run P w = .ok () w := by
  unfold eqGuard
  rcases isNil_kd hx with ⟨rfl, r1, rfl, rfl⟩ | ⟨rfl, r1, n1, c1, rfl, rfl⟩ | ⟨rfl, r1, rfl, rfl⟩ | ⟨rfl, ⟨rfl, _⟩ | ⟨_, _, _, rfl, _⟩⟩ | ⟨rfl, ⟨rfl, _⟩ | ⟨_, _, rfl, _⟩⟩ <;>
  rcases isNil_kd hy with ⟨_, r2, rfl, rfl⟩ | ⟨_, r2, n2, c2, rfl, rfl⟩ | ⟨_, r2, rfl, rfl⟩ | ⟨_, ⟨rfl, _⟩ | ⟨_, _, _, rfl, _⟩⟩ | ⟨_, ⟨rfl, _⟩ | ⟨_, _, rfl, _⟩⟩ <;>
  cases op <;> first
    | rfl
    | (cases o1 <;> cases o2 <;> first | rfl | exact absurd (show false = true from hc) (by decide))

theorem step_eqn {kd : Nat} {neg : Bool} {op : BinOp} {t : TypeId} {x y : Operand} {x' y' : Opd} (ho : eqOp neg op = true) (ht : nilT P t = some kd) (hc : (Region.isConst x || Region.isConst y) = true)
    (h1 : chkO nt x x' = true) (h2 : chkO nt y y' = true) {v : Value} {H' : Heap}
    (hs : stepI env H (.eqn kd neg x' y') = some (v, H')) (hr : Rel ρ H w) (he : EnvR ρ H nt env a) :
    Done P (do Pure.pure (.value (← (do eqGuard op t x y (a.eval x) (a.eval y); binOp op t (a.eval x) (a.eval y))))) w ρ H v H' := by
  have hx := opd_ok h1 he
  have hy := opd_ok h2 he
  simp only [stepI] at hs
  split at hs
  · rename_i p q h4 h5
    obtain ⟨h6, h7⟩ := bif_some hs
    obtain ⟨rfl, rfl⟩ := Prod.mk.inj h7
    have hx' := isNil_rel h4 hx
    have hy' := isNil_rel h5 hy
    have heq := run_equal_nil (w := w) ht hx' hy' h6
    obtain ⟨e1, e2⟩ := run_binOp_eql (P := P) (w := w) t hx' hy' heq
    have hg := run_eqGuard_nil (P := P) (w := w) op t hc hx' hy'
    rcases eqOp_cases ho with ⟨rfl, rfl⟩ | ⟨rfl, rfl⟩
    · exact Done.pure (v' := .bool (p && q)) (by simp only [Sem.run_bind, hg, e1, Result.andThen_ok, Sem.run_pure]) (.plain _ rfl) hr
    · exact Done.pure (v' := .bool (!(p && q))) (by simp only [Sem.run_bind, hg, e2, Result.andThen_ok, Sem.run_pure]) (.plain _ rfl) hr
  · cases hs

theorem plainK_cases {t : TypeId} {k : Nat} (h : plainK P t = some k) : (∃ i, P.underlying t = some (.int i) ∧ k = 0) ∨ (P.underlying t = some .bool ∧ k = 1) ∨ (P.underlying t = some .string ∧ k = 2) := by
  unfold plainK at h
  split at h
  · rename_i i h1; exact .inl ⟨i, h1, (Option.some.inj h).symm⟩
  · rename_i h1; exact .inr (.inl ⟨h1, (Option.some.inj h).symm⟩)
  · rename_i h1; exact .inr (.inr ⟨h1, (Option.some.inj h).symm⟩)
  · cases h

theorem cellEq_run {t : TypeId} {k d : Nat} (ht : plainK P t = some k) {x y : Value} {r : Bool} (h : cellEq k x y = some r) : (Op.equalIn (d + 1) t x y).run P w = .ok r w ∧ plainV x = true ∧ plainV y = true := by
  unfold cellEq at h
  split at h
  · obtain ⟨h1, h2⟩ := bif_some h
    simp only [Bool.and_eq_true] at h1
    have hk := Nat.eq_of_beq_eq_true h1.1
    obtain rfl := kN_inj h1.2
    rcases plainK_cases ht with ⟨i, he, _⟩ | ⟨_, k⟩ | ⟨_, k⟩
    · refine ⟨?_, rfl, rfl⟩
      rw [run_equalIn_int w d t _ i _ _ he, ← h2]; rfl
    all_goals omega
  · obtain ⟨h1, h2⟩ := bif_some h
    have hk := Nat.eq_of_beq_eq_true h1
    rcases plainK_cases ht with ⟨i, he, k⟩ | ⟨he, _⟩ | ⟨_, k⟩
    · omega
    · refine ⟨?_, rfl, rfl⟩
      rw [run_equalIn_bool' w d t _ _ he, ← h2]
    · omega
  · obtain ⟨h1, h2⟩ := bif_some h
    have hk := Nat.eq_of_beq_eq_true h1
    rcases plainK_cases ht with ⟨i, he, k⟩ | ⟨_, k⟩ | ⟨he, _⟩
    · omega
    · omega
    · refine ⟨?_, rfl, rfl⟩
      rw [run_equalIn_string w d t _ _ he, ← h2, toList_eqb]
  · cases h

theorem plainFs_run {d : Nat} {xs ys xs' ys' : Array Value} (hx : VRs ρ H xs.toList xs'.toList) (hy : VRs ρ H ys.toList ys'.toList) : ∀ (fs : List Field) (i : Nat) (ks : List Nat) (r : Bool), plainFs P fs i ks = true →
    cellsEq ks (xs.toList.drop i) (ys.toList.drop i) = some r → (Op.eqFields (d + 1) xs' ys' fs).run P w = .ok r w
  | [], i, [], r, _, h => by
    have : r = true := by
      cases hx' : xs.toList.drop i with
      | nil =>
        cases hy' : ys.toList.drop i with
        | nil => rw [hx', hy'] at h; simpa [cellsEq] using h.symm
        | cons y l => rw [hx', hy'] at h; simp [cellsEq] at h
      | cons x l => rw [hx'] at h; simp [cellsEq] at h
    subst this
    simp [Op.eqFields]
  | [], i, _ :: _, r, hp, _ => by simp [plainFs] at hp
  | _ :: _, i, [], r, hp, _ => by simp [plainFs] at hp
  | f :: fs, i, k :: ks, r, hp, h => by
    simp only [plainFs, Bool.and_eq_true, beq_iff_eq, bne_iff_ne, ne_eq] at hp
    obtain ⟨⟨⟨hk, ho⟩, hn⟩, hrest⟩ := hp
    have part_run : ∀ {zs zs' : Array Value} {z : Value}, VRs ρ H zs.toList zs'.toList → zs.toList[i]? = some z → plainV z = true → (part f.type zs' f.offset).run P w = .ok z w := by
      intro zs zs' z hz hzi hpl
      have hag : tyAgg P f.type = some false := by
        rcases plainK_cases hk with ⟨i, he, _⟩ | ⟨he, _⟩ | ⟨he, _⟩ <;> simp [tyAgg, he]
      have hlt : i < zs'.toList.length := by rw [← hz.1]; exact (List.getElem?_eq_some_iff.1 hzi).1
      have hv := hz.2 i z _ hzi (List.getElem?_eq_getElem hlt)
      have hpv := hv.plain_inv hpl
      simp only [part, Sem.run_bind, run_isAgg hag, Result.andThen_ok, Bool.false_eq_true, if_false, ho]
      have : zs'[i]? = some z := by
        rw [← Array.getElem?_toList, List.getElem?_eq_getElem hlt, hpv]
      rw [this]; rfl
    cases hxi : xs.toList[i]? with
    | none =>
      rw [List.drop_eq_nil_of_le (by rw [List.getElem?_eq_none_iff] at hxi; exact hxi)] at h
      simp [cellsEq] at h
    | some x =>
      cases hyi : ys.toList[i]? with
      | none =>
        rw [List.drop_eq_nil_of_le (as := ys.toList) (by rw [List.getElem?_eq_none_iff] at hyi; exact hyi)] at h
        cases hd : xs.toList.drop i <;> rw [hd] at h <;> simp [cellsEq] at h
      | some y =>
        have dx : xs.toList.drop i = x :: xs.toList.drop (i + 1) := by
          obtain ⟨q1, q2⟩ := List.getElem?_eq_some_iff.1 hxi
          rw [List.drop_eq_getElem_cons q1, q2]
        have dy : ys.toList.drop i = y :: ys.toList.drop (i + 1) := by
          obtain ⟨q1, q2⟩ := List.getElem?_eq_some_iff.1 hyi
          rw [List.drop_eq_getElem_cons q1, q2]
        rw [dx, dy] at h
        simp only [cellsEq] at h
        split at h
        · rename_i p q h1 h2
          obtain rfl := Option.some.inj h
          obtain ⟨e1, e2, e3⟩ := cellEq_run (P := P) (w := w) (d := d) hk h1
          have ih := plainFs_run (d := d) hx hy fs (i + 1) ks q hrest h2
          have hn' : f.name ≠ "_" := hn
          simp only [Op.eqFields, if_pos hn', Sem.run_bind, part_run hx hxi e2, part_run hy hyi e3, e1, Result.andThen_ok]
          cases p <;> simp [ih]
        · cases h

theorem step_eqs {ks : List Nat} {neg : Bool} {op : BinOp} {t : TypeId} {x y : Operand} {x' y' : Opd} (ho : eqOp neg op = true) (ht : plainS P t ks = true) (h1 : chkO nt x x' = true) (h2 : chkO nt y y' = true) {v : Value} {H' : Heap}
    (hs : stepI env H (.eqs ks neg x' y') = some (v, H')) (hr : Rel ρ H w) (he : EnvR ρ H nt env a) :
    Done P (do Pure.pure (.value (← (do eqGuard op t x y (a.eval x) (a.eval y); binOp op t (a.eval x) (a.eval y))))) w ρ H v H' := by
  have hx := opd_ok h1 he
  have hy := opd_ok h2 he
  simp only [stepI] at hs
  split at hs
  · rename_i xs ys h4 h5
    rw [h4] at hx
    rw [h5] at hy
    obtain ⟨xs', hx1, hx2⟩ := hx.agg_list
    obtain ⟨ys', hy1, hy2⟩ := hy.agg_list
    simp only [Option.map_eq_some_iff] at hs
    obtain ⟨r, hre, h6⟩ := hs
    obtain ⟨rfl, rfl⟩ := Prod.mk.inj h6
    unfold plainS at ht
    split at ht
    · rename_i fs hu
      simp only [Bool.and_eq_true, Bool.not_eq_true'] at ht
      obtain ⟨⟨t1, t2⟩, t3⟩ := ht
      have hf : P.fieldsOf t = fs := by simp [Program.fieldsOf, hu]
      have hrun := plainFs_run (P := P) (w := w) (d := 9998) hx2 hy2 fs.toList 0 ks r t1 (by simpa using hre)
      have heq : (Op.equalIn 10000 t (.agg xs') (.agg ys')).run P w = .ok r w := by
        rw [run_equalIn_struct (P := P) w 9999 t xs' ys' (by rw [hf]; exact hu) t2, hf]
        exact hrun
      have hg := run_eqGuard_agg (P := P) w op t x y xs' ys' t3
      rw [hx1, hy1]
      rcases eqOp_cases ho with ⟨rfl, rfl⟩ | ⟨rfl, rfl⟩
      · exact Done.pure (v' := .bool r) (by simp only [Sem.run_bind, hg, run_eql_struct, heq, Result.andThen_ok, Sem.run_pure]) (.plain _ rfl) hr
      · exact Done.pure (v' := .bool (!r)) (by simp only [Sem.run_bind, hg, run_neq_struct, heq, Result.andThen_ok, Sem.run_pure]) (.plain _ rfl) hr
    · cases ht
  · cases hs

end
end Go.Proofs.Ytdkdifjjpbfohaa.Fw
