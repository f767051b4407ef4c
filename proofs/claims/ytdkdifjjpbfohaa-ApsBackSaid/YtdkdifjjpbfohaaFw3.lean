/- Each step that bears no call does in the world what it says of the abstract heap. -/
import Derived.Test.YtdkdifjjpbfohaaFw2
import Derived.Laws.Sem
import Derived.Laws.Cells
import Derived.ChangeKeysEq
namespace Go.Proofs.Ytdkdifjjpbfohaa.Fw
open Go

/-- The temporaries. -/
def EnvR (ρ : RP) (H : Heap) (nt : Nat) (env : Nat → Value) (a : Act) : Prop := ∀ t, t < nt → VR ρ H (env t) (a.eval (.tmp t))

/-- An operation comes to this value and this heap. -/
def Done (P : Program) (s : Sem Next) (w : World) (ρ : RP) (H : Heap) (v : Value) (H' : Heap) : Prop :=
  ∃ r v' w' ρ', s.run P w = .ok r w' ∧ (r = .value v' ∨ r = .skip ∧ v' = undef) ∧ VR ρ' H' v v' ∧ Rel ρ' H' w' ∧ Fr ρ H w ρ' H' w'

theorem Done.pure {P : Program} {s : Sem Next} {w : World} {ρ : RP} {H : Heap} {v v' : Value} (h : s.run P w = .ok (.value v') w) (hv : VR ρ H v v') (hr : Rel ρ H w) : Done P s w ρ H v H :=
  ⟨_, v', w, ρ, h, .inl rfl, hv, hr, Fr.refl _ _ _⟩

theorem strEq_iff (a b : ByteArray) : strEq a b = true ↔ a = b := by
  unfold strEq
  simp only [beq_iff_eq]
  constructor
  · intro h
    have : a.data = b.data := Array.toList_inj.1 h
    cases a; cases b; simp_all
  · intro h; rw [h]
theorem toList_eqb (a b : ByteArray) : (a.toList == b.toList) = strEq a b := by rw [ByteArray.toList_eq, ByteArray.toList_eq]; rfl
theorem bytes_eqb (a b : ByteArray) : (a == b) = strEq a b := by
  cases a with
  | mk a =>
    cases b with
    | mk b =>
      show (a == b) = (a.toList == b.toList)
      rw [Bool.eq_iff_iff, beq_iff_eq, beq_iff_eq, Array.toList_inj]
theorem sameC_eq {a b : Value} (h : sameC a b = true) : a = b ∧ plainV b = true := by
  unfold sameC at h
  split at h <;> try simp only [Bool.and_eq_true, beq_iff_eq, decide_eq_true_eq, Bool.false_eq_true] at h
  · exact ⟨by rw [h], rfl⟩
  · exact ⟨by rw [kN_inj h.1, h.2], rfl⟩
  · exact ⟨by rw [(strEq_iff _ _).1 h], rfl⟩
  · exact ⟨rfl, rfl⟩
  · exact ⟨rfl, rfl⟩
  · exact ⟨rfl, rfl⟩
  · exact ⟨rfl, rfl⟩
  · exact ⟨by rw [Nat.eq_of_beq_eq_true h.1, Nat.eq_of_beq_eq_true h.2], rfl⟩
  · have h1 := Array.eq_empty_of_size_eq_zero (Nat.eq_of_beq_eq_true h.1)
    have h2 := Array.eq_empty_of_size_eq_zero (Nat.eq_of_beq_eq_true h.2)
    exact ⟨by rw [h1, h2], by rw [h2]; rfl⟩
  · obtain ⟨⟨⟨⟨h1, h2⟩, h3⟩, h4⟩, h5⟩ := h
    have h2 := Array.eq_empty_of_size_eq_zero (Nat.eq_of_beq_eq_true h2)
    have h3 := Array.eq_empty_of_size_eq_zero (Nat.eq_of_beq_eq_true h3)
    have h4 := Array.eq_empty_of_size_eq_zero (Nat.eq_of_beq_eq_true h4)
    have h5 := Array.eq_empty_of_size_eq_zero (Nat.eq_of_beq_eq_true h5)
    rw [Nat.eq_of_beq_eq_true h1, h2, h3, h4, h5]
    exact ⟨rfl, rfl⟩
theorem sameL_eq : ∀ {a b : List Value}, sameL a b = true → a = b ∧ ∀ x ∈ b, plainV x = true
  | [], [], _ => ⟨rfl, fun x h => by cases h⟩
  | [], _ :: _, h => by simp [sameL] at h
  | _ :: _, [], h => by simp [sameL] at h
  | a :: x, b :: y, h => by
    simp only [sameL, Bool.and_eq_true] at h
    obtain ⟨h1, h2⟩ := sameC_eq h.1
    obtain ⟨h3, h4⟩ := sameL_eq h.2
    exact ⟨by rw [h1, h3], fun x hx => by
      rcases List.mem_cons.1 hx with rfl | hx
      · exact h2
      · exact h4 x hx⟩

section
variable {P : Program} {nt : Nat} {env : Nat → Value} {H : Heap} {ρ : RP} {w : World} {a : Act}

theorem opd_ok {o : Operand} {x : Opd} (hc : chkO nt o x = true) (he : EnvR ρ H nt env a) : VR ρ H (x.ev env) (a.eval o) := by
  unfold chkO at hc
  split at hc
  · simp only [Bool.and_eq_true] at hc
    rw [Nat.eq_of_beq_eq_true hc.1] at *
    exact he _ (by simpa using hc.2)
  · obtain ⟨h1, h2⟩ := sameC_eq hc
    rw [h1]
    exact .plain _ h2
  · obtain ⟨h1, h2⟩ := sameC_eq hc
    show VR ρ H _ (Value.func (.func _) #[] #[])
    rw [h1]
    exact .plain _ h2
  · cases hc
theorem opds_ok : ∀ {l : List Operand} {m : List Opd}, chkOs nt l m = true → EnvR ρ H nt env a → VRs ρ H (evs env m) (l.map a.eval)
  | [], [], _, _ => VRs.nil _ _
  | [], _ :: _, h, _ => by simp [chkOs] at h
  | _ :: _, [], h, _ => by simp [chkOs] at h
  | o :: l, x :: m, h, he => by
    simp only [chkOs, Bool.and_eq_true] at h
    exact VRs.cons (opd_ok h.1 he) (opds_ok h.2 he)

theorem step_mv {x : Operand} {y : Opd} (hc : chkO nt x y = true) (hr : Rel ρ H w) (he : EnvR ρ H nt env a) : Done P (Pure.pure (.value (a.eval x))) w ρ H (y.ev env) H :=
  Done.pure rfl (opd_ok hc he) hr

theorem VR.pickV {t : Bool} {x y x' y' : Value} (hx : VR ρ H x x') (hy : VR ρ H y y') : VR ρ H (pickV t x y) (if t = true then x' else y') := by
  have base : VR ρ H (bif t then x else y) (if t = true then x' else y') := by cases t <;> simpa
  unfold Fw.pickV
  split
  · rename_i p q
    rw [hx.bool_inv, hy.bool_inv]
    cases t <;> exact .plain _ rfl
  · exact base

theorem step_pick {c x y : Operand} {c' x' y' : Opd} (h1 : chkO nt c c' = true) (h2 : chkO nt x x' = true) (h3 : chkO nt y y' = true) {v : Value} {H' : Heap}
    (hs : stepI env H (.pick c' x' y') = some (v, H')) (hr : Rel ρ H w) (he : EnvR ρ H nt env a) :
    Done P (do Pure.pure (.value (if ← asBool (a.eval c) then a.eval x else a.eval y))) w ρ H v H' := by
  have hc := opd_ok h1 he
  simp only [stepI] at hs
  split at hs
  · rename_i t ht
    rw [ht] at hc
    obtain ⟨rfl, rfl⟩ := Prod.mk.inj (Option.some.inj hs)
    rw [hc.bool_inv]
    exact Done.pure (v' := if t = true then a.eval x else a.eval y) (by simp [asBool]) (VR.pickV (opd_ok h2 he) (opd_ok h3 he)) hr
  · cases hs

theorem intBits_run (op : BinOp) (k : IntKind) (x y : Int) (h : op = .and ∨ op = .or ∨ op = .xor ∨ op = .andNot) : Op.intBits op k x y = Pure.pure (.int k (Go.bits op k x y)) := by
  rcases h with rfl | rfl | rfl | rfl <;> rfl

theorem binI_run {op : BinOp} {k : IntKind} {x y : Int} {v : Value} (h : binI op k x y = some v) (h1 : op ≠ .shl) (h2 : op ≠ .shr) (t : TypeId) (w : World) : (binOp op t (.int k x) (.int k y)).run P w = .ok v w ∧ plainV v = true := by
  unfold binI at h
  split at h
  · obtain rfl := Option.some.inj h; exact ⟨by simp [binOp, Op.intArith], rfl⟩
  · obtain rfl := Option.some.inj h; exact ⟨by simp [binOp, Op.intArith], rfl⟩
  · obtain rfl := Option.some.inj h; exact ⟨by simp [binOp, Op.intArith], rfl⟩
  · split at h
    · cases h
    · rename_i hy; obtain rfl := Option.some.inj h; exact ⟨by simp [binOp, Op.intDiv, hy], rfl⟩
  · split at h
    · cases h
    · rename_i hy; obtain rfl := Option.some.inj h; exact ⟨by simp [binOp, Op.intDiv, hy], rfl⟩
  · obtain rfl := Option.some.inj h; exact ⟨by simp [binOp, intBits_run], rfl⟩
  · obtain rfl := Option.some.inj h; exact ⟨by simp [binOp, intBits_run], rfl⟩
  · obtain rfl := Option.some.inj h; exact ⟨by simp [binOp, intBits_run], rfl⟩
  · obtain rfl := Option.some.inj h; exact ⟨by simp [binOp, intBits_run], rfl⟩
  · obtain rfl := Option.some.inj h; exact ⟨by simp [binOp, Op.intCmp]; rfl, rfl⟩
  · obtain rfl := Option.some.inj h; exact ⟨by simp [binOp, Op.intCmp]; rfl, rfl⟩
  · obtain rfl := Option.some.inj h; exact ⟨by simp [binOp, Op.intCmp], rfl⟩
  · obtain rfl := Option.some.inj h; exact ⟨by simp [binOp, Op.intCmp], rfl⟩
  · obtain rfl := Option.some.inj h; exact ⟨by simp [binOp, Op.intCmp], rfl⟩
  · obtain rfl := Option.some.inj h; exact ⟨by simp [binOp, Op.intCmp], rfl⟩
  · cases h

theorem binV_run {op : BinOp} {x y v : Value} (h : binV op x y = some v) (t : TypeId) (w : World) : (binOp op t x y).run P w = .ok v w ∧ plainV v = true := by
  unfold binV at h
  split at h
  · rename_i k x k' y
    split at h
    · unfold shV at h
      simp only [] at h
      split at h
      · cases h
      · rename_i hy; obtain rfl := Option.some.inj h; exact ⟨by simp [binOp, Op.shift, hy], rfl⟩
    · unfold shV at h
      simp only [] at h
      split at h
      · cases h
      · rename_i hy; obtain rfl := Option.some.inj h; exact ⟨by simp [binOp, Op.shift, hy], rfl⟩
    · rename_i op h1 h2
      cases hk : Nat.beq (kN k) (kN k') with
      | false => rw [hk] at h; cases h
      | true =>
        rw [hk] at h
        have := kN_inj hk
        subst this
        exact binI_run h h1 h2 t w
  · rename_i x y
    unfold binS at h
    have e1 := toList_eqb x y
    have e2 : Op.bytesLess x.toList y.toList = strLt x y := by unfold strLt; rw [ByteArray.toList_eq, ByteArray.toList_eq]
    have hb : ∀ op, (binOp op t (.string x) (.string y) : Sem Value) = Op.stringOp op x y := fun op => by cases op <;> rfl
    rw [hb]
    split at h
    · split at h
      · rename_i hy; obtain rfl := Option.some.inj h
        refine ⟨?_, rfl⟩
        simp only [Op.stringOp]
        have : ¬ (((x.size + y.size : Nat) : Int) > IntKind.i64.max) := by
          have : IntKind.i64.max = 9223372036854775807 := by decide
          omega
        rw [if_neg this]; rfl
      · cases h
    all_goals first
      | (obtain rfl := Option.some.inj h; exact ⟨by simp [Op.stringOp, e1, e2], rfl⟩)
      | cases h
  · cases h

theorem step_bin {op : BinOp} {t : TypeId} {x y : Operand} {x' y' : Opd} (h1 : chkO nt x x' = true) (h2 : chkO nt y y' = true) {v : Value} {H' : Heap}
    (hs : stepI env H (.bin op x' y') = some (v, H')) (hr : Rel ρ H w) (he : EnvR ρ H nt env a) :
    Done P (do Pure.pure (.value (← (do eqGuard op t x y (a.eval x) (a.eval y); binOp op t (a.eval x) (a.eval y))))) w ρ H v H' := by
  have hx := opd_ok h1 he
  have hy := opd_ok h2 he
  simp only [stepI, Option.map_eq_some_iff] at hs
  obtain ⟨v, hv, h3⟩ := hs
  obtain ⟨rfl, rfl⟩ := Prod.mk.inj h3
  have hpx : plainV (x'.ev env) = true ∧ plainV (y'.ev env) = true ∧ (∀ op, (eqGuard op t x y (x'.ev env) (y'.ev env)).run P w = .ok () w) := by
    unfold binV at hv
    split at hv
    · rename_i h4 h5; rw [h4, h5]; refine ⟨rfl, rfl, fun op => ?_⟩; unfold eqGuard; split <;> rfl
    · rename_i h4 h5; rw [h4, h5]; refine ⟨rfl, rfl, fun op => ?_⟩; unfold eqGuard; split <;> rfl
    · cases hv
  rw [hx.plain_inv hpx.1, hy.plain_inv hpx.2.1]
  obtain ⟨h6, h7⟩ := binV_run (P := P) hv t w
  exact Done.pure (by simp [hpx.2.2, h6]) (.plain _ h7) hr

theorem step_un {op : UnOp} {x : Operand} {x' : Opd} (h1 : chkO nt x x' = true) {v : Value} {H' : Heap}
    (hs : stepI env H (.un op x') = some (v, H')) (hr : Rel ρ H w) (he : EnvR ρ H nt env a) :
    Done P (do Pure.pure (.value (← Op.unary op (a.eval x)))) w ρ H v H' := by
  have hx := opd_ok h1 he
  simp only [stepI, Option.map_eq_some_iff] at hs
  obtain ⟨v, hv, h3⟩ := hs
  obtain ⟨rfl, rfl⟩ := Prod.mk.inj h3
  unfold unV at hv
  split at hv
  · rename_i h4; rw [h4] at hx; rw [hx.int_inv]; obtain rfl := Option.some.inj hv
    exact Done.pure (by simp [Op.unary, Op.intArith]) (.plain _ rfl) hr
  · rename_i h4; rw [h4] at hx; rw [hx.int_inv]; obtain rfl := Option.some.inj hv
    exact Done.pure (by simp [Op.unary, intBits_run]) (.plain _ rfl) hr
  · rename_i h4; rw [h4] at hx; rw [hx.bool_inv]; obtain rfl := Option.some.inj hv
    exact Done.pure (by simp [Op.unary]) (.plain _ rfl) hr
  · cases hv

theorem eqOp_cases {neg : Bool} {op : BinOp} (h : eqOp neg op = true) : (op = .eql ∧ neg = false) ∨ (op = .neq ∧ neg = true) := by
  cases op <;> simp [eqOp] at h <;> simp [h]

theorem step_eqb {neg : Bool} {op : BinOp} {t : TypeId} {x y : Operand} {x' y' : Opd} (ho : eqOp neg op = true) (ht : P.underlying t = some .bool) (h1 : chkO nt x x' = true) (h2 : chkO nt y y' = true) {v : Value} {H' : Heap}
    (hs : stepI env H (.eqb neg x' y') = some (v, H')) (hr : Rel ρ H w) (he : EnvR ρ H nt env a) :
    Done P (do Pure.pure (.value (← (do eqGuard op t x y (a.eval x) (a.eval y); binOp op t (a.eval x) (a.eval y))))) w ρ H v H' := by
  have hx := opd_ok h1 he
  have hy := opd_ok h2 he
  simp only [stepI] at hs
  split at hs
  · rename_i p q h4 h5
    rw [h4] at hx; rw [h5] at hy
    rw [hx.bool_inv, hy.bool_inv]
    obtain ⟨rfl, rfl⟩ := Prod.mk.inj (Option.some.inj hs)
    have hg : ∀ op, (eqGuard op t x y (.bool p) (.bool q)).run P w = .ok () w := fun op => by unfold eqGuard; split <;> rfl
    have heq : (Op.equal t (.bool p) (.bool q)).run P w = .ok (p == q) w := by
      unfold Op.equal Op.maxDepth Op.equalIn
      simp [run_underlying ht]
    rcases eqOp_cases ho with ⟨rfl, rfl⟩ | ⟨rfl, rfl⟩
    · exact Done.pure (by simp [hg, binOp, heq]) (.plain _ rfl) hr
    · exact Done.pure (v' := .bool (p != q)) (by simp only [hg, binOp, heq, Sem.run_bind, Sem.run_pure, Result.andThen_ok]; rfl) (.plain _ rfl) hr
  · cases hs

end
end Go.Proofs.Ytdkdifjjpbfohaa.Fw
