/- Numbers at places of bytes, and parts of bytes. -/
import Derived.Test.YtleogcfmlpmbiaaFw27
import Derived.Test.YtleogcfmlpmbiaaIrLe
namespace Go.Proofs.Ytleogcfmlpmbiaa
open Go Fw
set_option linter.unusedSimpArgs false
set_option linter.unusedVariables false

/-- A value that is a list, in whatever frozen form. -/
def Src {α : Type} (E : Enc α) (v : Value) (l : List α) : Prop :=
  (∀ H, lenI H 1 v = some (.int .i64 l.length, H)) ∧ ∀ (i : Nat) (_ : i < l.length) (k : IntKind) (H : Heap), ixaI H E.u v (.int k i) = some (atI E l i, H)
theorem Src_imm {α : Type} {E : Enc α} {l : List α} : Src E (imm E l) l := ⟨fun _ => rfl, fun i h k H => ix_at rfl h k H⟩
theorem Src_sl {α : Type} {E : Enc α} {o : Option (List α)} : Src E (slV E o) (lst o) := ⟨fun _ => lenI_sl, fun i h k H => ix_sl rfl h k H⟩
theorem Src_immN {α : Type} {E : Enc α} {l : List α} : Src E (immN E l) l := by
  cases l with
  | nil => exact ⟨fun _ => rfl, fun i h => by simp at h⟩
  | cons x l => exact Src_imm

abbrev isU64 (n : Int) : Prop := 0 ≤ n ∧ n < 18446744073709551616
theorem u64_of {n : Int} (h : (Lit.int .u64 n).wf = true) : isU64 n := by
  simp [Lit.wf, IntKind.min, IntKind.max, IntKind.bits, IntKind.signed] at h
  unfold isU64
  omega
def insI (at_ size from_ room : Int) : Bool := decide (from_ ≤ at_) && (decide (at_ - from_ ≤ room) && decide (size ≤ room - (at_ - from_)))
theorem nat_u64 {n : Int} (h : (Lit.int .u64 n).wf = true) : ∃ m : Nat, n = m ∧ m < 18446744073709551616 := by
  have := u64_of h
  unfold isU64 at this
  exact ⟨n.toNat, by omega, by omega⟩
theorem f_num_Sub {T : Tab} (h : T 69 = some F_num_Sub) {a b : Int} (ha : isU64 a) (hb : isU64 b) :
    FnV T 69 [.int .u64 a, .int .u64 b] (if a < b then .tuple #[.int .u64 0, .bool false] else .tuple #[.int .u64 (a - b), .bool true]) := by
  refine FnV_of rfl ?_
  rw [Ev_fn h rfl]
  simp only [isU64] at ha hb
  by_cases hab : a < b
  · simp only [F_num_Sub, fws, cond_true, cond_false, if_true, if_false, unV, isNil, optI, iV, stepI, evalR, reduceIte, reduceCtorEq, Nat.reduceEqDiff, Int.reduceLT, Int.reduceLE, Int.reduceToNat, Nat.reduceLT, Nat.reduceLeDiff, Int.reduceEq, Int.reduceNeg, IntKind.bits, Nat.reduceAdd, Nat.reduceMul, Nat.reducePow, Int.reducePow, ini, F_num_Subr0_W, F_num_Subr1_W, F_num_Subr2_W, F_num_Subr3_W, F_num_Subc_W, hab]
    rfl
  · have w : IntKind.u64.wrap (a - b) = a - b := by rw [wrap_u64]; omega
    simp only [F_num_Sub, fws, cond_true, cond_false, if_true, if_false, unV, isNil, optI, iV, stepI, evalR, reduceIte, reduceCtorEq, Nat.reduceEqDiff, Int.reduceLT, Int.reduceLE, Int.reduceToNat, Nat.reduceLT, Nat.reduceLeDiff, Int.reduceEq, Int.reduceNeg, IntKind.bits, Nat.reduceAdd, Nat.reduceMul, Nat.reducePow, Int.reducePow, ini, F_num_Subr0_W, F_num_Subr1_W, F_num_Subr2_W, F_num_Subr3_W, F_num_Subc_W, hab, w]
    rfl
theorem f_num_Inside {T : Tab} (h0 : T 69 = some F_num_Sub) (h : T 55 = some F_num_Inside) {a s f r : Int} (ha : isU64 a) (hs : isU64 s) (hf : isU64 f) (hr : isU64 r) :
    FnV T 55 [.int .u64 a, .int .u64 s, .int .u64 f, .int .u64 r] (.bool (insI a s f r)) := by
  refine FnV_of rfl ?_
  rw [Ev_fn h rfl]
  have c1 := f_num_Sub h0 ha hf
  simp only [isU64] at ha hs hf hr
  unfold insI
  by_cases hab : a < f
  · have e1 : ¬ f ≤ a := by omega
    rw [if_pos hab] at c1
    simp only [F_num_Inside, fws, cond_true, cond_false, if_true, if_false, unV, isNil, optI, iV, stepI, evalR, reduceIte, reduceCtorEq, Nat.reduceEqDiff, Int.reduceLT, Int.reduceLE, Int.reduceToNat, Nat.reduceLT, Nat.reduceLeDiff, Int.reduceEq, Int.reduceNeg, IntKind.bits, Nat.reduceAdd, Nat.reduceMul, Nat.reducePow, Int.reducePow, ini, fwh, lk, cellsAt, tagOf, spotOf, rdN, spl, fillL, zr, fwi, F_num_Insider0_W, F_num_Insider1_W, F_num_Insider2_W, F_num_Insider2_g1, F_num_Insider2_g6, F_num_Insidec_W, CC_of c1, e1]
    rfl
  · have e1 : f ≤ a := by omega
    rw [if_neg hab] at c1
    by_cases e2 : a - f ≤ r
    · have w : IntKind.u64.wrap (r - (a - f)) = r - (a - f) := by rw [wrap_u64]; omega
      simp only [F_num_Inside, fws, cond_true, cond_false, if_true, if_false, unV, isNil, optI, iV, stepI, evalR, reduceIte, reduceCtorEq, Nat.reduceEqDiff, Int.reduceLT, Int.reduceLE, Int.reduceToNat, Nat.reduceLT, Nat.reduceLeDiff, Int.reduceEq, Int.reduceNeg, IntKind.bits, Nat.reduceAdd, Nat.reduceMul, Nat.reducePow, Int.reducePow, ini, fwh, lk, cellsAt, tagOf, spotOf, rdN, spl, fillL, zr, fwi, F_num_Insider0_W, F_num_Insider1_W, F_num_Insider2_W, F_num_Insider2_g1, F_num_Insider2_g6, F_num_Insidec_W, CC_of c1, e1, e2, w]
      rfl
    · simp only [F_num_Inside, fws, cond_true, cond_false, if_true, if_false, unV, isNil, optI, iV, stepI, evalR, reduceIte, reduceCtorEq, Nat.reduceEqDiff, Int.reduceLT, Int.reduceLE, Int.reduceToNat, Nat.reduceLT, Nat.reduceLeDiff, Int.reduceEq, Int.reduceNeg, IntKind.bits, Nat.reduceAdd, Nat.reduceMul, Nat.reducePow, Int.reducePow, ini, fwh, lk, cellsAt, tagOf, spotOf, rdN, spl, fillL, zr, fwi, F_num_Insider0_W, F_num_Insider1_W, F_num_Insider2_W, F_num_Insider2_g1, F_num_Insider2_g6, F_num_Insidec_W, CC_of c1, e1, e2]
      rfl

theorem le_alive : FnV TLe 19 [] (.bool true) := FnV_run 60 rfl (by kernel_rfl)
/-- A number, the lowest byte first. -/
def leN (l : List UInt8) : Nat := l.foldr (fun c n => n * 256 + c.toNat) 0
theorem leN_lt : ∀ l : List UInt8, leN l < 256 ^ l.length
  | [] => by simp [leN]
  | c :: l => by
    have := leN_lt l
    have hc := c.toNat_lt
    show leN l * 256 + c.toNat < _
    rw [List.length_cons, Nat.pow_succ]
    omega
theorem leN_app : ∀ (l : List UInt8) (c : UInt8), leN (l ++ [c]) = leN l + 256 ^ l.length * c.toNat
  | [], c => by simp [leN]
  | d :: l, c => by
    have := leN_app l c
    show leN (l ++ [c]) * 256 + d.toNat = leN l * 256 + d.toNat + _
    rw [this, List.length_cons, Nat.pow_succ, Nat.add_mul, Nat.mul_assoc (256 ^ l.length) 256, Nat.mul_comm 256 c.toNat, ← Nat.mul_assoc]
    omega
def part {α : Type} (o : Option (List α)) (i j : Nat) : Option (List α) := o.map fun l => (l.drop i).take (j - i)
theorem lst_part {α : Type} {o : Option (List α)} {i j : Nat} : lst (part o i j) = ((lst o).drop i).take (j - i) := by cases o <;> simp [part, lst]
theorem sleI_sl {α : Type} {E : Enc α} {o : Option (List α)} {H : Heap} {n : Nat} (hn : n = E.u) {lo hi mx : Option Value} {i j k : Nat} (h1 : optJ 0 lo = some (i : Int)) (h2 : optJ (lst o).length hi = some (j : Int)) (h3 : optJ (lst o).length mx = some (k : Int)) (h4 : i ≤ j ∧ j ≤ k ∧ k ≤ (lst o).length) :
    sleI H n (slV E o) lo hi mx = some (slV E (part o i j), H) := by
  cases o with
  | some l => exact sleI_imm hn h1 h2 h3 ⟨by omega, by omega, by omega, by have := h4.2.2; simp only [lst_some] at this; omega⟩
  | none =>
    simp only [lst_none, List.length_nil] at h2 h3 h4
    have e1 : i = 0 := by omega
    have e2 : j = 0 := by omega
    have e3 : k = 0 := by omega
    subst e1; subst e2; subst e3
    simp only [sleI, slV, h1]
    have g2 : optJ 0 hi = some 0 := h2
    have g3 : optJ 0 mx = some 0 := h3
    rw [g2, g3]
    rfl
theorem ins_iff {a k n : Nat} : insI a k 0 n = decide (a + k ≤ n) := by
  unfold insI
  rw [Bool.eq_iff_iff]
  simp only [Bool.and_eq_true, decide_eq_true_eq]
  omega
theorem or256 {h d : Nat} (hh : h * 256 < 18446744073709551616) (hd : d < 256) : Go.bits .or .u64 (IntKind.u64.wrap ((h : Int) * 256)) (IntKind.u64.wrap (d : Int)) = ((h * 256 + d : Nat) : Int) := by
  have w : IntKind.u64.wrap ((h : Int) * 256) = ((h * 256 : Nat) : Int) := by rw [wrap_u64]; omega
  have w2 : IntKind.u64.wrap (d : Int) = (d : Int) := by rw [wrap_u64]; omega
  rw [w, w2, (bits_u64 hh (by omega)).2.1]
  have := Nat.two_pow_add_eq_or_of_lt (i := 8) (show d < 2 ^ 8 by omega) h
  rw [Nat.mul_comm] at this
  rw [← this]
theorem loop_le_get {T : Tab} (l : List UInt8) (v : Value) (hv : Src byteE v l) (hl : l.length ≤ 100000) (a k : Nat) (hk : k ≤ 8) (hak : a + k ≤ l.length) : ∀ (j : Nat) (env : Env), j ≤ k → env 0 = v → env 1 = .int .u64 a → env 8 = .int .u64 (leN ((l.drop (a + j)).take (k - j))) → env 9 = .int .i64 ((a : Int) + j - 1) →
    W T (.loop F_le_getl0) env [] fun x e h => x = .exit 0 ∧ h = [] ∧ e 8 = .int .u64 (leN ((l.drop a).take k)) := by
  have wa : IntKind.i64.wrap (a : Int) = a := wrapI64 (by omega) (by omega)
  intro j
  induction j with
  | zero =>
    intro env hj v0 v1 v8 v9
    have v9 : env 9 = .int .i64 ((a : Int) - 1) := by rw [v9]; congr 1
    have q : ¬ ((a : Int) ≤ (a : Int) - 1) := by omega
    rw [w_loop]
    simp only [fws, cond_true, cond_false, if_true, if_false, unV, isNil, optI, iV, stepI, evalR, reduceIte, reduceCtorEq, Nat.reduceEqDiff, Int.reduceLT, Int.reduceLE, Int.reduceToNat, Nat.reduceLT, Nat.reduceLeDiff, Int.reduceEq, Int.reduceNeg, IntKind.bits, Nat.reduceAdd, Nat.reduceMul, Nat.reducePow, Int.reducePow, ini, F_le_getr0_W, F_le_getr1_W, F_le_getr2_W, F_le_getr3_W, F_le_getr4_W, F_le_getr5_W, F_le_getr7_W, F_le_getr6_W, F_le_getl0_W, F_le_getr8_W, F_le_getc_W, v0, v1, v8, v9, wa, q]
    exact ⟨trivial, trivial, rfl⟩
  | succ j ih =>
    intro env hj v0 v1 v8 v9
    have v9 : env 9 = .int .i64 ((a + j : Nat) : Int) := by rw [v9]; congr 1; omega
    have q : ((a : Int) ≤ ((a + j : Nat) : Int)) := by omega
    have hix : a + j < l.length := by omega
    have hx : ∀ H, ixaI H 1 v (.int .i64 ((a + j : Nat) : Int)) = some (atI byteE l (a + j), H) := fun H => hv.2 (a + j) hix .i64 H
    have w2 : IntKind.i64.wrap (((a + j : Nat) : Int) - 1) = ((a + j : Nat) : Int) - 1 := wrapI64 (by omega) (by omega)
    have hcons : (l.drop (a + j)).take (k - j) = l[a + j] :: (l.drop (a + (j + 1))).take (k - (j + 1)) := by
      rw [List.drop_eq_getElem_cons hix, show k - j = (k - (j + 1)) + 1 by omega, List.take_succ_cons]
      rfl
    have hlt : leN ((l.drop (a + (j + 1))).take (k - (j + 1))) < 256 ^ 7 := by
      refine Nat.lt_of_lt_of_le (leN_lt _) (Nat.pow_le_pow_right (by decide) ?_)
      rw [List.length_take]; omega
    have h7 : (256 : Nat) ^ 7 = 72057594037927936 := by decide
    have ho := or256 (h := leN ((l.drop (a + (j + 1))).take (k - (j + 1)))) (d := (l[a + j]).toNat) (by omega) (l[a + j]).toNat_lt
    rw [w_loop]
    simp only [fws, cond_true, cond_false, if_true, if_false, unV, isNil, optI, iV, stepI, evalR, reduceIte, reduceCtorEq, Nat.reduceEqDiff, Int.reduceLT, Int.reduceLE, Int.reduceToNat, Nat.reduceLT, Nat.reduceLeDiff, Int.reduceEq, Int.reduceNeg, IntKind.bits, Nat.reduceAdd, Nat.reduceMul, Nat.reducePow, Int.reducePow, ini, fwi, F_le_getr0_W, F_le_getr1_W, F_le_getr2_W, F_le_getr3_W, F_le_getr4_W, F_le_getr5_W, F_le_getr7_W, F_le_getr6_W, F_le_getl0_W, F_le_getr8_W, F_le_getc_W, v0, v1, v8, v9, wa, q, hx, at_cons hix, ho, w2]
    refine ih _ (by omega) ?_ ?_ ?_ ?_
    · (first | (simp only [fws, cond_true, cond_false, if_true, if_false, unV, isNil, optI, iV, stepI, evalR, reduceIte, reduceCtorEq, Nat.reduceEqDiff, Int.reduceLT, Int.reduceLE, Int.reduceToNat, Nat.reduceLT, Nat.reduceLeDiff, Int.reduceEq, Int.reduceNeg, IntKind.bits, Nat.reduceAdd, Nat.reduceMul, Nat.reducePow, Int.reducePow, ini, *]; done) | (simp only [fws, cond_true, cond_false, if_true, if_false, unV, isNil, optI, iV, stepI, evalR, reduceIte, reduceCtorEq, Nat.reduceEqDiff, Int.reduceLT, Int.reduceLE, Int.reduceToNat, Nat.reduceLT, Nat.reduceLeDiff, Int.reduceEq, Int.reduceNeg, IntKind.bits, Nat.reduceAdd, Nat.reduceMul, Nat.reducePow, Int.reducePow, ini]; rfl))
    · (first | (simp only [fws, cond_true, cond_false, if_true, if_false, unV, isNil, optI, iV, stepI, evalR, reduceIte, reduceCtorEq, Nat.reduceEqDiff, Int.reduceLT, Int.reduceLE, Int.reduceToNat, Nat.reduceLT, Nat.reduceLeDiff, Int.reduceEq, Int.reduceNeg, IntKind.bits, Nat.reduceAdd, Nat.reduceMul, Nat.reducePow, Int.reducePow, ini, *]; done) | (simp only [fws, cond_true, cond_false, if_true, if_false, unV, isNil, optI, iV, stepI, evalR, reduceIte, reduceCtorEq, Nat.reduceEqDiff, Int.reduceLT, Int.reduceLE, Int.reduceToNat, Nat.reduceLT, Nat.reduceLeDiff, Int.reduceEq, Int.reduceNeg, IntKind.bits, Nat.reduceAdd, Nat.reduceMul, Nat.reducePow, Int.reducePow, ini]; rfl))
    · rw [hcons]; (first | (simp only [fws, cond_true, cond_false, if_true, if_false, unV, isNil, optI, iV, stepI, evalR, reduceIte, reduceCtorEq, Nat.reduceEqDiff, Int.reduceLT, Int.reduceLE, Int.reduceToNat, Nat.reduceLT, Nat.reduceLeDiff, Int.reduceEq, Int.reduceNeg, IntKind.bits, Nat.reduceAdd, Nat.reduceMul, Nat.reducePow, Int.reducePow, ini, *]; done) | (simp only [fws, cond_true, cond_false, if_true, if_false, unV, isNil, optI, iV, stepI, evalR, reduceIte, reduceCtorEq, Nat.reduceEqDiff, Int.reduceLT, Int.reduceLE, Int.reduceToNat, Nat.reduceLT, Nat.reduceLeDiff, Int.reduceEq, Int.reduceNeg, IntKind.bits, Nat.reduceAdd, Nat.reduceMul, Nat.reducePow, Int.reducePow, ini]; rfl))
    · simp only [fws, cond_true, cond_false, if_true, if_false, unV, isNil, optI, iV, stepI, evalR, reduceIte, reduceCtorEq, Nat.reduceEqDiff, Int.reduceLT, Int.reduceLE, Int.reduceToNat, Nat.reduceLT, Nat.reduceLeDiff, Int.reduceEq, Int.reduceNeg, IntKind.bits, Nat.reduceAdd, Nat.reduceMul, Nat.reducePow, Int.reducePow, ini]; first | rfl | (congr 1; done) | (congr 1; omega)
def getV (l : List UInt8) (a k : Nat) : Value := if a + k ≤ l.length then .tuple #[.int .u64 (leN ((l.drop a).take k)), .int .i64 0] else .tuple #[.int .u64 0, .int .i64 20]
theorem f_le_get {T : Tab} (h0 : T 69 = some F_num_Sub) (h1 : T 55 = some F_num_Inside) (h : T 54 = some F_le_get) (l : List UInt8) (v : Value) (hv : Src byteE v l) (hp : pureV 6 v = true) (hl : l.length ≤ 100000) (a k : Nat) (ha : a < 18446744073709551616) (hk : 1 ≤ k ∧ k ≤ 8) :
    FnV T 54 [v, .int .u64 a, .int .u64 k] (getV l a k) := by
  refine FnV_of (by simp [pure_int, hp]) ?_
  rw [Ev_fn h rfl]
  have wl : IntKind.u64.wrap (l.length : Int) = l.length := by rw [wrap_u64]; omega
  have c1 := f_num_Inside (T := T) h0 h1 (a := a) (s := k) (f := 0) (r := l.length) ⟨by omega, by omega⟩ ⟨by omega, by omega⟩ ⟨by omega, by omega⟩ ⟨by omega, by omega⟩
  rw [show (0 : Int) = ((0 : Nat) : Int) from rfl, show insI a k ((0 : Nat) : Int) l.length = decide (a + k ≤ l.length) from ins_iff] at c1
  simp only [Int.cast_ofNat_Int] at c1
  unfold getV
  by_cases hak : a + k ≤ l.length
  · have hd : decide (a + k ≤ l.length) = true := by simp [hak]
    rw [hd] at c1
    have w1 : IntKind.i64.wrap (IntKind.u64.wrap (IntKind.u64.wrap ((a : Int) + k) - 1)) = (a : Int) + k - 1 := by
      have e1 : IntKind.u64.wrap ((a : Int) + k) = (a : Int) + k := by rw [wrap_u64]; omega
      have e2 : IntKind.u64.wrap ((a : Int) + k - 1) = (a : Int) + k - 1 := by rw [wrap_u64]; omega
      rw [e1, e2, wrapI64 (by omega) (by omega)]
    rw [if_pos hak]
    simp only [F_le_get, fws, cond_true, cond_false, if_true, if_false, unV, isNil, optI, iV, stepI, evalR, reduceIte, reduceCtorEq, Nat.reduceEqDiff, Int.reduceLT, Int.reduceLE, Int.reduceToNat, Nat.reduceLT, Nat.reduceLeDiff, Int.reduceEq, Int.reduceNeg, IntKind.bits, Nat.reduceAdd, Nat.reduceMul, Nat.reducePow, Int.reducePow, ini, fwi, F_le_getr0_W, F_le_getr1_W, F_le_getr2_W, F_le_getr3_W, F_le_getr4_W, F_le_getr5_W, F_le_getr7_W, F_le_getr6_W, F_le_getl0_W, F_le_getr8_W, F_le_getc_W, hv.1, wl, CC_of c1, w1]
    refine W.mono (loop_le_get l v hv hl a k hk.2 hak k _ (Nat.le_refl _) ?_ ?_ ?_ ?_) fun x e h ⟨g1, g2, g3⟩ => ?_
    · (first | (simp only [fws, cond_true, cond_false, if_true, if_false, unV, isNil, optI, iV, stepI, evalR, reduceIte, reduceCtorEq, Nat.reduceEqDiff, Int.reduceLT, Int.reduceLE, Int.reduceToNat, Nat.reduceLT, Nat.reduceLeDiff, Int.reduceEq, Int.reduceNeg, IntKind.bits, Nat.reduceAdd, Nat.reduceMul, Nat.reducePow, Int.reducePow, ini, *]; done) | (simp only [fws, cond_true, cond_false, if_true, if_false, unV, isNil, optI, iV, stepI, evalR, reduceIte, reduceCtorEq, Nat.reduceEqDiff, Int.reduceLT, Int.reduceLE, Int.reduceToNat, Nat.reduceLT, Nat.reduceLeDiff, Int.reduceEq, Int.reduceNeg, IntKind.bits, Nat.reduceAdd, Nat.reduceMul, Nat.reducePow, Int.reducePow, ini]; rfl))
    · (first | (simp only [fws, cond_true, cond_false, if_true, if_false, unV, isNil, optI, iV, stepI, evalR, reduceIte, reduceCtorEq, Nat.reduceEqDiff, Int.reduceLT, Int.reduceLE, Int.reduceToNat, Nat.reduceLT, Nat.reduceLeDiff, Int.reduceEq, Int.reduceNeg, IntKind.bits, Nat.reduceAdd, Nat.reduceMul, Nat.reducePow, Int.reducePow, ini, *]; done) | (simp only [fws, cond_true, cond_false, if_true, if_false, unV, isNil, optI, iV, stepI, evalR, reduceIte, reduceCtorEq, Nat.reduceEqDiff, Int.reduceLT, Int.reduceLE, Int.reduceToNat, Nat.reduceLT, Nat.reduceLeDiff, Int.reduceEq, Int.reduceNeg, IntKind.bits, Nat.reduceAdd, Nat.reduceMul, Nat.reducePow, Int.reducePow, ini]; rfl))
    · rw [Nat.sub_self]; (first | (simp only [fws, cond_true, cond_false, if_true, if_false, unV, isNil, optI, iV, stepI, evalR, reduceIte, reduceCtorEq, Nat.reduceEqDiff, Int.reduceLT, Int.reduceLE, Int.reduceToNat, Nat.reduceLT, Nat.reduceLeDiff, Int.reduceEq, Int.reduceNeg, IntKind.bits, Nat.reduceAdd, Nat.reduceMul, Nat.reducePow, Int.reducePow, ini, *]; done) | (simp only [fws, cond_true, cond_false, if_true, if_false, unV, isNil, optI, iV, stepI, evalR, reduceIte, reduceCtorEq, Nat.reduceEqDiff, Int.reduceLT, Int.reduceLE, Int.reduceToNat, Nat.reduceLT, Nat.reduceLeDiff, Int.reduceEq, Int.reduceNeg, IntKind.bits, Nat.reduceAdd, Nat.reduceMul, Nat.reducePow, Int.reducePow, ini]; rfl))
    · (first | (simp only [fws, cond_true, cond_false, if_true, if_false, unV, isNil, optI, iV, stepI, evalR, reduceIte, reduceCtorEq, Nat.reduceEqDiff, Int.reduceLT, Int.reduceLE, Int.reduceToNat, Nat.reduceLT, Nat.reduceLeDiff, Int.reduceEq, Int.reduceNeg, IntKind.bits, Nat.reduceAdd, Nat.reduceMul, Nat.reducePow, Int.reducePow, ini, *]; done) | (simp only [fws, cond_true, cond_false, if_true, if_false, unV, isNil, optI, iV, stepI, evalR, reduceIte, reduceCtorEq, Nat.reduceEqDiff, Int.reduceLT, Int.reduceLE, Int.reduceToNat, Nat.reduceLT, Nat.reduceLeDiff, Int.reduceEq, Int.reduceNeg, IntKind.bits, Nat.reduceAdd, Nat.reduceMul, Nat.reducePow, Int.reducePow, ini]; rfl))
    subst g1; subst g2
    simp only [fws, cond_true, cond_false, if_true, if_false, unV, isNil, optI, iV, stepI, evalR, reduceIte, reduceCtorEq, Nat.reduceEqDiff, Int.reduceLT, Int.reduceLE, Int.reduceToNat, Nat.reduceLT, Nat.reduceLeDiff, Int.reduceEq, Int.reduceNeg, IntKind.bits, Nat.reduceAdd, Nat.reduceMul, Nat.reducePow, Int.reducePow, ini, F_le_getr0_W, F_le_getr1_W, F_le_getr2_W, F_le_getr3_W, F_le_getr4_W, F_le_getr5_W, F_le_getr7_W, F_le_getr6_W, F_le_getl0_W, F_le_getr8_W, F_le_getc_W, g3]
    rfl
  · have hd : decide (a + k ≤ l.length) = false := by simp [hak]
    rw [hd] at c1
    rw [if_neg hak]
    simp only [F_le_get, fws, cond_true, cond_false, if_true, if_false, unV, isNil, optI, iV, stepI, evalR, reduceIte, reduceCtorEq, Nat.reduceEqDiff, Int.reduceLT, Int.reduceLE, Int.reduceToNat, Nat.reduceLT, Nat.reduceLeDiff, Int.reduceEq, Int.reduceNeg, IntKind.bits, Nat.reduceAdd, Nat.reduceMul, Nat.reducePow, Int.reducePow, ini, fwi, F_le_getr0_W, F_le_getr1_W, F_le_getr2_W, F_le_getr3_W, F_le_getr4_W, F_le_getr5_W, F_le_getr7_W, F_le_getr6_W, F_le_getl0_W, F_le_getr8_W, F_le_getc_W, hv.1, wl, CC_of c1]
    rfl
end Go.Proofs.Ytleogcfmlpmbiaa
