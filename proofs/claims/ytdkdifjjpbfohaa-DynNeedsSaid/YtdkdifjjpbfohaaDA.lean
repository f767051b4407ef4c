/- Numbers at places of bytes, and parts of bytes. -/
import Derived.Test.YtdkdifjjpbfohaaFwC
import Derived.Test.YtdkdifjjpbfohaaIrDyn
import Derived.Laws.RangeAny
import Derived.Test.YtdkdifjjpbfohaaStDyn
namespace Go.Proofs.Ytdkdifjjpbfohaa
open Go Fw
set_option linter.unusedSimpArgs false
set_option linter.unusedVariables false
set_option linter.unusedSectionVars false

/-- A value that is a list, in whatever frozen form. -/
def Src {α : Type} (E : Enc α) (v : Value) (l : List α) : Prop :=
  (∀ H, lenI H 1 v = some (.int .i64 l.length, H)) ∧ ∀ (i : Nat) (_ : i < l.length) (k : IntKind) (H : Heap), ixaI H E.u v (.int k i) = some (atI E l i, H)
theorem Src_imm {α : Type} {E : Enc α} {l : List α} : Src E (imm E l) l := ⟨fun _ => rfl, fun i h k H => ix_at rfl h k H⟩
theorem Src_sl {α : Type} {E : Enc α} {o : Option (List α)} : Src E (slV E o) (lst o) := ⟨fun _ => lenI_sl, fun i h k H => ix_sl rfl h k H⟩
theorem Src_immN {α : Type} {E : Enc α} {l : List α} : Src E (immN E l) l := by
  cases l with
  | nil => exact ⟨fun _ => rfl, fun i h => by simp at h⟩
  | cons x l => exact Src_imm

abbrev isU64 (n : Int) : Prop := 0 ≤ n ∧ n < 18446744073709551616
theorem u64_of {n : Int} (h : (Lit.int .u64 n).wf = true) : isU64 n := by
  simp [Lit.wf, IntKind.min, IntKind.max, IntKind.bits, IntKind.signed] at h
  unfold isU64
  omega
def insI (at_ size from_ room : Int) : Bool := decide (from_ ≤ at_) && (decide (at_ - from_ ≤ room) && decide (size ≤ room - (at_ - from_)))
theorem nat_u64 {n : Int} (h : (Lit.int .u64 n).wf = true) : ∃ m : Nat, n = m ∧ m < 18446744073709551616 := by
  have := u64_of h
  unfold isU64 at this
  exact ⟨n.toNat, by omega, by omega⟩
theorem f_num_Sub {T : Tab} (h : T 76 = some F_num_Sub) {a b : Int} (ha : isU64 a) (hb : isU64 b) :
    FnV T 76 [.int .u64 a, .int .u64 b] (if a < b then .tuple #[.int .u64 0, .bool false] else .tuple #[.int .u64 (a - b), .bool true]) := by
  refine FnV_of rfl ?_
  rw [Ev_fn h rfl]
  simp only [isU64] at ha hb
  by_cases hab : a < b
  · simp only [F_num_Sub, fws, cond_true, cond_false, if_true, if_false, unV, isNil, optI, iV, stepI, evalR, reduceIte, reduceCtorEq, Nat.reduceEqDiff, Int.reduceLT, Int.reduceLE, Int.reduceToNat, Nat.reduceLT, Nat.reduceLeDiff, Int.reduceEq, Int.reduceNeg, IntKind.bits, Nat.reduceAdd, Nat.reduceMul, Nat.reducePow, Int.reducePow, ini, F_num_Subr0_W, F_num_Subr1_W, F_num_Subr2_W, F_num_Subr3_W, F_num_Subc_W, hab]
    rfl
  · have w : IntKind.u64.wrap (a - b) = a - b := by rw [wrap_u64]; omega
    simp only [F_num_Sub, fws, cond_true, cond_false, if_true, if_false, unV, isNil, optI, iV, stepI, evalR, reduceIte, reduceCtorEq, Nat.reduceEqDiff, Int.reduceLT, Int.reduceLE, Int.reduceToNat, Nat.reduceLT, Nat.reduceLeDiff, Int.reduceEq, Int.reduceNeg, IntKind.bits, Nat.reduceAdd, Nat.reduceMul, Nat.reducePow, Int.reducePow, ini, F_num_Subr0_W, F_num_Subr1_W, F_num_Subr2_W, F_num_Subr3_W, F_num_Subc_W, hab, w]
    rfl
theorem f_num_Inside {T : Tab} (h0 : T 76 = some F_num_Sub) (h : T 74 = some F_num_Inside) {a s f r : Int} (ha : isU64 a) (hs : isU64 s) (hf : isU64 f) (hr : isU64 r) :
    FnV T 74 [.int .u64 a, .int .u64 s, .int .u64 f, .int .u64 r] (.bool (insI a s f r)) := by
  refine FnV_of rfl ?_
  rw [Ev_fn h rfl]
  have c1 := f_num_Sub h0 ha hf
  simp only [isU64] at ha hs hf hr
  unfold insI
  by_cases hab : a < f
  · have e1 : ¬ f ≤ a := by omega
    rw [if_pos hab] at c1
    simp only [F_num_Inside, fws, cond_true, cond_false, if_true, if_false, unV, isNil, optI, iV, stepI, evalR, reduceIte, reduceCtorEq, Nat.reduceEqDiff, Int.reduceLT, Int.reduceLE, Int.reduceToNat, Nat.reduceLT, Nat.reduceLeDiff, Int.reduceEq, Int.reduceNeg, IntKind.bits, Nat.reduceAdd, Nat.reduceMul, Nat.reducePow, Int.reducePow, ini, fwh, lk, cellsAt, tagOf, spotOf, rdN, spl, fillL, zr, fwi, F_num_Insider0_W, F_num_Insider1_W, F_num_Insider2_W, F_num_Insider2_g1, F_num_Insider2_g6, F_num_Insidec_W, CC_of c1, e1]
    rfl
  · have e1 : f ≤ a := by omega
    rw [if_neg hab] at c1
    by_cases e2 : a - f ≤ r
    · have w : IntKind.u64.wrap (r - (a - f)) = r - (a - f) := by rw [wrap_u64]; omega
      simp only [F_num_Inside, fws, cond_true, cond_false, if_true, if_false, unV, isNil, optI, iV, stepI, evalR, reduceIte, reduceCtorEq, Nat.reduceEqDiff, Int.reduceLT, Int.reduceLE, Int.reduceToNat, Nat.reduceLT, Nat.reduceLeDiff, Int.reduceEq, Int.reduceNeg, IntKind.bits, Nat.reduceAdd, Nat.reduceMul, Nat.reducePow, Int.reducePow, ini, fwh, lk, cellsAt, tagOf, spotOf, rdN, spl, fillL, zr, fwi, F_num_Insider0_W, F_num_Insider1_W, F_num_Insider2_W, F_num_Insider2_g1, F_num_Insider2_g6, F_num_Insidec_W, CC_of c1, e1, e2, w]
      rfl
    · simp only [F_num_Inside, fws, cond_true, cond_false, if_true, if_false, unV, isNil, optI, iV, stepI, evalR, reduceIte, reduceCtorEq, Nat.reduceEqDiff, Int.reduceLT, Int.reduceLE, Int.reduceToNat, Nat.reduceLT, Nat.reduceLeDiff, Int.reduceEq, Int.reduceNeg, IntKind.bits, Nat.reduceAdd, Nat.reduceMul, Nat.reducePow, Int.reducePow, ini, fwh, lk, cellsAt, tagOf, spotOf, rdN, spl, fillL, zr, fwi, F_num_Insider0_W, F_num_Insider1_W, F_num_Insider2_W, F_num_Insider2_g1, F_num_Insider2_g6, F_num_Insidec_W, CC_of c1, e1, e2]
      rfl

theorem dyn_alive : FnV TDyn 32 [] (.bool true) := FnV_run 60 rfl (by kernel_rfl)
/-- A number, the lowest byte first. -/
def leN (l : List UInt8) : Nat := l.foldr (fun c n => n * 256 + c.toNat) 0
theorem leN_lt : ∀ l : List UInt8, leN l < 256 ^ l.length
  | [] => by simp [leN]
  | c :: l => by
    have := leN_lt l
    have hc := c.toNat_lt
    show leN l * 256 + c.toNat < _
    rw [List.length_cons, Nat.pow_succ]
    omega
theorem leN_app : ∀ (l : List UInt8) (c : UInt8), leN (l ++ [c]) = leN l + 256 ^ l.length * c.toNat
  | [], c => by simp [leN]
  | d :: l, c => by
    have := leN_app l c
    show leN (l ++ [c]) * 256 + d.toNat = leN l * 256 + d.toNat + _
    rw [this, List.length_cons, Nat.pow_succ, Nat.add_mul, Nat.mul_assoc (256 ^ l.length) 256, Nat.mul_comm 256 c.toNat, ← Nat.mul_assoc]
    omega
def part {α : Type} (o : Option (List α)) (i j : Nat) : Option (List α) := o.map fun l => (l.drop i).take (j - i)
theorem lst_part {α : Type} {o : Option (List α)} {i j : Nat} : lst (part o i j) = ((lst o).drop i).take (j - i) := by cases o <;> simp [part, lst]
theorem sleI_sl {α : Type} {E : Enc α} {o : Option (List α)} {H : Heap} {n : Nat} (hn : n = E.u) {lo hi mx : Option Value} {i j k : Nat} (h1 : optJ 0 lo = some (i : Int)) (h2 : optJ (lst o).length hi = some (j : Int)) (h3 : optJ (lst o).length mx = some (k : Int)) (h4 : i ≤ j ∧ j ≤ k ∧ k ≤ (lst o).length) :
    sleI H n (slV E o) lo hi mx = some (slV E (part o i j), H) := by
  cases o with
  | some l => exact sleI_imm hn h1 h2 h3 ⟨by omega, by omega, by omega, by have := h4.2.2; simp only [lst_some] at this; omega⟩
  | none =>
    simp only [lst_none, List.length_nil] at h2 h3 h4
    have e1 : i = 0 := by omega
    have e2 : j = 0 := by omega
    have e3 : k = 0 := by omega
    subst e1; subst e2; subst e3
    simp only [sleI, slV, h1]
    have g2 : optJ 0 hi = some 0 := h2
    have g3 : optJ 0 mx = some 0 := h3
    rw [g2, g3]
    rfl
theorem ins_iff {a k n : Nat} : insI a k 0 n = decide (a + k ≤ n) := by
  unfold insI
  rw [Bool.eq_iff_iff]
  simp only [Bool.and_eq_true, decide_eq_true_eq]
  omega
theorem or256 {h d : Nat} (hh : h * 256 < 18446744073709551616) (hd : d < 256) : Go.bits .or .u64 (IntKind.u64.wrap ((h : Int) * 256)) (IntKind.u64.wrap (d : Int)) = ((h * 256 + d : Nat) : Int) := by
  have w : IntKind.u64.wrap ((h : Int) * 256) = ((h * 256 : Nat) : Int) := by rw [wrap_u64]; omega
  have w2 : IntKind.u64.wrap (d : Int) = (d : Int) := by rw [wrap_u64]; omega
  rw [w, w2, (bits_u64 hh (by omega)).2.1]
  have := Nat.two_pow_add_eq_or_of_lt (i := 8) (show d < 2 ^ 8 by omega) h
  rw [Nat.mul_comm] at this
  rw [← this]
theorem loop_le_get {T : Tab} (l : List UInt8) (v : Value) (hv : Src byteE v l) (hl : l.length ≤ 100000000) (a k : Nat) (hk : k ≤ 8) (hak : a + k ≤ l.length) : ∀ (j : Nat) (env : Env), j ≤ k → env 0 = v → env 1 = .int .u64 a → env 8 = .int .u64 (leN ((l.drop (a + j)).take (k - j))) → env 9 = .int .i64 ((a : Int) + j - 1) →
    W T (.loop F_le_getl0) env [] fun x e h => x = .exit 0 ∧ h = [] ∧ e 8 = .int .u64 (leN ((l.drop a).take k)) := by
  have wa : IntKind.i64.wrap (a : Int) = a := wrapI64 (by omega) (by omega)
  intro j
  induction j with
  | zero =>
    intro env hj v0 v1 v8 v9
    have v9 : env 9 = .int .i64 ((a : Int) - 1) := by rw [v9]; congr 1
    have q : ¬ ((a : Int) ≤ (a : Int) - 1) := by omega
    rw [w_loop]
    simp only [fws, cond_true, cond_false, if_true, if_false, unV, isNil, optI, iV, stepI, evalR, reduceIte, reduceCtorEq, Nat.reduceEqDiff, Int.reduceLT, Int.reduceLE, Int.reduceToNat, Nat.reduceLT, Nat.reduceLeDiff, Int.reduceEq, Int.reduceNeg, IntKind.bits, Nat.reduceAdd, Nat.reduceMul, Nat.reducePow, Int.reducePow, ini, F_le_getr0_W, F_le_getr1_W, F_le_getr2_W, F_le_getr3_W, F_le_getr4_W, F_le_getr5_W, F_le_getr7_W, F_le_getr6_W, F_le_getl0_W, F_le_getr8_W, F_le_getc_W, v0, v1, v8, v9, wa, q]
    exact ⟨trivial, trivial, rfl⟩
  | succ j ih =>
    intro env hj v0 v1 v8 v9
    have v9 : env 9 = .int .i64 ((a + j : Nat) : Int) := by rw [v9]; congr 1; omega
    have q : ((a : Int) ≤ ((a + j : Nat) : Int)) := by omega
    have hix : a + j < l.length := by omega
    have hx : ∀ H, ixaI H 1 v (.int .i64 ((a + j : Nat) : Int)) = some (atI byteE l (a + j), H) := fun H => hv.2 (a + j) hix .i64 H
    have w2 : IntKind.i64.wrap (((a + j : Nat) : Int) - 1) = ((a + j : Nat) : Int) - 1 := wrapI64 (by omega) (by omega)
    have hcons : (l.drop (a + j)).take (k - j) = l[a + j] :: (l.drop (a + (j + 1))).take (k - (j + 1)) := by
      rw [List.drop_eq_getElem_cons hix, show k - j = (k - (j + 1)) + 1 by omega, List.take_succ_cons]
      rfl
    have hlt : leN ((l.drop (a + (j + 1))).take (k - (j + 1))) < 256 ^ 7 := by
      refine Nat.lt_of_lt_of_le (leN_lt _) (Nat.pow_le_pow_right (by decide) ?_)
      rw [List.length_take]; omega
    have h7 : (256 : Nat) ^ 7 = 72057594037927936 := by decide
    have ho := or256 (h := leN ((l.drop (a + (j + 1))).take (k - (j + 1)))) (d := (l[a + j]).toNat) (by omega) (l[a + j]).toNat_lt
    rw [w_loop]
    simp only [fws, cond_true, cond_false, if_true, if_false, unV, isNil, optI, iV, stepI, evalR, reduceIte, reduceCtorEq, Nat.reduceEqDiff, Int.reduceLT, Int.reduceLE, Int.reduceToNat, Nat.reduceLT, Nat.reduceLeDiff, Int.reduceEq, Int.reduceNeg, IntKind.bits, Nat.reduceAdd, Nat.reduceMul, Nat.reducePow, Int.reducePow, ini, fwi, F_le_getr0_W, F_le_getr1_W, F_le_getr2_W, F_le_getr3_W, F_le_getr4_W, F_le_getr5_W, F_le_getr7_W, F_le_getr6_W, F_le_getl0_W, F_le_getr8_W, F_le_getc_W, v0, v1, v8, v9, wa, q, hx, at_cons hix, ho, w2]
    refine ih _ (by omega) ?_ ?_ ?_ ?_
    · (first | (simp only [fws, cond_true, cond_false, if_true, if_false, unV, isNil, optI, iV, stepI, evalR, reduceIte, reduceCtorEq, Nat.reduceEqDiff, Int.reduceLT, Int.reduceLE, Int.reduceToNat, Nat.reduceLT, Nat.reduceLeDiff, Int.reduceEq, Int.reduceNeg, IntKind.bits, Nat.reduceAdd, Nat.reduceMul, Nat.reducePow, Int.reducePow, ini, *]; done) | (simp only [fws, cond_true, cond_false, if_true, if_false, unV, isNil, optI, iV, stepI, evalR, reduceIte, reduceCtorEq, Nat.reduceEqDiff, Int.reduceLT, Int.reduceLE, Int.reduceToNat, Nat.reduceLT, Nat.reduceLeDiff, Int.reduceEq, Int.reduceNeg, IntKind.bits, Nat.reduceAdd, Nat.reduceMul, Nat.reducePow, Int.reducePow, ini]; rfl))
    · (first | (simp only [fws, cond_true, cond_false, if_true, if_false, unV, isNil, optI, iV, stepI, evalR, reduceIte, reduceCtorEq, Nat.reduceEqDiff, Int.reduceLT, Int.reduceLE, Int.reduceToNat, Nat.reduceLT, Nat.reduceLeDiff, Int.reduceEq, Int.reduceNeg, IntKind.bits, Nat.reduceAdd, Nat.reduceMul, Nat.reducePow, Int.reducePow, ini, *]; done) | (simp only [fws, cond_true, cond_false, if_true, if_false, unV, isNil, optI, iV, stepI, evalR, reduceIte, reduceCtorEq, Nat.reduceEqDiff, Int.reduceLT, Int.reduceLE, Int.reduceToNat, Nat.reduceLT, Nat.reduceLeDiff, Int.reduceEq, Int.reduceNeg, IntKind.bits, Nat.reduceAdd, Nat.reduceMul, Nat.reducePow, Int.reducePow, ini]; rfl))
    · rw [hcons]; (first | (simp only [fws, cond_true, cond_false, if_true, if_false, unV, isNil, optI, iV, stepI, evalR, reduceIte, reduceCtorEq, Nat.reduceEqDiff, Int.reduceLT, Int.reduceLE, Int.reduceToNat, Nat.reduceLT, Nat.reduceLeDiff, Int.reduceEq, Int.reduceNeg, IntKind.bits, Nat.reduceAdd, Nat.reduceMul, Nat.reducePow, Int.reducePow, ini, *]; done) | (simp only [fws, cond_true, cond_false, if_true, if_false, unV, isNil, optI, iV, stepI, evalR, reduceIte, reduceCtorEq, Nat.reduceEqDiff, Int.reduceLT, Int.reduceLE, Int.reduceToNat, Nat.reduceLT, Nat.reduceLeDiff, Int.reduceEq, Int.reduceNeg, IntKind.bits, Nat.reduceAdd, Nat.reduceMul, Nat.reducePow, Int.reducePow, ini]; rfl))
    · simp only [fws, cond_true, cond_false, if_true, if_false, unV, isNil, optI, iV, stepI, evalR, reduceIte, reduceCtorEq, Nat.reduceEqDiff, Int.reduceLT, Int.reduceLE, Int.reduceToNat, Nat.reduceLT, Nat.reduceLeDiff, Int.reduceEq, Int.reduceNeg, IntKind.bits, Nat.reduceAdd, Nat.reduceMul, Nat.reducePow, Int.reducePow, ini]; first | rfl | (congr 1; done) | (congr 1; omega)
def getV (l : List UInt8) (a k : Nat) : Value := if a + k ≤ l.length then .tuple #[.int .u64 (leN ((l.drop a).take k)), .int .i64 0] else .tuple #[.int .u64 0, .int .i64 20]
theorem f_le_get {T : Tab} (h0 : T 76 = some F_num_Sub) (h1 : T 74 = some F_num_Inside) (h : T 73 = some F_le_get) (l : List UInt8) (v : Value) (hv : Src byteE v l) (hp : pureV 6 v = true) (hl : l.length ≤ 100000000) (a k : Nat) (ha : a < 18446744073709551616) (hk : 1 ≤ k ∧ k ≤ 8) :
    FnV T 73 [v, .int .u64 a, .int .u64 k] (getV l a k) := by
  refine FnV_of (by simp [pure_int, hp]) ?_
  rw [Ev_fn h rfl]
  have wl : IntKind.u64.wrap (l.length : Int) = l.length := by rw [wrap_u64]; omega
  have c1 := f_num_Inside (T := T) h0 h1 (a := a) (s := k) (f := 0) (r := l.length) ⟨by omega, by omega⟩ ⟨by omega, by omega⟩ ⟨by omega, by omega⟩ ⟨by omega, by omega⟩
  rw [show (0 : Int) = ((0 : Nat) : Int) from rfl, show insI a k ((0 : Nat) : Int) l.length = decide (a + k ≤ l.length) from ins_iff] at c1
  simp only [Int.cast_ofNat_Int] at c1
  unfold getV
  by_cases hak : a + k ≤ l.length
  · have hd : decide (a + k ≤ l.length) = true := by simp [hak]
    rw [hd] at c1
    have w1 : IntKind.i64.wrap (IntKind.u64.wrap (IntKind.u64.wrap ((a : Int) + k) - 1)) = (a : Int) + k - 1 := by
      have e1 : IntKind.u64.wrap ((a : Int) + k) = (a : Int) + k := by rw [wrap_u64]; omega
      have e2 : IntKind.u64.wrap ((a : Int) + k - 1) = (a : Int) + k - 1 := by rw [wrap_u64]; omega
      rw [e1, e2, wrapI64 (by omega) (by omega)]
    rw [if_pos hak]
    simp only [F_le_get, fws, cond_true, cond_false, if_true, if_false, unV, isNil, optI, iV, stepI, evalR, reduceIte, reduceCtorEq, Nat.reduceEqDiff, Int.reduceLT, Int.reduceLE, Int.reduceToNat, Nat.reduceLT, Nat.reduceLeDiff, Int.reduceEq, Int.reduceNeg, IntKind.bits, Nat.reduceAdd, Nat.reduceMul, Nat.reducePow, Int.reducePow, ini, fwi, F_le_getr0_W, F_le_getr1_W, F_le_getr2_W, F_le_getr3_W, F_le_getr4_W, F_le_getr5_W, F_le_getr7_W, F_le_getr6_W, F_le_getl0_W, F_le_getr8_W, F_le_getc_W, hv.1, wl, CC_of c1, w1]
    refine W.mono (loop_le_get l v hv hl a k hk.2 hak k _ (Nat.le_refl _) ?_ ?_ ?_ ?_) fun x e h ⟨g1, g2, g3⟩ => ?_
    · (first | (simp only [fws, cond_true, cond_false, if_true, if_false, unV, isNil, optI, iV, stepI, evalR, reduceIte, reduceCtorEq, Nat.reduceEqDiff, Int.reduceLT, Int.reduceLE, Int.reduceToNat, Nat.reduceLT, Nat.reduceLeDiff, Int.reduceEq, Int.reduceNeg, IntKind.bits, Nat.reduceAdd, Nat.reduceMul, Nat.reducePow, Int.reducePow, ini, *]; done) | (simp only [fws, cond_true, cond_false, if_true, if_false, unV, isNil, optI, iV, stepI, evalR, reduceIte, reduceCtorEq, Nat.reduceEqDiff, Int.reduceLT, Int.reduceLE, Int.reduceToNat, Nat.reduceLT, Nat.reduceLeDiff, Int.reduceEq, Int.reduceNeg, IntKind.bits, Nat.reduceAdd, Nat.reduceMul, Nat.reducePow, Int.reducePow, ini]; rfl))
    · (first | (simp only [fws, cond_true, cond_false, if_true, if_false, unV, isNil, optI, iV, stepI, evalR, reduceIte, reduceCtorEq, Nat.reduceEqDiff, Int.reduceLT, Int.reduceLE, Int.reduceToNat, Nat.reduceLT, Nat.reduceLeDiff, Int.reduceEq, Int.reduceNeg, IntKind.bits, Nat.reduceAdd, Nat.reduceMul, Nat.reducePow, Int.reducePow, ini, *]; done) | (simp only [fws, cond_true, cond_false, if_true, if_false, unV, isNil, optI, iV, stepI, evalR, reduceIte, reduceCtorEq, Nat.reduceEqDiff, Int.reduceLT, Int.reduceLE, Int.reduceToNat, Nat.reduceLT, Nat.reduceLeDiff, Int.reduceEq, Int.reduceNeg, IntKind.bits, Nat.reduceAdd, Nat.reduceMul, Nat.reducePow, Int.reducePow, ini]; rfl))
    · rw [Nat.sub_self]; (first | (simp only [fws, cond_true, cond_false, if_true, if_false, unV, isNil, optI, iV, stepI, evalR, reduceIte, reduceCtorEq, Nat.reduceEqDiff, Int.reduceLT, Int.reduceLE, Int.reduceToNat, Nat.reduceLT, Nat.reduceLeDiff, Int.reduceEq, Int.reduceNeg, IntKind.bits, Nat.reduceAdd, Nat.reduceMul, Nat.reducePow, Int.reducePow, ini, *]; done) | (simp only [fws, cond_true, cond_false, if_true, if_false, unV, isNil, optI, iV, stepI, evalR, reduceIte, reduceCtorEq, Nat.reduceEqDiff, Int.reduceLT, Int.reduceLE, Int.reduceToNat, Nat.reduceLT, Nat.reduceLeDiff, Int.reduceEq, Int.reduceNeg, IntKind.bits, Nat.reduceAdd, Nat.reduceMul, Nat.reducePow, Int.reducePow, ini]; rfl))
    · (first | (simp only [fws, cond_true, cond_false, if_true, if_false, unV, isNil, optI, iV, stepI, evalR, reduceIte, reduceCtorEq, Nat.reduceEqDiff, Int.reduceLT, Int.reduceLE, Int.reduceToNat, Nat.reduceLT, Nat.reduceLeDiff, Int.reduceEq, Int.reduceNeg, IntKind.bits, Nat.reduceAdd, Nat.reduceMul, Nat.reducePow, Int.reducePow, ini, *]; done) | (simp only [fws, cond_true, cond_false, if_true, if_false, unV, isNil, optI, iV, stepI, evalR, reduceIte, reduceCtorEq, Nat.reduceEqDiff, Int.reduceLT, Int.reduceLE, Int.reduceToNat, Nat.reduceLT, Nat.reduceLeDiff, Int.reduceEq, Int.reduceNeg, IntKind.bits, Nat.reduceAdd, Nat.reduceMul, Nat.reducePow, Int.reducePow, ini]; rfl))
    subst g1; subst g2
    simp only [fws, cond_true, cond_false, if_true, if_false, unV, isNil, optI, iV, stepI, evalR, reduceIte, reduceCtorEq, Nat.reduceEqDiff, Int.reduceLT, Int.reduceLE, Int.reduceToNat, Nat.reduceLT, Nat.reduceLeDiff, Int.reduceEq, Int.reduceNeg, IntKind.bits, Nat.reduceAdd, Nat.reduceMul, Nat.reducePow, Int.reducePow, ini, F_le_getr0_W, F_le_getr1_W, F_le_getr2_W, F_le_getr3_W, F_le_getr4_W, F_le_getr5_W, F_le_getr7_W, F_le_getr6_W, F_le_getl0_W, F_le_getr8_W, F_le_getc_W, g3]
    rfl
  · have hd : decide (a + k ≤ l.length) = false := by simp [hak]
    rw [hd] at c1
    rw [if_neg hak]
    simp only [F_le_get, fws, cond_true, cond_false, if_true, if_false, unV, isNil, optI, iV, stepI, evalR, reduceIte, reduceCtorEq, Nat.reduceEqDiff, Int.reduceLT, Int.reduceLE, Int.reduceToNat, Nat.reduceLT, Nat.reduceLeDiff, Int.reduceEq, Int.reduceNeg, IntKind.bits, Nat.reduceAdd, Nat.reduceMul, Nat.reducePow, Int.reducePow, ini, fwi, F_le_getr0_W, F_le_getr1_W, F_le_getr2_W, F_le_getr3_W, F_le_getr4_W, F_le_getr5_W, F_le_getr7_W, F_le_getr6_W, F_le_getl0_W, F_le_getr8_W, F_le_getc_W, hv.1, wl, CC_of c1]
    rfl
end Go.Proofs.Ytdkdifjjpbfohaa
/- The document's numbers at places, parts; LeReads. -/
namespace Go.Proofs.Ytdkdifjjpbfohaa
open Go Fw
set_option linter.unusedSimpArgs false
set_option linter.unusedVariables false
set_option linter.unusedSectionVars false

/-- A copy into an empty slice, frozen. -/
theorem appf_z {α : Type} {E : Enc α} {n eb : Nat} (hn : n = E.u) (hd : E.d ≤ 6) (H : Heap) (l : List α) (hl : l.length * eb ≤ 140737488355328) :
    (appV n eb (H ++ [⟨0, .cells false n []⟩]) (.slice (some ⟨H.length, 0, none⟩) 0 0) (E.cs l) l.length).bind (fun r => fzV r.2 r.1) = some (imm E l, H ++ [⟨2, .dead⟩]) := by
  have h1 : lk (H ++ [⟨0, .cells false n []⟩]) ⟨H.length, 0, none⟩ = some ⟨0, .cells false n []⟩ := by simp [lk, tagOf]
  have h2 : lk (H ++ [⟨1, .cells false n (E.cs l)⟩]) ⟨H.length, 0, spotOf 1⟩ = some ⟨1, .cells false n (E.cs l)⟩ := by simp [lk, tagOf, spotOf]
  have h4 : ∀ m x, pureV 7 (.slice (some x) m m) = false := fun m x => rfl
  unfold appV
  simp only [h1, List.length_nil, Nat.zero_mul, Nat.add_zero, Nat.zero_add, true_and, hl, if_true, List.drop_nil, List.nil_append, Option.bind_some, List.set_append_right _ _ (Nat.le_refl _), Nat.sub_self, List.set_cons_zero, fzV, h4, cond_false, h2, List.drop_zero, rdN_cs (E := E) (l := l) (congrArg (l.length * ·) hn), cs_pure' (E := E) (l := l) hd, cond_true]
  rfl
theorem srcOf_slb {H : Heap} {o : Option (List UInt8)} : srcOf H 1 (slV byteE o) = some (byteE.cs (lst o), (lst o).length) := srcOf_sl (E := byteE) rfl

theorem strEq_str {a b : List UInt8} : strEq ⟨a.toArray⟩ ⟨b.toArray⟩ = decide (a = b) := by
  show (a == b) = _
  by_cases h : a = b
  · subst h; simp
  · simp [h]
theorem strEq_self {a : List UInt8} : strEq ⟨a.toArray⟩ ⟨a.toArray⟩ = true := by rw [strEq_str]; simp
theorem loop_ref02_Get {T : Tab} (l : List UInt8) (v : Value) (hv : Src byteE v l) (hl : l.length ≤ 100000000) (a k : Nat) (hk : k ≤ 8) (hak : a + k ≤ l.length) : ∀ (m i : Nat) (env : Env), i + m = k → env 0 = v → env 1 = .int .u64 a → env 2 = .int .i64 k → env 8 = .int .u64 (leN ((l.drop a).take i)) → env 9 = .int .u64 (256 ^ i % 18446744073709551616 : Nat) → env 10 = .int .i64 i →
    W T (.loop F_ref02_Getl0) env [] fun x e h => x = .exit 0 ∧ h = [] ∧ e 8 = .int .u64 (leN ((l.drop a).take k)) := by
  have wa : IntKind.i64.wrap (a : Int) = a := wrapI64 (by omega) (by omega)
  intro m
  induction m with
  | zero =>
    intro i env hi v0 v1 v2 v8 v9 v10
    have : i = k := by omega
    subst this
    have q : ¬ ((i : Int) < i) := by omega
    rw [w_loop]
    simp only [fws, cond_true, cond_false, if_true, if_false, unV, isNil, optI, iV, stepI, evalR, reduceIte, reduceCtorEq, Nat.reduceEqDiff, Int.reduceLT, Int.reduceLE, Int.reduceToNat, Nat.reduceLT, Nat.reduceLeDiff, Int.reduceEq, Int.reduceNeg, IntKind.bits, Nat.reduceAdd, Nat.reduceMul, Nat.reducePow, Int.reducePow, ini, F_ref02_Getr0_W, F_ref02_Getr1_W, F_ref02_Getr1_g5, F_ref02_Getr2_W, F_ref02_Getr3_W, F_ref02_Getr4_W, F_ref02_Getr5_W, F_ref02_Getr7_W, F_ref02_Getr8_W, F_ref02_Getr6_W, F_ref02_Getl0_W, F_ref02_Getr9_W, F_ref02_Getc_W, v0, v1, v2, v8, v9, v10, q, and_self]
  | succ m ih =>
    intro i env hi v0 v1 v2 v8 v9 v10
    have q : ((i : Int) < k) := by omega
    have hix : a + i < l.length := by omega
    have w1 : IntKind.i64.wrap ((a : Int) + (i : Int)) = ((a + i : Nat) : Int) := by rw [wrapI64 (by omega) (by omega)]; omega
    have hx : ∀ H, ixaI H 1 v (.int .i64 ((a + i : Nat) : Int)) = some (atI byteE l (a + i), H) := fun H => hv.2 (a + i) hix .i64 H
    have w2 : IntKind.i64.wrap ((i : Int) + 1) = ((i + 1 : Nat) : Int) := by rw [wrapI64 (by omega) (by omega)]; rfl
    have hcut : (l.drop a).take (i + 1) = (l.drop a).take i ++ [l[a + i]] := by
      rw [List.take_add_one, List.getElem?_drop, List.getElem?_eq_getElem hix]
      rfl
    have hlen : ((l.drop a).take i).length = i := by rw [List.length_take, List.length_drop]; omega
    have hn := leN_lt ((l.drop a).take i)
    rw [hlen] at hn
    have hle : leN ((l.drop a).take (i + 1)) = leN ((l.drop a).take i) + 256 ^ i * (l[a + i]).toNat := by rw [hcut, leN_app, hlen]
    have hlt := leN_lt ((l.drop a).take (i + 1))
    have h78 : (256 : Nat) ^ (((l.drop a).take (i + 1)).length) ≤ 256 ^ 8 := Nat.pow_le_pow_right (by decide) (by rw [List.length_take]; omega)
    have h8 : (256 : Nat) ^ 8 = 18446744073709551616 := by decide
    have hi7 : (256 : Nat) ^ i ≤ 256 ^ 7 := Nat.pow_le_pow_right (by decide) (by omega)
    have h7 : (256 : Nat) ^ 7 = 72057594037927936 := by decide
    have hu : 256 ^ i % 18446744073709551616 = 256 ^ i := Nat.mod_eq_of_lt (by omega)
    rw [hu] at v9
    generalize hX : (256 : Nat) ^ i = X at *
    have hc := (l[a + i]).toNat_lt
    have hmul : (((l[a + i]).toNat : Nat) : Int) * (X : Int) = ((X * (l[a + i]).toNat : Nat) : Int) := by rw [Nat.mul_comm]; rfl
    have w3 : IntKind.u64.wrap ((leN ((l.drop a).take i) : Int) + IntKind.u64.wrap (IntKind.u64.wrap ((l[a + i]).toNat : Int) * (X : Int))) = (leN ((l.drop a).take (i + 1)) : Int) := by
      have e1 : IntKind.u64.wrap ((l[a + i]).toNat : Int) = ((l[a + i]).toNat : Int) := by rw [wrap_u64]; omega
      rw [e1, hmul, hle]
      have e2 : IntKind.u64.wrap ((X * (l[a + i]).toNat : Nat) : Int) = ((X * (l[a + i]).toNat : Nat) : Int) := by rw [wrap_u64]; omega
      rw [e2, wrap_u64]
      omega
    have w4 : IntKind.u64.wrap ((X : Int) * 256) = ((256 ^ (i + 1) % 18446744073709551616 : Nat) : Int) := by
      rw [wrap_u64, Nat.pow_succ, hX]
      omega
    rw [w_loop]
    simp only [fws, cond_true, cond_false, if_true, if_false, unV, isNil, optI, iV, stepI, evalR, reduceIte, reduceCtorEq, Nat.reduceEqDiff, Int.reduceLT, Int.reduceLE, Int.reduceToNat, Nat.reduceLT, Nat.reduceLeDiff, Int.reduceEq, Int.reduceNeg, IntKind.bits, Nat.reduceAdd, Nat.reduceMul, Nat.reducePow, Int.reducePow, ini, fwi, F_ref02_Getr0_W, F_ref02_Getr1_W, F_ref02_Getr1_g5, F_ref02_Getr2_W, F_ref02_Getr3_W, F_ref02_Getr4_W, F_ref02_Getr5_W, F_ref02_Getr7_W, F_ref02_Getr8_W, F_ref02_Getr6_W, F_ref02_Getl0_W, F_ref02_Getr9_W, F_ref02_Getc_W, v0, v1, v2, v8, v9, v10, q, wa, w1, hx, at_cons hix, w3, w4, w2]
    refine ih (i + 1) _ (by omega) ?_ ?_ ?_ ?_ ?_ ?_
    all_goals (first | (simp only [fws, cond_true, cond_false, if_true, if_false, unV, isNil, optI, iV, stepI, evalR, reduceIte, reduceCtorEq, Nat.reduceEqDiff, Int.reduceLT, Int.reduceLE, Int.reduceToNat, Nat.reduceLT, Nat.reduceLeDiff, Int.reduceEq, Int.reduceNeg, IntKind.bits, Nat.reduceAdd, Nat.reduceMul, Nat.reducePow, Int.reducePow, ini, *]; done) | (simp only [fws, cond_true, cond_false, if_true, if_false, unV, isNil, optI, iV, stepI, evalR, reduceIte, reduceCtorEq, Nat.reduceEqDiff, Int.reduceLT, Int.reduceLE, Int.reduceToNat, Nat.reduceLT, Nat.reduceLeDiff, Int.reduceEq, Int.reduceNeg, IntKind.bits, Nat.reduceAdd, Nat.reduceMul, Nat.reducePow, Int.reducePow, ini]; rfl))
theorem f_ref02_Get {T : Tab} (h : T 62 = some F_ref02_Get) (l : List UInt8) (v : Value) (hv : Src byteE v l) (hp : pureV 6 v = true) (hl : l.length ≤ 100000000) (a k : Nat) (ha : a < 18446744073709551616) (hk : 1 ≤ k ∧ k ≤ 8) :
    FnV T 62 [v, .int .u64 a, .int .i64 k] (getV l a k) := by
  refine FnV_of (by simp [pure_int, hp]) ?_
  rw [Ev_fn h rfl]
  have wl : IntKind.u64.wrap (l.length : Int) = l.length := by rw [wrap_u64]; omega
  unfold getV
  by_cases h1 : l.length < a
  · have q : ((l.length : Int) < a) := by omega
    rw [if_neg (by omega)]
    simp only [F_ref02_Get, fws, cond_true, cond_false, if_true, if_false, unV, isNil, optI, iV, stepI, evalR, reduceIte, reduceCtorEq, Nat.reduceEqDiff, Int.reduceLT, Int.reduceLE, Int.reduceToNat, Nat.reduceLT, Nat.reduceLeDiff, Int.reduceEq, Int.reduceNeg, IntKind.bits, Nat.reduceAdd, Nat.reduceMul, Nat.reducePow, Int.reducePow, ini, fwi, F_ref02_Getr0_W, F_ref02_Getr1_W, F_ref02_Getr1_g5, F_ref02_Getr2_W, F_ref02_Getr3_W, F_ref02_Getr4_W, F_ref02_Getr5_W, F_ref02_Getr7_W, F_ref02_Getr8_W, F_ref02_Getr6_W, F_ref02_Getl0_W, F_ref02_Getr9_W, F_ref02_Getc_W, hv.1, wl, q]
    rfl
  · have q : ¬ ((l.length : Int) < a) := by omega
    have wa : IntKind.i64.wrap (a : Int) = a := wrapI64 (by omega) (by omega)
    have ws : IntKind.i64.wrap ((l.length : Int) - a) = (l.length : Int) - a := wrapI64 (by omega) (by omega)
    by_cases hak : a + k ≤ l.length
    · have q2 : ¬ ((l.length : Int) - a < k) := by omega
      rw [if_pos hak]
      simp only [F_ref02_Get, fws, cond_true, cond_false, if_true, if_false, unV, isNil, optI, iV, stepI, evalR, reduceIte, reduceCtorEq, Nat.reduceEqDiff, Int.reduceLT, Int.reduceLE, Int.reduceToNat, Nat.reduceLT, Nat.reduceLeDiff, Int.reduceEq, Int.reduceNeg, IntKind.bits, Nat.reduceAdd, Nat.reduceMul, Nat.reducePow, Int.reducePow, ini, fwi, F_ref02_Getr0_W, F_ref02_Getr1_W, F_ref02_Getr1_g5, F_ref02_Getr2_W, F_ref02_Getr3_W, F_ref02_Getr4_W, F_ref02_Getr5_W, F_ref02_Getr7_W, F_ref02_Getr8_W, F_ref02_Getr6_W, F_ref02_Getl0_W, F_ref02_Getr9_W, F_ref02_Getc_W, hv.1, wl, q, wa, ws, q2]
      refine W.mono (loop_ref02_Get l v hv hl a k hk.2 hak k 0 _ (Nat.zero_add _) ?_ ?_ ?_ ?_ ?_ ?_) fun x e h ⟨g1, g2, g3⟩ => ?_
      all_goals try (first | (simp only [fws, cond_true, cond_false, if_true, if_false, unV, isNil, optI, iV, stepI, evalR, reduceIte, reduceCtorEq, Nat.reduceEqDiff, Int.reduceLT, Int.reduceLE, Int.reduceToNat, Nat.reduceLT, Nat.reduceLeDiff, Int.reduceEq, Int.reduceNeg, IntKind.bits, Nat.reduceAdd, Nat.reduceMul, Nat.reducePow, Int.reducePow, ini, *]; done) | (simp only [fws, cond_true, cond_false, if_true, if_false, unV, isNil, optI, iV, stepI, evalR, reduceIte, reduceCtorEq, Nat.reduceEqDiff, Int.reduceLT, Int.reduceLE, Int.reduceToNat, Nat.reduceLT, Nat.reduceLeDiff, Int.reduceEq, Int.reduceNeg, IntKind.bits, Nat.reduceAdd, Nat.reduceMul, Nat.reducePow, Int.reducePow, ini]; rfl))
      subst g1; subst g2
      simp only [fws, cond_true, cond_false, if_true, if_false, unV, isNil, optI, iV, stepI, evalR, reduceIte, reduceCtorEq, Nat.reduceEqDiff, Int.reduceLT, Int.reduceLE, Int.reduceToNat, Nat.reduceLT, Nat.reduceLeDiff, Int.reduceEq, Int.reduceNeg, IntKind.bits, Nat.reduceAdd, Nat.reduceMul, Nat.reducePow, Int.reducePow, ini, F_ref02_Getr0_W, F_ref02_Getr1_W, F_ref02_Getr1_g5, F_ref02_Getr2_W, F_ref02_Getr3_W, F_ref02_Getr4_W, F_ref02_Getr5_W, F_ref02_Getr7_W, F_ref02_Getr8_W, F_ref02_Getr6_W, F_ref02_Getl0_W, F_ref02_Getr9_W, F_ref02_Getc_W, g3]
      rfl
    · have q2 : ((l.length : Int) - a < k) := by omega
      rw [if_neg hak]
      simp only [F_ref02_Get, fws, cond_true, cond_false, if_true, if_false, unV, isNil, optI, iV, stepI, evalR, reduceIte, reduceCtorEq, Nat.reduceEqDiff, Int.reduceLT, Int.reduceLE, Int.reduceToNat, Nat.reduceLT, Nat.reduceLeDiff, Int.reduceEq, Int.reduceNeg, IntKind.bits, Nat.reduceAdd, Nat.reduceMul, Nat.reducePow, Int.reducePow, ini, fwi, F_ref02_Getr0_W, F_ref02_Getr1_W, F_ref02_Getr1_g5, F_ref02_Getr2_W, F_ref02_Getr3_W, F_ref02_Getr4_W, F_ref02_Getr5_W, F_ref02_Getr7_W, F_ref02_Getr8_W, F_ref02_Getr6_W, F_ref02_Getl0_W, F_ref02_Getr9_W, F_ref02_Getc_W, hv.1, wl, q, wa, ws, q2]
      rfl
def getC (kd : IntKind) (l : List UInt8) (a k : Nat) : Value := if a + k ≤ l.length then .tuple #[.int kd (leN ((l.drop a).take k)), .int .i64 0] else .tuple #[.int kd 0, .int .i64 20]
theorem leN_take {l : List UInt8} {a k : Nat} (hk : k ≤ 8) : leN ((l.drop a).take k) < 256 ^ k := by
  refine Nat.lt_of_lt_of_le (leN_lt _) (Nat.pow_le_pow_right (by decide) ?_)
  rw [List.length_take]; omega
section
variable {T : Tab} (h0 : T 76 = some F_num_Sub) (h1 : T 74 = some F_num_Inside) (h2 : T 73 = some F_le_get) (l : List UInt8) (v : Value) (hv : Src byteE v l) (hp : pureV 6 v = true) (hl : l.length ≤ 100000000) (a : Nat) (ha : a < 18446744073709551616)
include h0 h1 h2 hv hp hl ha
theorem f_le_U64 (h : T 63 = some F_le_U64) : FnV T 63 [v, .int .u64 a] (getV l a 8) := by
  refine FnV_of (by simp [pure_int, hp]) ?_
  rw [Ev_fn h rfl]
  have c1 : FnV T 73 [v, .int .u64 a, .int .u64 8] (getV l a 8) := f_le_get h0 h1 h2 l v hv hp hl a 8 ha ⟨by decide, by decide⟩
  unfold getV at c1 ⊢
  by_cases hak : a + 8 ≤ l.length
  · rw [if_pos hak] at c1 ⊢
    simp only [F_le_U64, fws, cond_true, cond_false, if_true, if_false, unV, isNil, optI, iV, stepI, evalR, reduceIte, reduceCtorEq, Nat.reduceEqDiff, Int.reduceLT, Int.reduceLE, Int.reduceToNat, Nat.reduceLT, Nat.reduceLeDiff, Int.reduceEq, Int.reduceNeg, IntKind.bits, Nat.reduceAdd, Nat.reduceMul, Nat.reducePow, Int.reducePow, ini, fwh, lk, cellsAt, tagOf, spotOf, rdN, spl, fillL, zr, fwi, F_le_U64r0_W, F_le_U64r1_W, F_le_U64c_W, CC_of c1]
    rfl
  · rw [if_neg hak] at c1 ⊢
    simp only [F_le_U64, fws, cond_true, cond_false, if_true, if_false, unV, isNil, optI, iV, stepI, evalR, reduceIte, reduceCtorEq, Nat.reduceEqDiff, Int.reduceLT, Int.reduceLE, Int.reduceToNat, Nat.reduceLT, Nat.reduceLeDiff, Int.reduceEq, Int.reduceNeg, IntKind.bits, Nat.reduceAdd, Nat.reduceMul, Nat.reducePow, Int.reducePow, ini, fwh, lk, cellsAt, tagOf, spotOf, rdN, spl, fillL, zr, fwi, F_le_U64r0_W, F_le_U64r1_W, F_le_U64c_W, CC_of c1]
    rfl
end
theorem f_le_Part {T : Tab} (h0 : T 76 = some F_num_Sub) (h1 : T 74 = some F_num_Inside) (h : T 65 = some F_le_Part) (o : Option (List UInt8)) (hl : (lst o).length ≤ 100000000) (a s : Nat) (ha : a < 18446744073709551616) (hs : s < 18446744073709551616) :
    FnV T 65 [slV byteE o, .int .u64 a, .int .u64 s] (if a + s ≤ (lst o).length then .tuple #[immN byteE (((lst o).drop a).take s), .int .i64 0] else .tuple #[.slice none 0 0, .int .i64 20]) := by
  refine FnV_of (by simp [pure_int, pure_sl (E := byteE) (o := o) (k := 6) rfl]) ?_
  rw [Ev_fn h rfl]
  have wl : IntKind.u64.wrap ((lst o).length : Int) = (lst o).length := by rw [wrap_u64]; omega
  have c1 := f_num_Inside (T := T) h0 h1 (a := a) (s := s) (f := 0) (r := (lst o).length) ⟨by omega, by omega⟩ ⟨by omega, by omega⟩ ⟨by omega, by omega⟩ ⟨by omega, by omega⟩
  rw [show (0 : Int) = ((0 : Nat) : Int) from rfl, show insI a s ((0 : Nat) : Int) (lst o).length = decide (a + s ≤ (lst o).length) from ins_iff] at c1
  simp only [Int.cast_ofNat_Int] at c1
  by_cases hak : a + s ≤ (lst o).length
  · have hd : decide (a + s ≤ (lst o).length) = true := by simp [hak]
    rw [hd] at c1
    have w1 : IntKind.u64.wrap ((a : Int) + s) = ((a + s : Nat) : Int) := by rw [wrap_u64]; omega
    have hs := fun H => sleI_sl (E := byteE) (o := o) (H := H) (n := 1) (lo := some (.int .u64 a)) (hi := some (.int .u64 (a + s : Nat))) (mx := some (.int .u64 (a + s : Nat))) rfl rfl rfl rfl ⟨Nat.le_add_right _ _, Nat.le_refl _, hak⟩
    have hp : lst (part o a (a + s)) = ((lst o).drop a).take s := by rw [lst_part, Nat.add_sub_cancel_left]
    have hc := fun H => cpyI_N (E := byteE) (l := ((lst o).drop a).take s) (H := H) (n := 1) (eb := 1) (y := slV byteE (part o a (a + s))) rfl (by rw [List.length_take]; omega) (by have := srcOf_sl (E := byteE) (o := part o a (a + s)) (H := H) (n := 1) rfl; rwa [hp] at this)
    rw [if_pos hak]
    simp only [F_le_Part, fws, cond_true, cond_false, if_true, if_false, unV, isNil, optI, iV, stepI, evalR, reduceIte, reduceCtorEq, Nat.reduceEqDiff, Int.reduceLT, Int.reduceLE, Int.reduceToNat, Nat.reduceLT, Nat.reduceLeDiff, Int.reduceEq, Int.reduceNeg, IntKind.bits, Nat.reduceAdd, Nat.reduceMul, Nat.reducePow, Int.reducePow, ini, fwi, F_le_Partr0_W, F_le_Partr1_W, F_le_Partr2_W, F_le_Partr3_W, F_le_Partc_W, lenI_sl, wl, CC_of c1, w1, hs, hc]
    exact frz_pure (pure_tup.trans (by simp [pure_int, pure_immN (E := byteE) (l := ((lst o).drop a).take s) (k := 7) rfl]))
  · have hd : decide (a + s ≤ (lst o).length) = false := by simp [hak]
    rw [hd] at c1
    rw [if_neg hak]
    simp only [F_le_Part, fws, cond_true, cond_false, if_true, if_false, unV, isNil, optI, iV, stepI, evalR, reduceIte, reduceCtorEq, Nat.reduceEqDiff, Int.reduceLT, Int.reduceLE, Int.reduceToNat, Nat.reduceLT, Nat.reduceLeDiff, Int.reduceEq, Int.reduceNeg, IntKind.bits, Nat.reduceAdd, Nat.reduceMul, Nat.reducePow, Int.reducePow, ini, fwi, F_le_Partr0_W, F_le_Partr1_W, F_le_Partr2_W, F_le_Partr3_W, F_le_Partc_W, lenI_sl, wl, CC_of c1]
    rfl
theorem f_ref08_N {T : Tab} (h0 : T 62 = some F_ref02_Get) (h : T 47 = some F_ref08_N) (l : List UInt8) (v : Value) (hv : Src byteE v l) (hp : pureV 6 v = true) (hl : l.length ≤ 100000000) (a k : Nat) (hk : 1 ≤ k ∧ k ≤ 8) (hak : a + k ≤ l.length) :
    FnV T 47 [v, .int .u64 a, .int .i64 k] (.int .u64 (leN ((l.drop a).take k))) := by
  refine FnV_of (by simp [pure_int, hp]) ?_
  rw [Ev_fn h rfl]
  have c1 := f_ref02_Get h0 l v hv hp hl a k (by omega) hk
  unfold getV at c1
  rw [if_pos hak] at c1
  simp only [F_ref08_N, fws, cond_true, cond_false, if_true, if_false, unV, isNil, optI, iV, stepI, evalR, reduceIte, reduceCtorEq, Nat.reduceEqDiff, Int.reduceLT, Int.reduceLE, Int.reduceToNat, Nat.reduceLT, Nat.reduceLeDiff, Int.reduceEq, Int.reduceNeg, IntKind.bits, Nat.reduceAdd, Nat.reduceMul, Nat.reducePow, Int.reducePow, ini, F_ref08_Nr0_W, F_ref08_Nr1_W, F_ref08_Nr2_W, F_ref08_Nc_W, CC_of c1, List.getElem?_cons_zero, List.getElem?_cons_succ, List.getElem?_toArray]
  rfl
end Go.Proofs.Ytdkdifjjpbfohaa
/- Plain texts, texts at places; LeTexts. -/
namespace Go.Proofs.Ytdkdifjjpbfohaa
open Go Fw
set_option linter.unusedSimpArgs false
set_option linter.unusedVariables false
set_option linter.unusedSectionVars false

def okc (c : UInt8) : Bool := decide (33 ≤ c.toNat) && decide (c.toNat ≤ 126)
def plain (l : List UInt8) : Bool := decide (l.length ≤ 64) && l.all okc
theorem lenI_str {H : Heap} {l : List UInt8} : lenI H 0 (strV l) = some (.int .i64 l.length, H) := rfl
theorem nxt_low {l : List UInt8} {i : Nat} (h : i < l.length) (hc : l[i].toNat < 128) : nxtI [⟨0, .iter ⟨l.toArray⟩ i⟩] (.pointer (some ⟨0, 0, none⟩)) = some (.tuple #[.bool true, .int .i64 i, .int .i32 l[i].toNat], [⟨0, .iter ⟨l.toArray⟩ (i + 1)⟩]) := by
  have hs : i < (⟨l.toArray⟩ : ByteArray).size := h
  have hd := decode_ascii ⟨l.toArray⟩ i hs hc
  show (if i < (⟨l.toArray⟩ : ByteArray).size then some (Value.tuple #[.bool true, .int .i64 i, .int .i32 (Utf8.decode ⟨l.toArray⟩ i).1], [(⟨0, .iter ⟨l.toArray⟩ (i + (Utf8.decode ⟨l.toArray⟩ i).2)⟩ : Entry)]) else some (.tuple #[.bool false], [⟨0, .iter ⟨l.toArray⟩ i⟩])) = _
  rw [if_pos hs, hd]
  rfl
theorem nxt_high {l : List UInt8} {i : Nat} (h : i < l.length) (hc : 128 ≤ l[i].toNat) : ∃ (r : Int) (w : Nat), 128 ≤ r ∧ nxtI [⟨0, .iter ⟨l.toArray⟩ i⟩] (.pointer (some ⟨0, 0, none⟩)) = some (.tuple #[.bool true, .int .i64 i, .int .i32 r], [⟨0, .iter ⟨l.toArray⟩ w⟩]) := by
  have hs : i < (⟨l.toArray⟩ : ByteArray).size := h
  have hd := decode_high ⟨l.toArray⟩ i hs hc
  refine ⟨(Utf8.decode ⟨l.toArray⟩ i).1, i + (Utf8.decode ⟨l.toArray⟩ i).2, by have := hd.1; omega, ?_⟩
  show (if i < (⟨l.toArray⟩ : ByteArray).size then some (Value.tuple #[.bool true, .int .i64 i, .int .i32 (Utf8.decode ⟨l.toArray⟩ i).1], [(⟨0, .iter ⟨l.toArray⟩ (i + (Utf8.decode ⟨l.toArray⟩ i).2)⟩ : Entry)]) else some (.tuple #[.bool false], [⟨0, .iter ⟨l.toArray⟩ i⟩])) = _
  rw [if_pos hs]
theorem nxt_end {l : List UInt8} : nxtI [⟨0, .iter ⟨l.toArray⟩ l.length⟩] (.pointer (some ⟨0, 0, none⟩)) = some (.tuple #[.bool false], [⟨0, .iter ⟨l.toArray⟩ l.length⟩]) := by
  show (if l.length < (⟨l.toArray⟩ : ByteArray).size then some (Value.tuple #[.bool true, .int .i64 l.length, .int .i32 (Utf8.decode ⟨l.toArray⟩ l.length).1], [(⟨0, .iter ⟨l.toArray⟩ (l.length + (Utf8.decode ⟨l.toArray⟩ l.length).2)⟩ : Entry)]) else some (.tuple #[.bool false], [⟨0, .iter ⟨l.toArray⟩ l.length⟩])) = _
  rw [if_neg (show ¬ l.length < (⟨l.toArray⟩ : ByteArray).size from Nat.lt_irrefl l.length)]
theorem loop_le_Plain {T : Tab} (l : List UInt8) : ∀ (m i : Nat) (env : Env), i + m = l.length → env 9 = .pointer (some ⟨0, 0, none⟩) →
    W T (.loop F_le_Plainl0) env [⟨0, .iter ⟨l.toArray⟩ i⟩] fun x e h => if (l.drop i).all okc = true then x = .exit 0 else x = .ret ∧ e 2 = .bool false := by
  intro m
  induction m with
  | zero =>
    intro i env hi v9
    have : i = l.length := by omega
    subst this
    rw [w_loop, List.drop_length]
    simp only [fws, cond_true, cond_false, if_true, if_false, unV, isNil, optI, iV, stepI, evalR, reduceIte, reduceCtorEq, Nat.reduceEqDiff, Int.reduceLT, Int.reduceLE, Int.reduceToNat, Nat.reduceLT, Nat.reduceLeDiff, Int.reduceEq, Int.reduceNeg, IntKind.bits, Nat.reduceAdd, Nat.reduceMul, Nat.reducePow, Int.reducePow, ini, fwi, F_le_Plainr0_W, F_le_Plainr1_W, F_le_Plainr2_W, F_le_Plainr3_W, F_le_Plainr4_W, F_le_Plainr5_W, F_le_Plainr6_W, F_le_Plainr6_g2, F_le_Plainr7_W, F_le_Plainl0_W, F_le_Plainr8_W, F_le_Plainc_W, v9, nxt_end, List.toList_toArray, List.getElem?_cons_zero, List.all_nil]
  | succ m ih =>
    intro i env hi v9
    have hix : i < l.length := by omega
    have hd : (l.drop i).all okc = (okc l[i] && (l.drop (i + 1)).all okc) := by rw [List.drop_eq_getElem_cons hix]; rfl
    rw [hd, w_loop]
    by_cases h128 : l[i].toNat < 128
    · by_cases h33 : l[i].toNat < 33
      · have q : (((l[i]).toNat : Int) < 33) := by omega
        have ho : okc l[i] = false := by unfold okc; simp; omega
        simp only [fws, cond_true, cond_false, if_true, if_false, unV, isNil, optI, iV, stepI, evalR, reduceIte, reduceCtorEq, Nat.reduceEqDiff, Int.reduceLT, Int.reduceLE, Int.reduceToNat, Nat.reduceLT, Nat.reduceLeDiff, Int.reduceEq, Int.reduceNeg, IntKind.bits, Nat.reduceAdd, Nat.reduceMul, Nat.reducePow, Int.reducePow, ini, fwi, F_le_Plainr0_W, F_le_Plainr1_W, F_le_Plainr2_W, F_le_Plainr3_W, F_le_Plainr4_W, F_le_Plainr5_W, F_le_Plainr6_W, F_le_Plainr6_g2, F_le_Plainr7_W, F_le_Plainl0_W, F_le_Plainr8_W, F_le_Plainc_W, v9, nxt_low hix h128, List.toList_toArray, List.getElem?_cons_zero, List.getElem?_cons_succ, q, ho, Bool.false_eq_true, if_false, and_self]
      · have q : ¬ (((l[i]).toNat : Int) < 33) := by omega
        by_cases h126 : 126 < l[i].toNat
        · have q2 : ((126 : Int) < (l[i]).toNat) := by omega
          have ho : okc l[i] = false := by unfold okc; simp; omega
          simp only [fws, cond_true, cond_false, if_true, if_false, unV, isNil, optI, iV, stepI, evalR, reduceIte, reduceCtorEq, Nat.reduceEqDiff, Int.reduceLT, Int.reduceLE, Int.reduceToNat, Nat.reduceLT, Nat.reduceLeDiff, Int.reduceEq, Int.reduceNeg, IntKind.bits, Nat.reduceAdd, Nat.reduceMul, Nat.reducePow, Int.reducePow, ini, fwi, F_le_Plainr0_W, F_le_Plainr1_W, F_le_Plainr2_W, F_le_Plainr3_W, F_le_Plainr4_W, F_le_Plainr5_W, F_le_Plainr6_W, F_le_Plainr6_g2, F_le_Plainr7_W, F_le_Plainl0_W, F_le_Plainr8_W, F_le_Plainc_W, v9, nxt_low hix h128, List.toList_toArray, List.getElem?_cons_zero, List.getElem?_cons_succ, q, q2, ho, Bool.false_eq_true, if_false, and_self]
        · have q2 : ¬ ((126 : Int) < (l[i]).toNat) := by omega
          have ho : okc l[i] = true := by unfold okc; simp; omega
          simp only [fws, cond_true, cond_false, if_true, if_false, unV, isNil, optI, iV, stepI, evalR, reduceIte, reduceCtorEq, Nat.reduceEqDiff, Int.reduceLT, Int.reduceLE, Int.reduceToNat, Nat.reduceLT, Nat.reduceLeDiff, Int.reduceEq, Int.reduceNeg, IntKind.bits, Nat.reduceAdd, Nat.reduceMul, Nat.reducePow, Int.reducePow, ini, fwi, F_le_Plainr0_W, F_le_Plainr1_W, F_le_Plainr2_W, F_le_Plainr3_W, F_le_Plainr4_W, F_le_Plainr5_W, F_le_Plainr6_W, F_le_Plainr6_g2, F_le_Plainr7_W, F_le_Plainl0_W, F_le_Plainr8_W, F_le_Plainc_W, v9, nxt_low hix h128, List.toList_toArray, List.getElem?_cons_zero, List.getElem?_cons_succ, q, q2, ho]
          refine ih (i + 1) _ (by omega) ?_
          (first | (simp only [fws, cond_true, cond_false, if_true, if_false, unV, isNil, optI, iV, stepI, evalR, reduceIte, reduceCtorEq, Nat.reduceEqDiff, Int.reduceLT, Int.reduceLE, Int.reduceToNat, Nat.reduceLT, Nat.reduceLeDiff, Int.reduceEq, Int.reduceNeg, IntKind.bits, Nat.reduceAdd, Nat.reduceMul, Nat.reducePow, Int.reducePow, ini, *]; done) | (simp only [fws, cond_true, cond_false, if_true, if_false, unV, isNil, optI, iV, stepI, evalR, reduceIte, reduceCtorEq, Nat.reduceEqDiff, Int.reduceLT, Int.reduceLE, Int.reduceToNat, Nat.reduceLT, Nat.reduceLeDiff, Int.reduceEq, Int.reduceNeg, IntKind.bits, Nat.reduceAdd, Nat.reduceMul, Nat.reducePow, Int.reducePow, ini]; rfl))
    · obtain ⟨r, w, hr, hn⟩ := nxt_high hix (by omega)
      have q : ¬ (r < 33) := by omega
      have q2 : ((126 : Int) < r) := by omega
      have ho : okc l[i] = false := by unfold okc; simp; omega
      simp only [fws, cond_true, cond_false, if_true, if_false, unV, isNil, optI, iV, stepI, evalR, reduceIte, reduceCtorEq, Nat.reduceEqDiff, Int.reduceLT, Int.reduceLE, Int.reduceToNat, Nat.reduceLT, Nat.reduceLeDiff, Int.reduceEq, Int.reduceNeg, IntKind.bits, Nat.reduceAdd, Nat.reduceMul, Nat.reducePow, Int.reducePow, ini, fwi, F_le_Plainr0_W, F_le_Plainr1_W, F_le_Plainr2_W, F_le_Plainr3_W, F_le_Plainr4_W, F_le_Plainr5_W, F_le_Plainr6_W, F_le_Plainr6_g2, F_le_Plainr7_W, F_le_Plainl0_W, F_le_Plainr8_W, F_le_Plainc_W, v9, hn, List.toList_toArray, List.getElem?_cons_zero, List.getElem?_cons_succ, q, q2, ho, Bool.false_eq_true, if_false, and_self]
theorem f_le_Plain {T : Tab} (h : T 75 = some F_le_Plain) (l : List UInt8) : FnV T 75 [strV l] (.bool (plain l)) := by
  refine FnV_of rfl ?_
  rw [Ev_fn h rfl]
  unfold plain
  by_cases hl : 64 < l.length
  · have q : ((64 : Int) < l.length) := by omega
    have hd : decide (l.length ≤ 64) = false := by simp; omega
    rw [hd]
    simp only [F_le_Plain, fws, cond_true, cond_false, if_true, if_false, unV, isNil, optI, iV, stepI, evalR, reduceIte, reduceCtorEq, Nat.reduceEqDiff, Int.reduceLT, Int.reduceLE, Int.reduceToNat, Nat.reduceLT, Nat.reduceLeDiff, Int.reduceEq, Int.reduceNeg, IntKind.bits, Nat.reduceAdd, Nat.reduceMul, Nat.reducePow, Int.reducePow, ini, fwi, F_le_Plainr0_W, F_le_Plainr1_W, F_le_Plainr2_W, F_le_Plainr3_W, F_le_Plainr4_W, F_le_Plainr5_W, F_le_Plainr6_W, F_le_Plainr6_g2, F_le_Plainr7_W, F_le_Plainl0_W, F_le_Plainr8_W, F_le_Plainc_W, lenI_str, q]
    rfl
  · have q : ¬ ((64 : Int) < l.length) := by omega
    have hd : decide (l.length ≤ 64) = true := by simp; omega
    rw [hd]
    simp only [F_le_Plain, fws, cond_true, cond_false, if_true, if_false, unV, isNil, optI, iV, stepI, evalR, reduceIte, reduceCtorEq, Nat.reduceEqDiff, Int.reduceLT, Int.reduceLE, Int.reduceToNat, Nat.reduceLT, Nat.reduceLeDiff, Int.reduceEq, Int.reduceNeg, IntKind.bits, Nat.reduceAdd, Nat.reduceMul, Nat.reducePow, Int.reducePow, ini, fwh, lk, cellsAt, tagOf, spotOf, rdN, spl, fillL, zr, fwi, F_le_Plainr0_W, F_le_Plainr1_W, F_le_Plainr2_W, F_le_Plainr3_W, F_le_Plainr4_W, F_le_Plainr5_W, F_le_Plainr6_W, F_le_Plainr6_g2, F_le_Plainr7_W, F_le_Plainl0_W, F_le_Plainr8_W, F_le_Plainc_W, lenI_str, q]
    refine W.mono (loop_le_Plain l l.length 0 _ (Nat.zero_add _) ?_) fun x e h hq => ?_
    · (first | (simp only [fws, cond_true, cond_false, if_true, if_false, unV, isNil, optI, iV, stepI, evalR, reduceIte, reduceCtorEq, Nat.reduceEqDiff, Int.reduceLT, Int.reduceLE, Int.reduceToNat, Nat.reduceLT, Nat.reduceLeDiff, Int.reduceEq, Int.reduceNeg, IntKind.bits, Nat.reduceAdd, Nat.reduceMul, Nat.reducePow, Int.reducePow, ini, *]; done) | (simp only [fws, cond_true, cond_false, if_true, if_false, unV, isNil, optI, iV, stepI, evalR, reduceIte, reduceCtorEq, Nat.reduceEqDiff, Int.reduceLT, Int.reduceLE, Int.reduceToNat, Nat.reduceLT, Nat.reduceLeDiff, Int.reduceEq, Int.reduceNeg, IntKind.bits, Nat.reduceAdd, Nat.reduceMul, Nat.reducePow, Int.reducePow, ini]; rfl))
    rw [List.drop_zero] at hq
    by_cases ha : l.all okc = true
    · rw [if_pos ha] at hq
      subst hq
      rw [ha]
      simp only [fws, cond_true, cond_false, if_true, if_false, unV, isNil, optI, iV, stepI, evalR, reduceIte, reduceCtorEq, Nat.reduceEqDiff, Int.reduceLT, Int.reduceLE, Int.reduceToNat, Nat.reduceLT, Nat.reduceLeDiff, Int.reduceEq, Int.reduceNeg, IntKind.bits, Nat.reduceAdd, Nat.reduceMul, Nat.reducePow, Int.reducePow, ini, F_le_Plainr0_W, F_le_Plainr1_W, F_le_Plainr2_W, F_le_Plainr3_W, F_le_Plainr4_W, F_le_Plainr5_W, F_le_Plainr6_W, F_le_Plainr6_g2, F_le_Plainr7_W, F_le_Plainl0_W, F_le_Plainr8_W, F_le_Plainc_W]
      exact frz_pure pure_bool
    · rw [if_neg ha] at hq
      obtain ⟨rfl, g⟩ := hq
      rw [Bool.eq_false_iff.2 ha]
      simp only [fws, cond_true, cond_false, if_true, if_false, unV, isNil, optI, iV, stepI, evalR, reduceIte, reduceCtorEq, Nat.reduceEqDiff, Int.reduceLT, Int.reduceLE, Int.reduceToNat, Nat.reduceLT, Nat.reduceLeDiff, Int.reduceEq, Int.reduceNeg, IntKind.bits, Nat.reduceAdd, Nat.reduceMul, Nat.reducePow, Int.reducePow, ini, F_le_Plainr0_W, F_le_Plainr1_W, F_le_Plainr2_W, F_le_Plainr3_W, F_le_Plainr4_W, F_le_Plainr5_W, F_le_Plainr6_W, F_le_Plainr6_g2, F_le_Plainr7_W, F_le_Plainl0_W, F_le_Plainr8_W, F_le_Plainc_W, g]
      exact frz_pure pure_bool
theorem loop_ref02_Plain {T : Tab} (l : List UInt8) (hl : l.length ≤ 100000000) : ∀ (m i : Nat) (env : Env), i + m = l.length → env 0 = strV l → env 3 = .int .i64 i →
    W T (.loop F_ref02_Plainl0) env [] fun x e h => h = [] ∧ if (l.drop i).all okc = true then x = .exit 0 ∧ e 0 = strV l else x = .ret ∧ e 2 = .bool false := by
  intro m
  induction m with
  | zero =>
    intro i env hi v0 v3
    have h1 : ¬ ((i : Int) < l.length) := by omega
    rw [w_loop, List.drop_of_length_le (by omega)]
    simp only [fws, cond_true, cond_false, if_true, if_false, unV, isNil, optI, iV, stepI, evalR, reduceIte, reduceCtorEq, Nat.reduceEqDiff, Int.reduceLT, Int.reduceLE, Int.reduceToNat, Nat.reduceLT, Nat.reduceLeDiff, Int.reduceEq, Int.reduceNeg, IntKind.bits, Nat.reduceAdd, Nat.reduceMul, Nat.reducePow, Int.reducePow, ini, fwi, F_ref02_Plainr0_W, F_ref02_Plainr1_W, F_ref02_Plainr2_W, F_ref02_Plainr4_W, F_ref02_Plainr4_g4, F_ref02_Plainr5_W, F_ref02_Plainr3_W, F_ref02_Plainl0_W, F_ref02_Plainr6_W, F_ref02_Plainc_W, v0, v3, lenI_str, h1, List.all_nil, and_self]
  | succ m ih =>
    intro i env hi v0 v3
    have h1 : ((i : Int) < l.length) := by omega
    have hix : i < l.length := by omega
    have h0 : (0 : Int) ≤ i := Int.natCast_nonneg _
    have hget : l.getD i 0 = l[i] := by rw [List.getD_eq_getElem?_getD, List.getElem?_eq_getElem hix]; rfl
    have w2 : IntKind.i64.wrap ((i : Int) + 1) = ((i + 1 : Nat) : Int) := by rw [wrapI64 (by omega) (by omega)]; rfl
    have hd : (l.drop i).all okc = (okc l[i] && (l.drop (i + 1)).all okc) := by rw [List.drop_eq_getElem_cons hix]; rfl
    rw [hd, w_loop]
    by_cases h33 : l[i].toNat < 33
    · have q : (((l[i]).toNat : Int) < 33) := by omega
      have ho : okc l[i] = false := by unfold okc; simp; omega
      simp only [fws, cond_true, cond_false, if_true, if_false, unV, isNil, optI, iV, stepI, evalR, reduceIte, reduceCtorEq, Nat.reduceEqDiff, Int.reduceLT, Int.reduceLE, Int.reduceToNat, Nat.reduceLT, Nat.reduceLeDiff, Int.reduceEq, Int.reduceNeg, IntKind.bits, Nat.reduceAdd, Nat.reduceMul, Nat.reducePow, Int.reducePow, ini, fwi, F_ref02_Plainr0_W, F_ref02_Plainr1_W, F_ref02_Plainr2_W, F_ref02_Plainr4_W, F_ref02_Plainr4_g4, F_ref02_Plainr5_W, F_ref02_Plainr3_W, F_ref02_Plainl0_W, F_ref02_Plainr6_W, F_ref02_Plainc_W, v0, v3, lenI_str, h1, h0, hget, q, ho, Bool.false_eq_true, if_false, and_self]
    · have q : ¬ (((l[i]).toNat : Int) < 33) := by omega
      by_cases h126 : 126 < l[i].toNat
      · have q2 : ((126 : Int) < (l[i]).toNat) := by omega
        have ho : okc l[i] = false := by unfold okc; simp; omega
        simp only [fws, cond_true, cond_false, if_true, if_false, unV, isNil, optI, iV, stepI, evalR, reduceIte, reduceCtorEq, Nat.reduceEqDiff, Int.reduceLT, Int.reduceLE, Int.reduceToNat, Nat.reduceLT, Nat.reduceLeDiff, Int.reduceEq, Int.reduceNeg, IntKind.bits, Nat.reduceAdd, Nat.reduceMul, Nat.reducePow, Int.reducePow, ini, fwi, F_ref02_Plainr0_W, F_ref02_Plainr1_W, F_ref02_Plainr2_W, F_ref02_Plainr4_W, F_ref02_Plainr4_g4, F_ref02_Plainr5_W, F_ref02_Plainr3_W, F_ref02_Plainl0_W, F_ref02_Plainr6_W, F_ref02_Plainc_W, v0, v3, lenI_str, h1, h0, hget, q, q2, ho, Bool.false_eq_true, if_false, and_self]
      · have q2 : ¬ ((126 : Int) < (l[i]).toNat) := by omega
        have ho : okc l[i] = true := by unfold okc; simp; omega
        simp only [fws, cond_true, cond_false, if_true, if_false, unV, isNil, optI, iV, stepI, evalR, reduceIte, reduceCtorEq, Nat.reduceEqDiff, Int.reduceLT, Int.reduceLE, Int.reduceToNat, Nat.reduceLT, Nat.reduceLeDiff, Int.reduceEq, Int.reduceNeg, IntKind.bits, Nat.reduceAdd, Nat.reduceMul, Nat.reducePow, Int.reducePow, ini, fwi, F_ref02_Plainr0_W, F_ref02_Plainr1_W, F_ref02_Plainr2_W, F_ref02_Plainr4_W, F_ref02_Plainr4_g4, F_ref02_Plainr5_W, F_ref02_Plainr3_W, F_ref02_Plainl0_W, F_ref02_Plainr6_W, F_ref02_Plainc_W, v0, v3, lenI_str, h1, h0, hget, q, q2, ho, and_self, w2]
        refine ih (i + 1) _ (by omega) ?_ ?_
        all_goals (first | (simp only [fws, cond_true, cond_false, if_true, if_false, unV, isNil, optI, iV, stepI, evalR, reduceIte, reduceCtorEq, Nat.reduceEqDiff, Int.reduceLT, Int.reduceLE, Int.reduceToNat, Nat.reduceLT, Nat.reduceLeDiff, Int.reduceEq, Int.reduceNeg, IntKind.bits, Nat.reduceAdd, Nat.reduceMul, Nat.reducePow, Int.reducePow, ini, *]; done) | (simp only [fws, cond_true, cond_false, if_true, if_false, unV, isNil, optI, iV, stepI, evalR, reduceIte, reduceCtorEq, Nat.reduceEqDiff, Int.reduceLT, Int.reduceLE, Int.reduceToNat, Nat.reduceLT, Nat.reduceLeDiff, Int.reduceEq, Int.reduceNeg, IntKind.bits, Nat.reduceAdd, Nat.reduceMul, Nat.reducePow, Int.reducePow, ini]; rfl))
theorem f_ref02_Plain {T : Tab} (h : T 35 = some F_ref02_Plain) (l : List UInt8) (hl : l.length ≤ 100000000) : FnV T 35 [strV l] (.bool (plain l)) := by
  refine FnV_of rfl ?_
  rw [Ev_fn h rfl]
  unfold plain
  simp only [F_ref02_Plain, fws, cond_true, cond_false, if_true, if_false, unV, isNil, optI, iV, stepI, evalR, reduceIte, reduceCtorEq, Nat.reduceEqDiff, Int.reduceLT, Int.reduceLE, Int.reduceToNat, Nat.reduceLT, Nat.reduceLeDiff, Int.reduceEq, Int.reduceNeg, IntKind.bits, Nat.reduceAdd, Nat.reduceMul, Nat.reducePow, Int.reducePow, ini, fwi, F_ref02_Plainr0_W, F_ref02_Plainr1_W, F_ref02_Plainr2_W, F_ref02_Plainr4_W, F_ref02_Plainr4_g4, F_ref02_Plainr5_W, F_ref02_Plainr3_W, F_ref02_Plainl0_W, F_ref02_Plainr6_W, F_ref02_Plainc_W]
  refine W.mono (loop_ref02_Plain l hl l.length 0 _ (Nat.zero_add _) ?_ ?_) fun x e h ⟨g0, hq⟩ => ?_
  · (first | (simp only [fws, cond_true, cond_false, if_true, if_false, unV, isNil, optI, iV, stepI, evalR, reduceIte, reduceCtorEq, Nat.reduceEqDiff, Int.reduceLT, Int.reduceLE, Int.reduceToNat, Nat.reduceLT, Nat.reduceLeDiff, Int.reduceEq, Int.reduceNeg, IntKind.bits, Nat.reduceAdd, Nat.reduceMul, Nat.reducePow, Int.reducePow, ini, *]; done) | (simp only [fws, cond_true, cond_false, if_true, if_false, unV, isNil, optI, iV, stepI, evalR, reduceIte, reduceCtorEq, Nat.reduceEqDiff, Int.reduceLT, Int.reduceLE, Int.reduceToNat, Nat.reduceLT, Nat.reduceLeDiff, Int.reduceEq, Int.reduceNeg, IntKind.bits, Nat.reduceAdd, Nat.reduceMul, Nat.reducePow, Int.reducePow, ini]; rfl))
  · (first | (simp only [fws, cond_true, cond_false, if_true, if_false, unV, isNil, optI, iV, stepI, evalR, reduceIte, reduceCtorEq, Nat.reduceEqDiff, Int.reduceLT, Int.reduceLE, Int.reduceToNat, Nat.reduceLT, Nat.reduceLeDiff, Int.reduceEq, Int.reduceNeg, IntKind.bits, Nat.reduceAdd, Nat.reduceMul, Nat.reducePow, Int.reducePow, ini, *]; done) | (simp only [fws, cond_true, cond_false, if_true, if_false, unV, isNil, optI, iV, stepI, evalR, reduceIte, reduceCtorEq, Nat.reduceEqDiff, Int.reduceLT, Int.reduceLE, Int.reduceToNat, Nat.reduceLT, Nat.reduceLeDiff, Int.reduceEq, Int.reduceNeg, IntKind.bits, Nat.reduceAdd, Nat.reduceMul, Nat.reducePow, Int.reducePow, ini]; rfl))
  subst g0
  rw [List.drop_zero] at hq
  by_cases ha : l.all okc = true
  · rw [if_pos ha] at hq
    obtain ⟨rfl, g⟩ := hq
    have e1 : decide ((l.length : Int) ≤ 64) = decide (l.length ≤ 64) := by
      by_cases h64 : l.length ≤ 64
      · have : ((l.length : Int) ≤ 64) := by omega
        simp [this, h64]
      · have : ¬ ((l.length : Int) ≤ 64) := by omega
        simp [this, h64]
    rw [ha]
    simp only [fws, cond_true, cond_false, if_true, if_false, unV, isNil, optI, iV, stepI, evalR, reduceIte, reduceCtorEq, Nat.reduceEqDiff, Int.reduceLT, Int.reduceLE, Int.reduceToNat, Nat.reduceLT, Nat.reduceLeDiff, Int.reduceEq, Int.reduceNeg, IntKind.bits, Nat.reduceAdd, Nat.reduceMul, Nat.reducePow, Int.reducePow, ini, fwi, F_ref02_Plainr0_W, F_ref02_Plainr1_W, F_ref02_Plainr2_W, F_ref02_Plainr4_W, F_ref02_Plainr4_g4, F_ref02_Plainr5_W, F_ref02_Plainr3_W, F_ref02_Plainl0_W, F_ref02_Plainr6_W, F_ref02_Plainc_W, g, lenI_str, e1]
    rfl
  · rw [if_neg ha] at hq
    obtain ⟨rfl, g⟩ := hq
    rw [Bool.eq_false_iff.2 ha, Bool.and_false]
    simp only [fws, cond_true, cond_false, if_true, if_false, unV, isNil, optI, iV, stepI, evalR, reduceIte, reduceCtorEq, Nat.reduceEqDiff, Int.reduceLT, Int.reduceLE, Int.reduceToNat, Nat.reduceLT, Nat.reduceLeDiff, Int.reduceEq, Int.reduceNeg, IntKind.bits, Nat.reduceAdd, Nat.reduceMul, Nat.reducePow, Int.reducePow, ini, F_ref02_Plainr0_W, F_ref02_Plainr1_W, F_ref02_Plainr2_W, F_ref02_Plainr4_W, F_ref02_Plainr4_g4, F_ref02_Plainr5_W, F_ref02_Plainr3_W, F_ref02_Plainl0_W, F_ref02_Plainr6_W, F_ref02_Plainc_W, g]
    rfl
def tw (l : List UInt8) (i : Nat) : List UInt8 := (l.drop i).takeWhile (· != 0)
theorem tw_end {l : List UInt8} {i : Nat} (h : l.length ≤ i) : tw l i = [] := by unfold tw; rw [List.drop_of_length_le h]; rfl
theorem tw_zero {l : List UInt8} {i : Nat} (h : i < l.length) (h0 : l[i] = 0) : tw l i = [] := by
  unfold tw; rw [List.drop_eq_getElem_cons h, List.takeWhile_cons, h0]; rfl
theorem tw_cons {l : List UInt8} {i : Nat} (h : i < l.length) (h0 : l[i] ≠ 0) : tw l i = l[i] :: tw l (i + 1) := by
  unfold tw; rw [List.drop_eq_getElem_cons h, List.takeWhile_cons, if_pos (by simpa using h0)]
theorem tw_take (l : List UInt8) (i : Nat) : (l.drop i).take (tw l i).length = tw l i := (List.prefix_iff_eq_take.1 (List.takeWhile_prefix _)).symm
theorem tw_len (l : List UInt8) (i : Nat) : (tw l i).length ≤ l.length - i := by
  have := (List.takeWhile_prefix (l := l.drop i) (· != 0)).length_le
  rw [List.length_drop] at this
  exact this
def txt (l : List UInt8) (a : Nat) : Value := if a + (tw l a).length < l.length then (if plain (tw l a) = true then .tuple #[strV (tw l a), .int .i64 0] else .tuple #[.string ⟨#[]⟩, .int .i64 21]) else .tuple #[.string ⟨#[]⟩, .int .i64 20]
theorem loop_le_Text {T : Tab} (o : Option (List UInt8)) (hl : (lst o).length ≤ 100000000) : ∀ (m i : Nat) (env : Env), i + m = (lst o).length → env 0 = slV byteE o → env 6 = .int .i64 i →
    W T (.loop F_le_Textl0) env [] fun x e h => x = .exit 0 ∧ h = [] ∧ e 0 = slV byteE o ∧ e 1 = env 1 ∧ e 6 = .int .i64 (i + (tw (lst o) i).length : Nat) := by
  intro m
  induction m with
  | zero =>
    intro i env hi v0 v6
    have h1 : ¬ ((i : Int) < (lst o).length) := by omega
    rw [w_loop, tw_end (by omega)]
    simp only [fws, cond_true, cond_false, if_true, if_false, unV, isNil, optI, iV, stepI, evalR, reduceIte, reduceCtorEq, Nat.reduceEqDiff, Int.reduceLT, Int.reduceLE, Int.reduceToNat, Nat.reduceLT, Nat.reduceLeDiff, Int.reduceEq, Int.reduceNeg, IntKind.bits, Nat.reduceAdd, Nat.reduceMul, Nat.reducePow, Int.reducePow, ini, fwi, F_le_Textr0_W, F_le_Textr1_W, F_le_Textr2_W, F_le_Textr3_W, F_le_Textr4_W, F_le_Textr4_g4, F_le_Textr5_W, F_le_Textl0_W, F_le_Textr6_W, F_le_Textr7_W, F_le_Textr8_W, F_le_Textr9_W, F_le_Textr10_W, F_le_Textr11_W, F_le_Textc_W, v0, v6, lenI_sl, h1, List.length_nil, Nat.add_zero, and_self]
  | succ m ih =>
    intro i env hi v0 v6
    have h1 : ((i : Int) < (lst o).length) := by omega
    have hix : i < (lst o).length := by omega
    have hx := fun H => ix_sl (E := byteE) (n := 1) rfl hix .i64 H
    have w2 : IntKind.i64.wrap ((i : Int) + 1) = ((i + 1 : Nat) : Int) := by rw [wrapI64 (by omega) (by omega)]; rfl
    rw [w_loop]
    by_cases h0 : (lst o)[i] = 0
    · have q : decide ((((lst o)[i]).toNat : Int) = 0) = true := by rw [h0]; rfl
      rw [tw_zero hix h0]
      simp only [fws, cond_true, cond_false, if_true, if_false, unV, isNil, optI, iV, stepI, evalR, reduceIte, reduceCtorEq, Nat.reduceEqDiff, Int.reduceLT, Int.reduceLE, Int.reduceToNat, Nat.reduceLT, Nat.reduceLeDiff, Int.reduceEq, Int.reduceNeg, IntKind.bits, Nat.reduceAdd, Nat.reduceMul, Nat.reducePow, Int.reducePow, ini, fwi, F_le_Textr0_W, F_le_Textr1_W, F_le_Textr2_W, F_le_Textr3_W, F_le_Textr4_W, F_le_Textr4_g4, F_le_Textr5_W, F_le_Textl0_W, F_le_Textr6_W, F_le_Textr7_W, F_le_Textr8_W, F_le_Textr9_W, F_le_Textr10_W, F_le_Textr11_W, F_le_Textc_W, v0, v6, lenI_sl, h1, hx, at_cons hix, q, List.length_nil, Nat.add_zero, and_self]
    · have q : decide ((((lst o)[i]).toNat : Int) = 0) = false := by
        rw [decide_eq_false_iff_not]
        intro h
        exact h0 (UInt8.toNat_inj.1 (by show (lst o)[i].toNat = 0; omega))
      rw [tw_cons hix h0, List.length_cons, show i + ((tw (lst o) (i + 1)).length + 1) = i + 1 + (tw (lst o) (i + 1)).length by omega]
      simp only [fws, cond_true, cond_false, if_true, if_false, unV, isNil, optI, iV, stepI, evalR, reduceIte, reduceCtorEq, Nat.reduceEqDiff, Int.reduceLT, Int.reduceLE, Int.reduceToNat, Nat.reduceLT, Nat.reduceLeDiff, Int.reduceEq, Int.reduceNeg, IntKind.bits, Nat.reduceAdd, Nat.reduceMul, Nat.reducePow, Int.reducePow, ini, fwi, F_le_Textr0_W, F_le_Textr1_W, F_le_Textr2_W, F_le_Textr3_W, F_le_Textr4_W, F_le_Textr4_g4, F_le_Textr5_W, F_le_Textl0_W, F_le_Textr6_W, F_le_Textr7_W, F_le_Textr8_W, F_le_Textr9_W, F_le_Textr10_W, F_le_Textr11_W, F_le_Textc_W, v0, v6, lenI_sl, h1, hx, at_cons hix, q, w2]
      refine W.mono (ih (i + 1) _ (by omega) ?_ ?_) fun x e h ⟨g1, g2, g3, g4, g5⟩ => ⟨g1, g2, g3, ?_, g5⟩
      · (first | (simp only [fws, cond_true, cond_false, if_true, if_false, unV, isNil, optI, iV, stepI, evalR, reduceIte, reduceCtorEq, Nat.reduceEqDiff, Int.reduceLT, Int.reduceLE, Int.reduceToNat, Nat.reduceLT, Nat.reduceLeDiff, Int.reduceEq, Int.reduceNeg, IntKind.bits, Nat.reduceAdd, Nat.reduceMul, Nat.reducePow, Int.reducePow, ini, *]; done) | (simp only [fws, cond_true, cond_false, if_true, if_false, unV, isNil, optI, iV, stepI, evalR, reduceIte, reduceCtorEq, Nat.reduceEqDiff, Int.reduceLT, Int.reduceLE, Int.reduceToNat, Nat.reduceLT, Nat.reduceLeDiff, Int.reduceEq, Int.reduceNeg, IntKind.bits, Nat.reduceAdd, Nat.reduceMul, Nat.reducePow, Int.reducePow, ini]; rfl))
      · (first | (simp only [fws, cond_true, cond_false, if_true, if_false, unV, isNil, optI, iV, stepI, evalR, reduceIte, reduceCtorEq, Nat.reduceEqDiff, Int.reduceLT, Int.reduceLE, Int.reduceToNat, Nat.reduceLT, Nat.reduceLeDiff, Int.reduceEq, Int.reduceNeg, IntKind.bits, Nat.reduceAdd, Nat.reduceMul, Nat.reducePow, Int.reducePow, ini, *]; done) | (simp only [fws, cond_true, cond_false, if_true, if_false, unV, isNil, optI, iV, stepI, evalR, reduceIte, reduceCtorEq, Nat.reduceEqDiff, Int.reduceLT, Int.reduceLE, Int.reduceToNat, Nat.reduceLT, Nat.reduceLeDiff, Int.reduceEq, Int.reduceNeg, IntKind.bits, Nat.reduceAdd, Nat.reduceMul, Nat.reducePow, Int.reducePow, ini]; rfl))
      · rw [g4]; (first | (simp only [fws, cond_true, cond_false, if_true, if_false, unV, isNil, optI, iV, stepI, evalR, reduceIte, reduceCtorEq, Nat.reduceEqDiff, Int.reduceLT, Int.reduceLE, Int.reduceToNat, Nat.reduceLT, Nat.reduceLeDiff, Int.reduceEq, Int.reduceNeg, IntKind.bits, Nat.reduceAdd, Nat.reduceMul, Nat.reducePow, Int.reducePow, ini, *]; done) | (simp only [fws, cond_true, cond_false, if_true, if_false, unV, isNil, optI, iV, stepI, evalR, reduceIte, reduceCtorEq, Nat.reduceEqDiff, Int.reduceLT, Int.reduceLE, Int.reduceToNat, Nat.reduceLT, Nat.reduceLeDiff, Int.reduceEq, Int.reduceNeg, IntKind.bits, Nat.reduceAdd, Nat.reduceMul, Nat.reducePow, Int.reducePow, ini]; rfl))
theorem f_le_Text {T : Tab} (hP : T 75 = some F_le_Plain) (h : T 70 = some F_le_Text) (o : Option (List UInt8)) (hl : (lst o).length ≤ 100000000) (a : Nat) (ha : a < 18446744073709551616) :
    FnV T 70 [slV byteE o, .int .u64 a] (txt (lst o) a) := by
  refine FnV_of (by simp [pure_int, pure_sl (E := byteE) (o := o) (k := 6) rfl]) ?_
  rw [Ev_fn h rfl]
  have wl : IntKind.u64.wrap ((lst o).length : Int) = (lst o).length := by rw [wrap_u64]; omega
  unfold txt
  by_cases h1 : (lst o).length ≤ a
  · have q : (((lst o).length : Int) ≤ a) := by omega
    rw [if_neg (by omega)]
    simp only [F_le_Text, fws, cond_true, cond_false, if_true, if_false, unV, isNil, optI, iV, stepI, evalR, reduceIte, reduceCtorEq, Nat.reduceEqDiff, Int.reduceLT, Int.reduceLE, Int.reduceToNat, Nat.reduceLT, Nat.reduceLeDiff, Int.reduceEq, Int.reduceNeg, IntKind.bits, Nat.reduceAdd, Nat.reduceMul, Nat.reducePow, Int.reducePow, ini, fwi, F_le_Textr0_W, F_le_Textr1_W, F_le_Textr2_W, F_le_Textr3_W, F_le_Textr4_W, F_le_Textr4_g4, F_le_Textr5_W, F_le_Textl0_W, F_le_Textr6_W, F_le_Textr7_W, F_le_Textr8_W, F_le_Textr9_W, F_le_Textr10_W, F_le_Textr11_W, F_le_Textc_W, lenI_sl, wl, q]
    rfl
  · have q : ¬ (((lst o).length : Int) ≤ a) := by omega
    have wa : IntKind.i64.wrap (a : Int) = a := wrapI64 (by omega) (by omega)
    have htl := tw_len (lst o) a
    simp only [F_le_Text, fws, cond_true, cond_false, if_true, if_false, unV, isNil, optI, iV, stepI, evalR, reduceIte, reduceCtorEq, Nat.reduceEqDiff, Int.reduceLT, Int.reduceLE, Int.reduceToNat, Nat.reduceLT, Nat.reduceLeDiff, Int.reduceEq, Int.reduceNeg, IntKind.bits, Nat.reduceAdd, Nat.reduceMul, Nat.reducePow, Int.reducePow, ini, fwi, F_le_Textr0_W, F_le_Textr1_W, F_le_Textr2_W, F_le_Textr3_W, F_le_Textr4_W, F_le_Textr4_g4, F_le_Textr5_W, F_le_Textl0_W, F_le_Textr6_W, F_le_Textr7_W, F_le_Textr8_W, F_le_Textr9_W, F_le_Textr10_W, F_le_Textr11_W, F_le_Textc_W, lenI_sl, wl, q, wa]
    refine W.mono (loop_le_Text o hl ((lst o).length - a) a _ (by omega) ?_ ?_) fun x e h ⟨g1, g2, g3, g4, g5⟩ => ?_
    · (first | (simp only [fws, cond_true, cond_false, if_true, if_false, unV, isNil, optI, iV, stepI, evalR, reduceIte, reduceCtorEq, Nat.reduceEqDiff, Int.reduceLT, Int.reduceLE, Int.reduceToNat, Nat.reduceLT, Nat.reduceLeDiff, Int.reduceEq, Int.reduceNeg, IntKind.bits, Nat.reduceAdd, Nat.reduceMul, Nat.reducePow, Int.reducePow, ini, *]; done) | (simp only [fws, cond_true, cond_false, if_true, if_false, unV, isNil, optI, iV, stepI, evalR, reduceIte, reduceCtorEq, Nat.reduceEqDiff, Int.reduceLT, Int.reduceLE, Int.reduceToNat, Nat.reduceLT, Nat.reduceLeDiff, Int.reduceEq, Int.reduceNeg, IntKind.bits, Nat.reduceAdd, Nat.reduceMul, Nat.reducePow, Int.reducePow, ini]; rfl))
    · (first | (simp only [fws, cond_true, cond_false, if_true, if_false, unV, isNil, optI, iV, stepI, evalR, reduceIte, reduceCtorEq, Nat.reduceEqDiff, Int.reduceLT, Int.reduceLE, Int.reduceToNat, Nat.reduceLT, Nat.reduceLeDiff, Int.reduceEq, Int.reduceNeg, IntKind.bits, Nat.reduceAdd, Nat.reduceMul, Nat.reducePow, Int.reducePow, ini, *]; done) | (simp only [fws, cond_true, cond_false, if_true, if_false, unV, isNil, optI, iV, stepI, evalR, reduceIte, reduceCtorEq, Nat.reduceEqDiff, Int.reduceLT, Int.reduceLE, Int.reduceToNat, Nat.reduceLT, Nat.reduceLeDiff, Int.reduceEq, Int.reduceNeg, IntKind.bits, Nat.reduceAdd, Nat.reduceMul, Nat.reducePow, Int.reducePow, ini]; rfl))
    subst g1; subst g2
    have g4 : e 1 = .int .u64 a := by rw [g4]; (first | (simp only [fws, cond_true, cond_false, if_true, if_false, unV, isNil, optI, iV, stepI, evalR, reduceIte, reduceCtorEq, Nat.reduceEqDiff, Int.reduceLT, Int.reduceLE, Int.reduceToNat, Nat.reduceLT, Nat.reduceLeDiff, Int.reduceEq, Int.reduceNeg, IntKind.bits, Nat.reduceAdd, Nat.reduceMul, Nat.reducePow, Int.reducePow, ini, *]; done) | (simp only [fws, cond_true, cond_false, if_true, if_false, unV, isNil, optI, iV, stepI, evalR, reduceIte, reduceCtorEq, Nat.reduceEqDiff, Int.reduceLT, Int.reduceLE, Int.reduceToNat, Nat.reduceLT, Nat.reduceLeDiff, Int.reduceEq, Int.reduceNeg, IntKind.bits, Nat.reduceAdd, Nat.reduceMul, Nat.reducePow, Int.reducePow, ini]; rfl))
    by_cases h2 : a + (tw (lst o) a).length < (lst o).length
    · have q2 : decide (((a + (tw (lst o) a).length : Nat) : Int) = (lst o).length) = false := by rw [decide_eq_false_iff_not]; omega
      have hs := fun H => sleI_sl (E := byteE) (o := o) (H := H) (n := 1) (lo := some (.int .u64 a)) (hi := some (.int .i64 (a + (tw (lst o) a).length : Nat))) (mx := none) (k := (lst o).length) rfl rfl rfl rfl ⟨Nat.le_add_right _ _, by omega, Nat.le_refl _⟩
      have hp : lst (part o a (a + (tw (lst o) a).length)) = tw (lst o) a := by rw [lst_part, Nat.add_sub_cancel_left, tw_take]
      have hb := fun H => b2sI_sl (o := part o a (a + (tw (lst o) a).length)) (H := H)
      simp only [hp] at hb
      have c1 := f_le_Plain (T := T) hP (tw (lst o) a)
      rw [if_pos h2]
      cases hpl : plain (tw (lst o) a) with
      | true =>
        rw [hpl] at c1
        rw [if_pos rfl]
        simp only [fws, cond_true, cond_false, if_true, if_false, unV, isNil, optI, iV, stepI, evalR, reduceIte, reduceCtorEq, Nat.reduceEqDiff, Int.reduceLT, Int.reduceLE, Int.reduceToNat, Nat.reduceLT, Nat.reduceLeDiff, Int.reduceEq, Int.reduceNeg, IntKind.bits, Nat.reduceAdd, Nat.reduceMul, Nat.reducePow, Int.reducePow, ini, fwi, F_le_Textr0_W, F_le_Textr1_W, F_le_Textr2_W, F_le_Textr3_W, F_le_Textr4_W, F_le_Textr4_g4, F_le_Textr5_W, F_le_Textl0_W, F_le_Textr6_W, F_le_Textr7_W, F_le_Textr8_W, F_le_Textr9_W, F_le_Textr10_W, F_le_Textr11_W, F_le_Textc_W, g3, g4, g5, lenI_sl, q2, hs, hb, CC_of c1]
        rfl
      | false =>
        rw [hpl] at c1
        rw [if_neg (by decide)]
        simp only [fws, cond_true, cond_false, if_true, if_false, unV, isNil, optI, iV, stepI, evalR, reduceIte, reduceCtorEq, Nat.reduceEqDiff, Int.reduceLT, Int.reduceLE, Int.reduceToNat, Nat.reduceLT, Nat.reduceLeDiff, Int.reduceEq, Int.reduceNeg, IntKind.bits, Nat.reduceAdd, Nat.reduceMul, Nat.reducePow, Int.reducePow, ini, fwi, F_le_Textr0_W, F_le_Textr1_W, F_le_Textr2_W, F_le_Textr3_W, F_le_Textr4_W, F_le_Textr4_g4, F_le_Textr5_W, F_le_Textl0_W, F_le_Textr6_W, F_le_Textr7_W, F_le_Textr8_W, F_le_Textr9_W, F_le_Textr10_W, F_le_Textr11_W, F_le_Textc_W, g3, g4, g5, lenI_sl, q2, hs, hb, CC_of c1]
        rfl
    · have q2 : decide (((a + (tw (lst o) a).length : Nat) : Int) = (lst o).length) = true := by rw [decide_eq_true_eq]; omega
      rw [if_neg h2]
      simp only [fws, cond_true, cond_false, if_true, if_false, unV, isNil, optI, iV, stepI, evalR, reduceIte, reduceCtorEq, Nat.reduceEqDiff, Int.reduceLT, Int.reduceLE, Int.reduceToNat, Nat.reduceLT, Nat.reduceLeDiff, Int.reduceEq, Int.reduceNeg, IntKind.bits, Nat.reduceAdd, Nat.reduceMul, Nat.reducePow, Int.reducePow, ini, fwi, F_le_Textr0_W, F_le_Textr1_W, F_le_Textr2_W, F_le_Textr3_W, F_le_Textr4_W, F_le_Textr4_g4, F_le_Textr5_W, F_le_Textl0_W, F_le_Textr6_W, F_le_Textr7_W, F_le_Textr8_W, F_le_Textr9_W, F_le_Textr10_W, F_le_Textr11_W, F_le_Textc_W, g3, g4, g5, lenI_sl, q2]
      rfl
abbrev wideV (n : Int) : Value := .agg #[.int .u64 (n / 18446744073709551616), .int .u64 (n % 18446744073709551616)]
theorem f_ref01_Sum {T : Tab} (h : T 72 = some F_ref01_Sum) {a b : Int} (ha : isU64 a) (hb : isU64 b) : FnV T 72 [.int .u64 a, .int .u64 b] (wideV (a + b)) := by
  refine FnV_of rfl ?_
  rw [Ev_fn h rfl]
  simp only [isU64] at ha hb
  have w : IntKind.u64.wrap (a + b) = (a + b) % 18446744073709551616 := wrap_u64 _
  by_cases e : (a + b) % 18446744073709551616 < a
  · have e1 : (a + b) / 18446744073709551616 = 1 := by omega
    simp only [F_ref01_Sum, fws, cond_true, cond_false, if_true, if_false, unV, isNil, optI, iV, stepI, evalR, reduceIte, reduceCtorEq, Nat.reduceEqDiff, Int.reduceLT, Int.reduceLE, Int.reduceToNat, Nat.reduceLT, Nat.reduceLeDiff, Int.reduceEq, Int.reduceNeg, IntKind.bits, Nat.reduceAdd, Nat.reduceMul, Nat.reducePow, Int.reducePow, ini, fwh, lk, cellsAt, tagOf, spotOf, rdN, spl, fillL, zr, fwi, F_ref01_Sumr0_W, F_ref01_Sumr1_W, F_ref01_Sumr2_W, F_ref01_Sumr3_W, F_ref01_Sumr4_W, F_ref01_Sumc_W, w, e, wideV, e1]
    rfl
  · have e1 : (a + b) / 18446744073709551616 = 0 := by omega
    simp only [F_ref01_Sum, fws, cond_true, cond_false, if_true, if_false, unV, isNil, optI, iV, stepI, evalR, reduceIte, reduceCtorEq, Nat.reduceEqDiff, Int.reduceLT, Int.reduceLE, Int.reduceToNat, Nat.reduceLT, Nat.reduceLeDiff, Int.reduceEq, Int.reduceNeg, IntKind.bits, Nat.reduceAdd, Nat.reduceMul, Nat.reducePow, Int.reducePow, ini, fwh, lk, cellsAt, tagOf, spotOf, rdN, spl, fillL, zr, fwi, F_ref01_Sumr0_W, F_ref01_Sumr1_W, F_ref01_Sumr2_W, F_ref01_Sumr3_W, F_ref01_Sumr4_W, F_ref01_Sumc_W, w, e, wideV, e1]
    rfl
theorem f_ref01_Less {T : Tab} (h : T 71 = some F_ref01_Less) (m n : Int) : FnV T 71 [wideV m, wideV n] (.bool (decide (m < n))) := by
  refine FnV_of (by simp [pure_agg, pure_tup, pure_int, pure_bool, pure_string, pure_slN, pure_ptrN, pure_mapN, pure_imm, pure_immN, bltN, byteE_d, intE_d, boolE_d, strE_d]) ?_
  rw [Ev_fn h rfl]
  by_cases e1 : m / 18446744073709551616 < n / 18446744073709551616
  · have e2 : m < n := by omega
    simp only [F_ref01_Less, fws, cond_true, cond_false, if_true, if_false, unV, isNil, optI, iV, stepI, evalR, reduceIte, reduceCtorEq, Nat.reduceEqDiff, Int.reduceLT, Int.reduceLE, Int.reduceToNat, Nat.reduceLT, Nat.reduceLeDiff, Int.reduceEq, Int.reduceNeg, IntKind.bits, Nat.reduceAdd, Nat.reduceMul, Nat.reducePow, Int.reducePow, ini, fwh, lk, cellsAt, tagOf, spotOf, rdN, spl, fillL, zr, fwi, F_ref01_Lessr0_W, F_ref01_Lessr1_W, F_ref01_Lessr1_g5, F_ref01_Lessr1_g11, F_ref01_Lessc_W, e1, e2]
    rfl
  · by_cases e2 : m / 18446744073709551616 = n / 18446744073709551616
    · have e4 : (m < n) = (m % 18446744073709551616 < n % 18446744073709551616) := by rw [eq_iff_iff]; omega
      have e3 : ¬ (n / 18446744073709551616 < n / 18446744073709551616) := by omega
      simp only [F_ref01_Less, fws, cond_true, cond_false, if_true, if_false, unV, isNil, optI, iV, stepI, evalR, reduceIte, reduceCtorEq, Nat.reduceEqDiff, Int.reduceLT, Int.reduceLE, Int.reduceToNat, Nat.reduceLT, Nat.reduceLeDiff, Int.reduceEq, Int.reduceNeg, IntKind.bits, Nat.reduceAdd, Nat.reduceMul, Nat.reducePow, Int.reducePow, ini, fwh, lk, cellsAt, tagOf, spotOf, rdN, spl, fillL, zr, fwi, F_ref01_Lessr0_W, F_ref01_Lessr1_W, F_ref01_Lessr1_g5, F_ref01_Lessr1_g11, F_ref01_Lessc_W, e2, e3, e4]
      rfl
    · have e3 : ¬ m < n := by omega
      simp only [F_ref01_Less, fws, cond_true, cond_false, if_true, if_false, unV, isNil, optI, iV, stepI, evalR, reduceIte, reduceCtorEq, Nat.reduceEqDiff, Int.reduceLT, Int.reduceLE, Int.reduceToNat, Nat.reduceLT, Nat.reduceLeDiff, Int.reduceEq, Int.reduceNeg, IntKind.bits, Nat.reduceAdd, Nat.reduceMul, Nat.reducePow, Int.reducePow, ini, fwh, lk, cellsAt, tagOf, spotOf, rdN, spl, fillL, zr, fwi, F_ref01_Lessr0_W, F_ref01_Lessr1_W, F_ref01_Lessr1_g5, F_ref01_Lessr1_g11, F_ref01_Lessc_W, e1, e2, e3]
      rfl
theorem f_ref01_LessS {T : Tab} (h : T 71 = some F_ref01_Less) {m : Int} (hm : isU64 m) (n : Int) : FnV T 71 [.agg #[.int .u64 0, .int .u64 m], wideV n] (.bool (decide (m < n))) := by
  have := f_ref01_Less h m n
  simp only [isU64] at hm
  have e1 : m / 18446744073709551616 = 0 := by omega
  have e2 : m % 18446744073709551616 = m := by omega
  simp only [wideV, e1, e2] at this
  exact this
theorem f_ref01_Inside {T : Tab} (h0 : T 72 = some F_ref01_Sum) (h1 : T 71 = some F_ref01_Less) (h : T 61 = some F_ref01_Inside) {a s f r : Int} (ha : isU64 a) (hs : isU64 s) (hf : isU64 f) (hr : isU64 r) :
    FnV T 61 [.int .u64 a, .int .u64 s, .int .u64 f, .int .u64 r] (.bool (insI a s f r)) := by
  refine FnV_of rfl ?_
  rw [Ev_fn h rfl]
  have c1 := f_ref01_Sum h0 hf hr
  have c2 := f_ref01_Sum h0 ha hs
  have c3 := f_ref01_Less h1 (f + r) (a + s)
  simp only [isU64] at ha hs hf hr
  have key : insI a s f r = (decide (f ≤ a) && !decide (f + r < a + s)) := by
    unfold insI
    rw [Bool.eq_iff_iff]
    simp only [Bool.and_eq_true, decide_eq_true_eq, Bool.not_eq_true', decide_eq_false_iff_not]
    omega
  rw [key]
  by_cases e1 : f ≤ a
  · simp only [F_ref01_Inside, fws, cond_true, cond_false, if_true, if_false, unV, isNil, optI, iV, stepI, evalR, reduceIte, reduceCtorEq, Nat.reduceEqDiff, Int.reduceLT, Int.reduceLE, Int.reduceToNat, Nat.reduceLT, Nat.reduceLeDiff, Int.reduceEq, Int.reduceNeg, IntKind.bits, Nat.reduceAdd, Nat.reduceMul, Nat.reducePow, Int.reducePow, ini, fwh, lk, cellsAt, tagOf, spotOf, rdN, spl, fillL, zr, fwi, F_ref01_Insider0_W, F_ref01_Insider1_W, F_ref01_Insider1_g3, F_ref01_Insidec_W, CC_of c1, CC_of c2, CC_of c3, e1]
    rfl
  · simp only [F_ref01_Inside, fws, cond_true, cond_false, if_true, if_false, unV, isNil, optI, iV, stepI, evalR, reduceIte, reduceCtorEq, Nat.reduceEqDiff, Int.reduceLT, Int.reduceLE, Int.reduceToNat, Nat.reduceLT, Nat.reduceLeDiff, Int.reduceEq, Int.reduceNeg, IntKind.bits, Nat.reduceAdd, Nat.reduceMul, Nat.reducePow, Int.reducePow, ini, fwh, lk, cellsAt, tagOf, spotOf, rdN, spl, fillL, zr, fwi, F_ref01_Insider0_W, F_ref01_Insider1_W, F_ref01_Insider1_g3, F_ref01_Insidec_W, e1]
    rfl
end Go.Proofs.Ytdkdifjjpbfohaa
/- Parts of a library's memory, out of its file. -/
namespace Go.Proofs.Ytdkdifjjpbfohaa
open Go Fw
set_option linter.unusedSimpArgs false
set_option linter.unusedVariables false
set_option linter.unusedSectionVars false

abbrev PhE : Enc S_api_Phdr := S_api_PhdrE
/-- The headers. -/
structure Hd where
  m : Int
  o : Option (List S_api_Phdr)
  dy : S_api_Phdr
  re : S_api_Phdr
def Hd.wf (h : Hd) : Prop := (∀ p ∈ lst h.o, p.wf) ∧ h.dy.wf ∧ h.re.wf ∧ (lst h.o).length ≤ 1000
abbrev phA (p : S_api_Phdr) : Value := .agg #[.int .u32 p.Typ, .int .u32 p.Flags, .int .u64 p.Off, .int .u64 p.Vaddr, .int .u64 p.Filesz, .int .u64 p.Memsz, .int .u64 p.Align]
def Hd.cs (h : Hd) : List Value := [.int .u16 h.m, slV PhE h.o, .int .u32 h.dy.Typ, .int .u32 h.dy.Flags, .int .u64 h.dy.Off, .int .u64 h.dy.Vaddr, .int .u64 h.dy.Filesz, .int .u64 h.dy.Memsz, .int .u64 h.dy.Align, .int .u32 h.re.Typ, .int .u32 h.re.Flags, .int .u64 h.re.Off, .int .u64 h.re.Vaddr, .int .u64 h.re.Filesz, .int .u64 h.re.Memsz, .int .u64 h.re.Align]
abbrev Hd.v (h : Hd) : Value := .agg h.cs.toArray
theorem Hd.pure (h : Hd) : pureV 6 h.v = true := by
  simp [Hd.v, Hd.cs, pure_agg, pure_int, pure_sl (E := PhE) (o := h.o) (k := 5) rfl]
theorem u64_iff {n : Int} : (Lit.int .u64 n).wf = true ↔ isU64 n := by
  simp [Lit.wf, IntKind.min, IntKind.max, IntKind.bits, IntKind.signed]
  omega
def offF (a s : Int) : List S_api_Phdr → Option Int
  | [] => none
  | p :: l => if insI a s p.Vaddr p.Filesz = true then some (IntKind.u64.wrap (p.Off + IntKind.u64.wrap (a - p.Vaddr))) else offF a s l
def offV : Option Int → Value
  | some x => .tuple #[.int .u64 x, .bool true]
  | none => .tuple #[.int .u64 0, .bool false]
theorem offF_u64 {a s : Int} : ∀ {l : List S_api_Phdr} {x : Int}, offF a s l = some x → isU64 x
  | [], x, h => by cases h
  | p :: l, x, h => by
    simp only [offF] at h
    split at h
    · cases h
      have := wrap_u64 (p.Off + IntKind.u64.wrap (a - p.Vaddr))
      unfold isU64
      omega
    · exact offF_u64 h
theorem loop_head_Off {T : Tab} (h0 : T 76 = some F_num_Sub) (h1 : T 74 = some F_num_Inside) (o : Option (List S_api_Phdr)) (hw : ∀ p ∈ lst o, p.wf) (hl : (lst o).length ≤ 1000) {a s : Int} (ha : isU64 a) (hs : isU64 s) :
    ∀ (k i : Nat) (H : Heap) (env : Env), i + k = (lst o).length → env 1 = .int .u64 a → env 2 = .int .u64 s → env 11 = slV PhE o → env 12 = .int .i64 (lst o).length → env 13 = .int .i64 i →
    W T (.loop F_head_Offl0) env H fun x e _ => match offF a s ((lst o).drop i) with | some v => x = .ret ∧ e 6 = .int .u64 v ∧ e 7 = .bool true | none => x = .exit 0 := by
  intro k
  induction k with
  | zero =>
    intro i H env hi e1 e2 e11 e12 e13
    have q : ¬ ((i : Int) < (lst o).length) := by omega
    rw [w_loop, List.drop_of_length_le (by omega)]
    simp only [fws, cond_true, cond_false, if_true, if_false, unV, isNil, optI, iV, stepI, evalR, reduceIte, reduceCtorEq, Nat.reduceEqDiff, Int.reduceLT, Int.reduceLE, Int.reduceToNat, Nat.reduceLT, Nat.reduceLeDiff, Int.reduceEq, Int.reduceNeg, IntKind.bits, Nat.reduceAdd, Nat.reduceMul, Nat.reducePow, Int.reducePow, ini, fwi, F_head_Offr0_W, F_head_Offr1_W, F_head_Offr2_W, F_head_Offr3_W, F_head_Offr4_W, F_head_Offr5_W, F_head_Offr6_W, F_head_Offl0_W, F_head_Offr7_W, F_head_Offc_W, e12, e13, q, offF]
  | succ k ih =>
    intro i H env hi e1 e2 e11 e12 e13
    have q : ((i : Int) < (lst o).length) := by omega
    have hix : i < (lst o).length := by omega
    have hx := fun H => ix_sl (E := PhE) (o := o) (n := 7) rfl hix .i64 H
    have hld : ∀ H, loadNI H 7 (atI PhE (lst o) i) = some (phA (lst o)[i], H) := fun H => loadNI_at rfl hix
    obtain ⟨w1, w2, w3, w4, w5, w6, w7⟩ := hw _ (List.getElem_mem hix)
    simp only [u64_iff] at w3 w4 w5
    have c1 := f_num_Inside (T := T) h0 h1 ha hs w4 w5
    have w2 : IntKind.i64.wrap ((i : Int) + 1) = ((i + 1 : Nat) : Int) := by rw [wrapI64 (by omega) (by omega)]; rfl
    rw [w_loop, List.drop_eq_getElem_cons hix]
    simp only [offF]
    cases hin : insI a s (lst o)[i].Vaddr (lst o)[i].Filesz with
    | true =>
      rw [hin] at c1
      simp only [fws, cond_true, cond_false, if_true, if_false, unV, isNil, optI, iV, stepI, evalR, reduceIte, reduceCtorEq, Nat.reduceEqDiff, Int.reduceLT, Int.reduceLE, Int.reduceToNat, Nat.reduceLT, Nat.reduceLeDiff, Int.reduceEq, Int.reduceNeg, IntKind.bits, Nat.reduceAdd, Nat.reduceMul, Nat.reducePow, Int.reducePow, ini, fwh, lk, cellsAt, tagOf, spotOf, rdN, spl, fillL, zr, fwi, F_head_Offr0_W, F_head_Offr1_W, F_head_Offr2_W, F_head_Offr3_W, F_head_Offr4_W, F_head_Offr5_W, F_head_Offr6_W, F_head_Offl0_W, F_head_Offr7_W, F_head_Offc_W, e1, e2, e11, e12, e13, q, hx, hld, CC_of c1, if_true, and_self]
    | false =>
      rw [hin] at c1
      simp only [fws, cond_true, cond_false, if_true, if_false, unV, isNil, optI, iV, stepI, evalR, reduceIte, reduceCtorEq, Nat.reduceEqDiff, Int.reduceLT, Int.reduceLE, Int.reduceToNat, Nat.reduceLT, Nat.reduceLeDiff, Int.reduceEq, Int.reduceNeg, IntKind.bits, Nat.reduceAdd, Nat.reduceMul, Nat.reducePow, Int.reducePow, ini, fwh, lk, cellsAt, tagOf, spotOf, rdN, spl, fillL, zr, fwi, F_head_Offr0_W, F_head_Offr1_W, F_head_Offr2_W, F_head_Offr3_W, F_head_Offr4_W, F_head_Offr5_W, F_head_Offr6_W, F_head_Offl0_W, F_head_Offr7_W, F_head_Offc_W, e1, e2, e11, e12, e13, q, hx, hld, CC_of c1, Bool.false_eq_true, if_false, w2]
      refine ih (i + 1) _ _ (by omega) ?_ ?_ ?_ ?_ ?_
      all_goals (first | assumption | rfl)
theorem f_head_Off {T : Tab} (h0 : T 76 = some F_num_Sub) (h1 : T 74 = some F_num_Inside) (h : T 64 = some F_head_Off) (d : Hd) (hd : d.wf) {a s : Int} (ha : isU64 a) (hs : isU64 s) :
    FnV T 64 [d.v, .int .u64 a, .int .u64 s] (offV (offF a s (lst d.o))) := by
  refine FnV_of (by simp [pure_int, d.pure]) ?_
  rw [Ev_fn h rfl]
  simp only [F_head_Off, Hd.v, Hd.cs, fws, cond_true, cond_false, if_true, if_false, unV, isNil, optI, iV, stepI, evalR, reduceIte, reduceCtorEq, Nat.reduceEqDiff, Int.reduceLT, Int.reduceLE, Int.reduceToNat, Nat.reduceLT, Nat.reduceLeDiff, Int.reduceEq, Int.reduceNeg, IntKind.bits, Nat.reduceAdd, Nat.reduceMul, Nat.reducePow, Int.reducePow, ini, fwh, lk, cellsAt, tagOf, spotOf, rdN, spl, fillL, zr, fwi, F_head_Offr0_W, F_head_Offr1_W, F_head_Offr2_W, F_head_Offr3_W, F_head_Offr4_W, F_head_Offr5_W, F_head_Offr6_W, F_head_Offl0_W, F_head_Offr7_W, F_head_Offc_W, lenI_sl, oneC_sl]
  refine W.mono (loop_head_Off h0 h1 d.o hd.1 hd.2.2.2 ha hs (lst d.o).length 0 _ _ (Nat.zero_add _) ?_ ?_ ?_ ?_ ?_) fun x e h hq => ?_
  all_goals try (first | assumption | rfl)
  rw [List.drop_zero] at hq
  cases ho : offF a s (lst d.o) with
  | none =>
    rw [ho] at hq
    subst hq
    simp only [fws, cond_true, cond_false, if_true, if_false, unV, isNil, optI, iV, stepI, evalR, reduceIte, reduceCtorEq, Nat.reduceEqDiff, Int.reduceLT, Int.reduceLE, Int.reduceToNat, Nat.reduceLT, Nat.reduceLeDiff, Int.reduceEq, Int.reduceNeg, IntKind.bits, Nat.reduceAdd, Nat.reduceMul, Nat.reducePow, Int.reducePow, ini, F_head_Offr0_W, F_head_Offr1_W, F_head_Offr2_W, F_head_Offr3_W, F_head_Offr4_W, F_head_Offr5_W, F_head_Offr6_W, F_head_Offl0_W, F_head_Offr7_W, F_head_Offc_W, offV]
    rfl
  | some v =>
    rw [ho] at hq
    obtain ⟨rfl, g1, g2⟩ := hq
    simp only [fws, cond_true, cond_false, if_true, if_false, unV, isNil, optI, iV, stepI, evalR, reduceIte, reduceCtorEq, Nat.reduceEqDiff, Int.reduceLT, Int.reduceLE, Int.reduceToNat, Nat.reduceLT, Nat.reduceLeDiff, Int.reduceEq, Int.reduceNeg, IntKind.bits, Nat.reduceAdd, Nat.reduceMul, Nat.reducePow, Int.reducePow, ini, F_head_Offr0_W, F_head_Offr1_W, F_head_Offr2_W, F_head_Offr3_W, F_head_Offr4_W, F_head_Offr5_W, F_head_Offr6_W, F_head_Offl0_W, F_head_Offr7_W, F_head_Offc_W, g1, g2, offV]
    rfl
/-- The part, if it is there. -/
def partF (b : List UInt8) (d : Hd) (a s : Int) : Option (List UInt8) :=
  match offF a s (lst d.o) with
  | some x => if x.toNat + s.toNat ≤ b.length then some ((b.drop x.toNat).take s.toNat) else none
  | none => none
def partV : Option (List UInt8) → Value
  | some l => .tuple #[immN byteE l, .bool true]
  | none => .tuple #[.slice none 0 0, .bool false]
theorem partF_len {b : List UInt8} {d : Hd} {a s : Int} {l : List UInt8} (h : partF b d a s = some l) : l.length ≤ b.length := by
  unfold partF at h
  split at h
  · split at h
    · cases h
      rw [List.length_take, List.length_drop]
      omega
    · cases h
  · cases h
section
variable {T : Tab} (h0 : T 76 = some F_num_Sub) (h1 : T 74 = some F_num_Inside) (h2 : T 64 = some F_head_Off) (h3 : T 65 = some F_le_Part) (d : Hd) (hd : d.wf) (o : Option (List UInt8)) (hl : (lst o).length ≤ 100000000)
include h0 h1 h2 h3 hd hl
theorem f_head_Part (h : T 55 = some F_head_Part) {a s : Int} (ha : isU64 a) (hs : isU64 s) : FnV T 55 [slV byteE o, d.v, .int .u64 a, .int .u64 s] (partV (partF (lst o) d a s)) := by
  refine FnV_of (by simp [pure_int, d.pure, pure_sl (E := byteE) (o := o) (k := 6) rfl]) ?_
  rw [Ev_fn h rfl]
  have c1 := f_head_Off h0 h1 h2 d hd ha hs
  unfold partF
  cases hof : offF a s (lst d.o) with
  | none =>
    rw [hof] at c1
    simp only [offV, Hd.v, Hd.cs] at c1
    simp only [F_head_Part, Hd.v, Hd.cs, fws, cond_true, cond_false, if_true, if_false, unV, isNil, optI, iV, stepI, evalR, reduceIte, reduceCtorEq, Nat.reduceEqDiff, Int.reduceLT, Int.reduceLE, Int.reduceToNat, Nat.reduceLT, Nat.reduceLeDiff, Int.reduceEq, Int.reduceNeg, IntKind.bits, Nat.reduceAdd, Nat.reduceMul, Nat.reducePow, Int.reducePow, ini, fwh, lk, cellsAt, tagOf, spotOf, rdN, spl, fillL, zr, fwi, F_head_Partr0_W, F_head_Partr1_W, F_head_Partr2_W, F_head_Partr3_W, F_head_Partr4_W, F_head_Partr5_W, F_head_Partc_W, oneC_sl, CC_of c1, partV]
    rfl
  | some x =>
    rw [hof] at c1
    simp only [offV, Hd.v, Hd.cs] at c1
    have hx := offF_u64 hof
    have e1 : (x.toNat : Int) = x := Int.toNat_of_nonneg hx.1
    have e2 : (s.toNat : Int) = s := Int.toNat_of_nonneg hs.1
    have c2 := f_le_Part (T := T) h0 h1 h3 o hl x.toNat s.toNat (by have := hx.2; omega) (by have := hs.2; omega)
    rw [e1, e2] at c2
    by_cases hle : x.toNat + s.toNat ≤ (lst o).length
    · rw [if_pos hle] at c2
      simp only [hle, if_true]
      simp only [F_head_Part, Hd.v, Hd.cs, fws, cond_true, cond_false, if_true, if_false, unV, isNil, optI, iV, stepI, evalR, reduceIte, reduceCtorEq, Nat.reduceEqDiff, Int.reduceLT, Int.reduceLE, Int.reduceToNat, Nat.reduceLT, Nat.reduceLeDiff, Int.reduceEq, Int.reduceNeg, IntKind.bits, Nat.reduceAdd, Nat.reduceMul, Nat.reducePow, Int.reducePow, ini, fwh, lk, cellsAt, tagOf, spotOf, rdN, spl, fillL, zr, fwi, F_head_Partr0_W, F_head_Partr1_W, F_head_Partr2_W, F_head_Partr3_W, F_head_Partr4_W, F_head_Partr5_W, F_head_Partc_W, oneC_sl, CC_of c1, CC_of c2, partV]
      exact frz_pure (pure_tup.trans (by simp [pure_bool, pure_immN (E := byteE) (l := ((lst o).drop x.toNat).take s.toNat) (k := 7) rfl]))
    · rw [if_neg hle] at c2
      simp only [hle, if_false]
      simp only [F_head_Part, Hd.v, Hd.cs, fws, cond_true, cond_false, if_true, if_false, unV, isNil, optI, iV, stepI, evalR, reduceIte, reduceCtorEq, Nat.reduceEqDiff, Int.reduceLT, Int.reduceLE, Int.reduceToNat, Nat.reduceLT, Nat.reduceLeDiff, Int.reduceEq, Int.reduceNeg, IntKind.bits, Nat.reduceAdd, Nat.reduceMul, Nat.reducePow, Int.reducePow, ini, fwh, lk, cellsAt, tagOf, spotOf, rdN, spl, fillL, zr, fwi, F_head_Partr0_W, F_head_Partr1_W, F_head_Partr2_W, F_head_Partr3_W, F_head_Partr4_W, F_head_Partr5_W, F_head_Partc_W, oneC_sl, CC_of c1, CC_of c2, partV]
      rfl
end
end Go.Proofs.Ytdkdifjjpbfohaa
/- The entries of a dynamic section; which tags are looked at; maps of numbers. -/
namespace Go.Proofs.Ytdkdifjjpbfohaa
open Go Fw
set_option linter.unusedSimpArgs false
set_option linter.unusedVariables false
set_option linter.unusedSectionVars false

abbrev EnE : Enc S_dyn_Entry := S_dyn_EntryE
/-- A list of its own, answered for good. -/
theorem Own.frzE {α : Type} {E : Enc α} {H : Heap} {v : Value} {l : List α} (h : Own E H v l) {k : Nat} (hk : E.d ≤ k) : ∃ o, lst o = l ∧ frz (k + 1) H v = some (slV E o) := by
  rcases h with ⟨rfl, rfl⟩ | ⟨b, tag, rfl, hH⟩
  · exact ⟨none, rfl, rfl⟩
  · have hlk : lk H ⟨b, 0, spotOf tag⟩ = some ⟨tag, .cells false E.u (E.cs l)⟩ := own_lk (tag := tag) (o := .cells false E.u (E.cs l)) hH
    refine ⟨some l, rfl, ?_⟩
    have h1 : pureV (k + 1) (own b tag l.length) = false := rfl
    simp only [frz, h1, cond_false]
    simp only [own, hlk, List.drop_zero, rdN_cs rfl, Option.bind_some]
    rw [mapM_pure (cs_pure' hk)]
    rfl
theorem FnV_ex {T : Tab} {f : Nat} {args : List Value} {X : Type} {P : X → Prop} {g : X → Value} (hp : args.all (pureV 6) = true) (h : Ev T f args [] fun u h => ∃ x, P x ∧ frz 8 h u = some (g x)) : ∃ x, P x ∧ FnV T f args (g x) := by
  obtain ⟨n, u, h', h1, x, hx, h2⟩ := h
  exact ⟨x, hx, hp, n, u, h', h1, h2⟩
/-! ### maps of numbers -/
def kvI (kd : IntKind) (m : List (Int × Int)) : List (Value × Value) := m.map fun p => (.int .u64 p.1, .int kd p.2)
def look : List (Int × Int) → Int → Option Int
  | [], _ => none
  | p :: m, k => if k = p.1 then some p.2 else look m k
theorem kFind_no {kd : IntKind} {k : Int} : ∀ {m : List (Int × Int)} (n : Nat), look m k = none → kFind 0 (.int .u64 k) (kvI kd m) n = some none
  | [], n, _ => rfl
  | p :: m, n, h => by
    simp only [look] at h
    split at h
    · cases h
    · rename_i hne
      show kFind 0 (.int .u64 k) ((.int .u64 p.1, .int kd p.2) :: kvI kd m) n = _
      have hc : cellEq 0 (.int .u64 k) (.int .u64 p.1) = some false := by
        show some (decide (k = p.1)) = _
        rw [decide_eq_false hne]
      simp only [kFind, hc]
      exact kFind_no (n + 1) h
theorem kFind_yes {kd : IntKind} {k v : Int} : ∀ {m : List (Int × Int)} (n : Nat), look m k = some v → ∃ i, i < m.length ∧ kFind 0 (.int .u64 k) (kvI kd m) n = some (some (n + i, .int kd v))
  | [], n, h => by cases h
  | p :: m, n, h => by
    simp only [look] at h
    split at h
    · rename_i he
      cases h
      refine ⟨0, by simp, ?_⟩
      show kFind 0 (.int .u64 k) ((.int .u64 p.1, .int kd p.2) :: kvI kd m) n = _
      have hc : cellEq 0 (.int .u64 k) (.int .u64 p.1) = some true := by
        show some (decide (k = p.1)) = _
        rw [decide_eq_true he]
      simp only [kFind, hc]
      rfl
    · rename_i hne
      obtain ⟨i, h1, h2⟩ := kFind_yes (kd := kd) (n + 1) h
      refine ⟨i + 1, by simp; omega, ?_⟩
      show kFind 0 (.int .u64 k) ((.int .u64 p.1, .int kd p.2) :: kvI kd m) n = _
      have hc : cellEq 0 (.int .u64 k) (.int .u64 p.1) = some false := by
        show some (decide (k = p.1)) = _
        rw [decide_eq_false hne]
      simp only [kFind, hc]
      rw [h2]
      congr 3
      omega
def hasM (m : List (Int × Int)) (k : Int) : Bool := (look m k).isSome
def valM (m : List (Int × Int)) (k : Int) : Int := (look m k).getD 0
def wfM (m : List (Int × Int)) : Prop := ∀ p ∈ m, isU64 p.2
theorem look_mem {m : List (Int × Int)} {k v : Int} (h : look m k = some v) : ∃ p ∈ m, p.2 = v := by
  induction m with
  | nil => cases h
  | cons p m ih =>
    simp only [look] at h
    split at h
    · cases h; exact ⟨p, by simp, rfl⟩
    · obtain ⟨q, h1, h2⟩ := ih h
      exact ⟨q, by simp [h1], h2⟩
theorem valM_u64 {m : List (Int × Int)} (h : wfM m) (k : Int) : isU64 (valM m k) := by
  unfold valM
  cases hl : look m k with
  | none => exact ⟨by decide, by decide⟩
  | some v =>
    obtain ⟨p, h1, h2⟩ := look_mem hl
    subst h2
    exact h p h1
theorem valM_no {m : List (Int × Int)} {k : Int} (h : hasM m k = false) : valM m k = 0 := by
  unfold hasM at h
  unfold valM
  cases hl : look m k with
  | none => rfl
  | some v => rw [hl] at h; cases h
theorem lkuI_M {H : Heap} {r tag : Nat} {kd : IntKind} {m : List (Int × Int)} (h : H[r]? = some ⟨tag, .map (kvI kd m)⟩) (ok : Bool) (k : Int) :
    lkuI H 0 ok (.int kd 0) (.map (some r)) (.int .u64 k) = some (okV ok (.int kd (valM m k)) (hasM m k), H) := by
  unfold hasM valM
  cases hl : look m k with
  | none => simp only [lkuI, h, kFind_no 0 hl]; rfl
  | some v =>
    obtain ⟨i, _, h2⟩ := kFind_yes (kd := kd) 0 hl
    simp only [lkuI, h, h2]; rfl
theorem mupI_M {H : Heap} {r tag : Nat} {kd : IntKind} {m : List (Int × Int)} (h : H[r]? = some ⟨tag, .map (kvI kd m)⟩) (k v : Int) :
    ∃ m', mupI H 0 (.map (some r)) (.int .u64 k) (.int kd v) = some (.tuple #[], H.set r ⟨tag, .map (kvI kd m')⟩) ∧ ∀ p ∈ m', p = (k, v) ∨ p ∈ m := by
  cases hl : look m k with
  | none =>
    refine ⟨m ++ [(k, v)], ?_, fun p hp => ?_⟩
    · simp only [mupI, h, kFind_no 0 hl]
      simp only [kvI, List.map_append, List.map_cons, List.map_nil]
    · rcases List.mem_append.1 hp with hp | hp
      · exact .inr hp
      · simp at hp; exact .inl hp
  | some u =>
    obtain ⟨i, h1, h2⟩ := kFind_yes (kd := kd) 0 hl
    refine ⟨m.set i (k, v), ?_, fun p hp => ?_⟩
    · simp only [mupI, h, h2, Nat.zero_add]
      simp only [kvI, List.map_set]
    · rcases List.mem_or_eq_of_mem_set hp with hp | hp
      · exact .inr hp
      · exact .inl hp
/-! ### which tags are looked at -/
def kc (t : Nat) : List (List IStmt) → ICode
  | [] => .skip
  | [r] => .reg r
  | r :: l => .seq (.reg r) (.cond (.t t) .skip (kc t l))
theorem kc_W {T : Tab} (t : Nat) (v : Value) : ∀ (l : List (List IStmt)), l ≠ [] → (∀ r ∈ l, ∀ (env : Env) (H : Heap), env 3 = v → W T (.reg r) env H fun x e h => x = .normal ∧ h = H ∧ e 3 = v ∧ ∃ b, e t = .bool b) →
    ∀ (env : Env) (H : Heap), env 3 = v → W T (kc t l) env H fun x e h => x = .normal ∧ h = H ∧ e 3 = v ∧ ∃ b, e t = .bool b
  | [], h, _, _, _, _ => absurd rfl h
  | [r], _, h, env, H, he => h r (by simp) env H he
  | r :: s :: l, _, h, env, H, he => by
    show W T (.seq (.reg r) (.cond (.t t) .skip (kc t (s :: l)))) env H _
    rw [w_seq]
    refine W.mono (h r (by simp) env H he) fun x e h' ⟨g1, g2, g3, b, g4⟩ => ?_
    subst g1; subst g2
    rw [seqQ_normal, w_cond]
    have ht : (Opd.t t).ev e = .bool b := g4
    rw [ht]
    cases b with
    | true => simp only [fws, cond_true, cond_false, if_true, if_false, unV, isNil, optI, iV, stepI, evalR, reduceIte, reduceCtorEq, Nat.reduceEqDiff, Int.reduceLT, Int.reduceLE, Int.reduceToNat, Nat.reduceLT, Nat.reduceLeDiff, Int.reduceEq, Int.reduceNeg, IntKind.bits, Nat.reduceAdd, Nat.reduceMul, Nat.reducePow, Int.reducePow, ini, g3]; exact ⟨trivial, trivial, trivial, true, g4⟩
    | false =>
      simp only [fws, cond_true, cond_false, if_true, if_false, unV, isNil, optI, iV, stepI, evalR, reduceIte, reduceCtorEq, Nat.reduceEqDiff, Int.reduceLT, Int.reduceLE, Int.reduceToNat, Nat.reduceLT, Nat.reduceLeDiff, Int.reduceEq, Int.reduceNeg, IntKind.bits, Nat.reduceAdd, Nat.reduceMul, Nat.reducePow, Int.reducePow, ini]
      exact kc_W t v (s :: l) (by simp) (fun r' hr' => h r' (by simp at hr' ⊢; exact .inr hr')) e h' g3
def kn1 : List (List IStmt) := [F_dyn_knownr2, F_dyn_knownr3, F_dyn_knownr4, F_dyn_knownr5, F_dyn_knownr6, F_dyn_knownr7, F_dyn_knownr8, F_dyn_knownr9, F_dyn_knownr10, F_dyn_knownr11, F_dyn_knownr12, F_dyn_knownr13, F_dyn_knownr14, F_dyn_knownr15, F_dyn_knownr16, F_dyn_knownr17, F_dyn_knownr18, F_dyn_knownr19, F_dyn_knownr20, F_dyn_knownr21, F_dyn_knownr22, F_dyn_knownr23, F_dyn_knownr24, F_dyn_knownr25, F_dyn_knownr26]
def kn2 : List (List IStmt) := [F_dyn_knownr28, F_dyn_knownr29, F_dyn_knownr30, F_dyn_knownr31, F_dyn_knownr32, F_dyn_knownr33, F_dyn_knownr34, F_dyn_knownr35, F_dyn_knownr36, F_dyn_knownr37, F_dyn_knownr38]
theorem kn1_ok {T : Tab} (k : Int) : ∀ r ∈ kn1, ∀ (env : Env) (H : Heap), env 3 = .int .u64 k → W T (.reg r) env H fun x e h => x = .normal ∧ h = H ∧ e 3 = .int .u64 k ∧ ∃ b, e 4 = .bool b := by
  intro r hr env H he
  simp only [kn1, List.mem_cons, List.not_mem_nil, or_false] at hr
  rcases hr with rfl | rfl | rfl | rfl | rfl | rfl | rfl | rfl | rfl | rfl | rfl | rfl | rfl | rfl | rfl | rfl | rfl | rfl | rfl | rfl | rfl | rfl | rfl | rfl | rfl <;>
  · simp only [fws, cond_true, cond_false, if_true, if_false, unV, isNil, optI, iV, stepI, evalR, reduceIte, reduceCtorEq, Nat.reduceEqDiff, Int.reduceLT, Int.reduceLE, Int.reduceToNat, Nat.reduceLT, Nat.reduceLeDiff, Int.reduceEq, Int.reduceNeg, IntKind.bits, Nat.reduceAdd, Nat.reduceMul, Nat.reducePow, Int.reducePow, ini, F_dyn_knownr0_W, F_dyn_knownr1_W, F_dyn_knownr2_W, F_dyn_knownr3_W, F_dyn_knownr4_W, F_dyn_knownr5_W, F_dyn_knownr6_W, F_dyn_knownr7_W, F_dyn_knownr8_W, F_dyn_knownr9_W, F_dyn_knownr10_W, F_dyn_knownr11_W, F_dyn_knownr12_W, F_dyn_knownr13_W, F_dyn_knownr14_W, F_dyn_knownr15_W, F_dyn_knownr16_W, F_dyn_knownr17_W, F_dyn_knownr18_W, F_dyn_knownr19_W, F_dyn_knownr20_W, F_dyn_knownr21_W, F_dyn_knownr22_W, F_dyn_knownr23_W, F_dyn_knownr24_W, F_dyn_knownr25_W, F_dyn_knownr26_W, F_dyn_knownr27_W, F_dyn_knownr28_W, F_dyn_knownr29_W, F_dyn_knownr30_W, F_dyn_knownr31_W, F_dyn_knownr32_W, F_dyn_knownr33_W, F_dyn_knownr34_W, F_dyn_knownr35_W, F_dyn_knownr36_W, F_dyn_knownr37_W, F_dyn_knownr38_W, F_dyn_knownr39_W, F_dyn_knownr40_W, F_dyn_knownc_W, he]
    exact ⟨trivial, trivial, trivial, _, rfl⟩
theorem kn2_ok {T : Tab} (k : Int) : ∀ r ∈ kn2, ∀ (env : Env) (H : Heap), env 3 = .int .u64 k → W T (.reg r) env H fun x e h => x = .normal ∧ h = H ∧ e 3 = .int .u64 k ∧ ∃ b, e 30 = .bool b := by
  intro r hr env H he
  simp only [kn2, List.mem_cons, List.not_mem_nil, or_false] at hr
  rcases hr with rfl | rfl | rfl | rfl | rfl | rfl | rfl | rfl | rfl | rfl | rfl <;>
  · simp only [fws, cond_true, cond_false, if_true, if_false, unV, isNil, optI, iV, stepI, evalR, reduceIte, reduceCtorEq, Nat.reduceEqDiff, Int.reduceLT, Int.reduceLE, Int.reduceToNat, Nat.reduceLT, Nat.reduceLeDiff, Int.reduceEq, Int.reduceNeg, IntKind.bits, Nat.reduceAdd, Nat.reduceMul, Nat.reducePow, Int.reducePow, ini, F_dyn_knownr0_W, F_dyn_knownr1_W, F_dyn_knownr2_W, F_dyn_knownr3_W, F_dyn_knownr4_W, F_dyn_knownr5_W, F_dyn_knownr6_W, F_dyn_knownr7_W, F_dyn_knownr8_W, F_dyn_knownr9_W, F_dyn_knownr10_W, F_dyn_knownr11_W, F_dyn_knownr12_W, F_dyn_knownr13_W, F_dyn_knownr14_W, F_dyn_knownr15_W, F_dyn_knownr16_W, F_dyn_knownr17_W, F_dyn_knownr18_W, F_dyn_knownr19_W, F_dyn_knownr20_W, F_dyn_knownr21_W, F_dyn_knownr22_W, F_dyn_knownr23_W, F_dyn_knownr24_W, F_dyn_knownr25_W, F_dyn_knownr26_W, F_dyn_knownr27_W, F_dyn_knownr28_W, F_dyn_knownr29_W, F_dyn_knownr30_W, F_dyn_knownr31_W, F_dyn_knownr32_W, F_dyn_knownr33_W, F_dyn_knownr34_W, F_dyn_knownr35_W, F_dyn_knownr36_W, F_dyn_knownr37_W, F_dyn_knownr38_W, F_dyn_knownr39_W, F_dyn_knownr40_W, F_dyn_knownc_W, he]
    exact ⟨trivial, trivial, trivial, _, rfl⟩
theorem known_c : F_dyn_knownc = .seq (.reg F_dyn_knownr0) (.seq (.seq (.reg F_dyn_knownr1) (.block 0 (.seq (kc 4 kn1) (.cond (.t 4) (.seq (.reg F_dyn_knownr27) .ret) (.seq (kc 30 kn2) (.cond (.t 30) (.seq (.reg F_dyn_knownr39) .ret) .skip)))))) (.seq (.reg F_dyn_knownr40) .ret)) := rfl
theorem f_dyn_known {T : Tab} (h : T 66 = some F_dyn_known) (k : Int) : ∃ b, FnV T 66 [.int .u64 k] (.bool b) := by
  suffices hh : ∃ b, True ∧ FnV T 66 [.int .u64 k] (.bool b) by
    obtain ⟨b, _, hb⟩ := hh
    exact ⟨b, hb⟩
  refine FnV_ex (X := Bool) (P := fun _ => True) (g := fun b => .bool b) rfl ?_
  rw [Ev_fn h rfl]
  show W T F_dyn_knownc _ _ (retQ [.tmp 2] _)
  rw [known_c]
  simp only [fws, cond_true, cond_false, if_true, if_false, unV, isNil, optI, iV, stepI, evalR, reduceIte, reduceCtorEq, Nat.reduceEqDiff, Int.reduceLT, Int.reduceLE, Int.reduceToNat, Nat.reduceLT, Nat.reduceLeDiff, Int.reduceEq, Int.reduceNeg, IntKind.bits, Nat.reduceAdd, Nat.reduceMul, Nat.reducePow, Int.reducePow, ini, F_dyn_knownr0_W, F_dyn_knownr1_W, F_dyn_knownr2_W, F_dyn_knownr3_W, F_dyn_knownr4_W, F_dyn_knownr5_W, F_dyn_knownr6_W, F_dyn_knownr7_W, F_dyn_knownr8_W, F_dyn_knownr9_W, F_dyn_knownr10_W, F_dyn_knownr11_W, F_dyn_knownr12_W, F_dyn_knownr13_W, F_dyn_knownr14_W, F_dyn_knownr15_W, F_dyn_knownr16_W, F_dyn_knownr17_W, F_dyn_knownr18_W, F_dyn_knownr19_W, F_dyn_knownr20_W, F_dyn_knownr21_W, F_dyn_knownr22_W, F_dyn_knownr23_W, F_dyn_knownr24_W, F_dyn_knownr25_W, F_dyn_knownr26_W, F_dyn_knownr27_W, F_dyn_knownr28_W, F_dyn_knownr29_W, F_dyn_knownr30_W, F_dyn_knownr31_W, F_dyn_knownr32_W, F_dyn_knownr33_W, F_dyn_knownr34_W, F_dyn_knownr35_W, F_dyn_knownr36_W, F_dyn_knownr37_W, F_dyn_knownr38_W, F_dyn_knownr39_W, F_dyn_knownr40_W, F_dyn_knownc_W]
  refine W.mono (kc_W 4 (.int .u64 k) kn1 (by simp [kn1]) (kn1_ok k) _ _ (by (first | assumption | rfl))) fun x e h ⟨g1, g2, g3, b, g4⟩ => ?_
  subst g1; subst g2
  cases b with
  | true =>
    simp only [fws, cond_true, cond_false, if_true, if_false, unV, isNil, optI, iV, stepI, evalR, reduceIte, reduceCtorEq, Nat.reduceEqDiff, Int.reduceLT, Int.reduceLE, Int.reduceToNat, Nat.reduceLT, Nat.reduceLeDiff, Int.reduceEq, Int.reduceNeg, IntKind.bits, Nat.reduceAdd, Nat.reduceMul, Nat.reducePow, Int.reducePow, ini, F_dyn_knownr0_W, F_dyn_knownr1_W, F_dyn_knownr2_W, F_dyn_knownr3_W, F_dyn_knownr4_W, F_dyn_knownr5_W, F_dyn_knownr6_W, F_dyn_knownr7_W, F_dyn_knownr8_W, F_dyn_knownr9_W, F_dyn_knownr10_W, F_dyn_knownr11_W, F_dyn_knownr12_W, F_dyn_knownr13_W, F_dyn_knownr14_W, F_dyn_knownr15_W, F_dyn_knownr16_W, F_dyn_knownr17_W, F_dyn_knownr18_W, F_dyn_knownr19_W, F_dyn_knownr20_W, F_dyn_knownr21_W, F_dyn_knownr22_W, F_dyn_knownr23_W, F_dyn_knownr24_W, F_dyn_knownr25_W, F_dyn_knownr26_W, F_dyn_knownr27_W, F_dyn_knownr28_W, F_dyn_knownr29_W, F_dyn_knownr30_W, F_dyn_knownr31_W, F_dyn_knownr32_W, F_dyn_knownr33_W, F_dyn_knownr34_W, F_dyn_knownr35_W, F_dyn_knownr36_W, F_dyn_knownr37_W, F_dyn_knownr38_W, F_dyn_knownr39_W, F_dyn_knownr40_W, F_dyn_knownc_W, g4]
    exact ⟨true, trivial, frz_pure pure_bool⟩
  | false =>
    simp only [fws, cond_true, cond_false, if_true, if_false, unV, isNil, optI, iV, stepI, evalR, reduceIte, reduceCtorEq, Nat.reduceEqDiff, Int.reduceLT, Int.reduceLE, Int.reduceToNat, Nat.reduceLT, Nat.reduceLeDiff, Int.reduceEq, Int.reduceNeg, IntKind.bits, Nat.reduceAdd, Nat.reduceMul, Nat.reducePow, Int.reducePow, ini, F_dyn_knownr0_W, F_dyn_knownr1_W, F_dyn_knownr2_W, F_dyn_knownr3_W, F_dyn_knownr4_W, F_dyn_knownr5_W, F_dyn_knownr6_W, F_dyn_knownr7_W, F_dyn_knownr8_W, F_dyn_knownr9_W, F_dyn_knownr10_W, F_dyn_knownr11_W, F_dyn_knownr12_W, F_dyn_knownr13_W, F_dyn_knownr14_W, F_dyn_knownr15_W, F_dyn_knownr16_W, F_dyn_knownr17_W, F_dyn_knownr18_W, F_dyn_knownr19_W, F_dyn_knownr20_W, F_dyn_knownr21_W, F_dyn_knownr22_W, F_dyn_knownr23_W, F_dyn_knownr24_W, F_dyn_knownr25_W, F_dyn_knownr26_W, F_dyn_knownr27_W, F_dyn_knownr28_W, F_dyn_knownr29_W, F_dyn_knownr30_W, F_dyn_knownr31_W, F_dyn_knownr32_W, F_dyn_knownr33_W, F_dyn_knownr34_W, F_dyn_knownr35_W, F_dyn_knownr36_W, F_dyn_knownr37_W, F_dyn_knownr38_W, F_dyn_knownr39_W, F_dyn_knownr40_W, F_dyn_knownc_W, g4]
    refine W.mono (kc_W 30 (.int .u64 k) kn2 (by simp [kn2]) (kn2_ok k) _ _ g3) fun x e h ⟨g1, g2, g3, b, g4⟩ => ?_
    subst g1; subst g2
    cases b with
    | true =>
      simp only [fws, cond_true, cond_false, if_true, if_false, unV, isNil, optI, iV, stepI, evalR, reduceIte, reduceCtorEq, Nat.reduceEqDiff, Int.reduceLT, Int.reduceLE, Int.reduceToNat, Nat.reduceLT, Nat.reduceLeDiff, Int.reduceEq, Int.reduceNeg, IntKind.bits, Nat.reduceAdd, Nat.reduceMul, Nat.reducePow, Int.reducePow, ini, F_dyn_knownr0_W, F_dyn_knownr1_W, F_dyn_knownr2_W, F_dyn_knownr3_W, F_dyn_knownr4_W, F_dyn_knownr5_W, F_dyn_knownr6_W, F_dyn_knownr7_W, F_dyn_knownr8_W, F_dyn_knownr9_W, F_dyn_knownr10_W, F_dyn_knownr11_W, F_dyn_knownr12_W, F_dyn_knownr13_W, F_dyn_knownr14_W, F_dyn_knownr15_W, F_dyn_knownr16_W, F_dyn_knownr17_W, F_dyn_knownr18_W, F_dyn_knownr19_W, F_dyn_knownr20_W, F_dyn_knownr21_W, F_dyn_knownr22_W, F_dyn_knownr23_W, F_dyn_knownr24_W, F_dyn_knownr25_W, F_dyn_knownr26_W, F_dyn_knownr27_W, F_dyn_knownr28_W, F_dyn_knownr29_W, F_dyn_knownr30_W, F_dyn_knownr31_W, F_dyn_knownr32_W, F_dyn_knownr33_W, F_dyn_knownr34_W, F_dyn_knownr35_W, F_dyn_knownr36_W, F_dyn_knownr37_W, F_dyn_knownr38_W, F_dyn_knownr39_W, F_dyn_knownr40_W, F_dyn_knownc_W, g4]
      exact ⟨true, trivial, frz_pure pure_bool⟩
    | false =>
      simp only [fws, cond_true, cond_false, if_true, if_false, unV, isNil, optI, iV, stepI, evalR, reduceIte, reduceCtorEq, Nat.reduceEqDiff, Int.reduceLT, Int.reduceLE, Int.reduceToNat, Nat.reduceLT, Nat.reduceLeDiff, Int.reduceEq, Int.reduceNeg, IntKind.bits, Nat.reduceAdd, Nat.reduceMul, Nat.reducePow, Int.reducePow, ini, F_dyn_knownr0_W, F_dyn_knownr1_W, F_dyn_knownr2_W, F_dyn_knownr3_W, F_dyn_knownr4_W, F_dyn_knownr5_W, F_dyn_knownr6_W, F_dyn_knownr7_W, F_dyn_knownr8_W, F_dyn_knownr9_W, F_dyn_knownr10_W, F_dyn_knownr11_W, F_dyn_knownr12_W, F_dyn_knownr13_W, F_dyn_knownr14_W, F_dyn_knownr15_W, F_dyn_knownr16_W, F_dyn_knownr17_W, F_dyn_knownr18_W, F_dyn_knownr19_W, F_dyn_knownr20_W, F_dyn_knownr21_W, F_dyn_knownr22_W, F_dyn_knownr23_W, F_dyn_knownr24_W, F_dyn_knownr25_W, F_dyn_knownr26_W, F_dyn_knownr27_W, F_dyn_knownr28_W, F_dyn_knownr29_W, F_dyn_knownr30_W, F_dyn_knownr31_W, F_dyn_knownr32_W, F_dyn_knownr33_W, F_dyn_knownr34_W, F_dyn_knownr35_W, F_dyn_knownr36_W, F_dyn_knownr37_W, F_dyn_knownr38_W, F_dyn_knownr39_W, F_dyn_knownr40_W, F_dyn_knownc_W, g4]
      exact ⟨false, trivial, frz_pure pure_bool⟩
end Go.Proofs.Ytdkdifjjpbfohaa
/- The entries of a dynamic section. -/
namespace Go.Proofs.Ytdkdifjjpbfohaa
open Go Fw
set_option linter.unusedSimpArgs false
set_option linter.unusedVariables false
set_option linter.unusedSectionVars false

def okE (l : List S_dyn_Entry) : Prop := (∀ x ∈ l, isU64 x.Tag ∧ isU64 x.Value) ∧ l.length ≤ 128
theorem getV_cases (l : List UInt8) (a : Nat) : (getV l a 8 = .tuple #[.int .u64 0, .int .i64 20]) ∨ ∃ n : Nat, n < 18446744073709551616 ∧ getV l a 8 = .tuple #[.int .u64 n, .int .i64 0] := by
  unfold getV
  split
  · have := leN_take (l := l) (a := a) (k := 8) (by decide)
    have h8 : (256 : Nat) ^ 8 = 18446744073709551616 := by decide
    exact .inr ⟨_, by omega, rfl⟩
  · exact .inl rfl
section
variable {T : Tab} (h0 : T 76 = some F_num_Sub) (h1 : T 74 = some F_num_Inside) (h2 : T 73 = some F_le_get) (h3 : T 63 = some F_le_U64) (l : List UInt8) (v : Value) (hv : Src byteE v l) (hp : pureV 6 v = true) (hl : l.length ≤ 100000000)
include h0 h1 h2 h3 hv hp hl
theorem loop_dyn_Entries : ∀ (k i : Nat) (u : Value) (acc : List S_dyn_Entry) (H : Heap) (env : Env), i + k = 128 → acc.length = i → (∀ x ∈ acc, isU64 x.Tag ∧ isU64 x.Value) → Own EnE H u acc → env 0 = v → env 4 = u → env 10 = .int .i64 i →
    W T (.loop F_dyn_Entriesl0) env H fun x e h => (x = .ret ∧ ((e 2 = .slice none 0 0 ∧ e 3 = .int .i64 90) ∨ ∃ acc, okE acc ∧ Own EnE h (e 2) acc ∧ e 3 = .int .i64 0)) ∨ x = .exit 0 := by
  intro k
  induction k with
  | zero =>
    intro i u acc H env hi hacc hok ho e0 e4 e10
    have q : ¬ ((i : Int) < 128) := by omega
    rw [w_loop]
    simp only [fws, cond_true, cond_false, if_true, if_false, unV, isNil, optI, iV, stepI, evalR, reduceIte, reduceCtorEq, Nat.reduceEqDiff, Int.reduceLT, Int.reduceLE, Int.reduceToNat, Nat.reduceLT, Nat.reduceLeDiff, Int.reduceEq, Int.reduceNeg, IntKind.bits, Nat.reduceAdd, Nat.reduceMul, Nat.reducePow, Int.reducePow, ini, fwi, F_dyn_Entriesr0_W, F_dyn_Entriesr1_W, F_dyn_Entriesr2_W, F_dyn_Entriesr3_W, F_dyn_Entriesr4_W, F_dyn_Entriesr5_W, F_dyn_Entriesr6_W, F_dyn_Entriesr7_W, F_dyn_Entriesr7_g2, F_dyn_Entriesr8_W, F_dyn_Entriesr9_W, F_dyn_Entriesr10_W, F_dyn_Entriesr11_W, F_dyn_Entriesr12_W, F_dyn_Entriesl0_W, F_dyn_Entriesr13_W, F_dyn_Entriesc_W, e0, e4, e10, q]
    exact .inr trivial
  | succ k ih =>
    intro i u acc H env hi hacc hok ho e0 e4 e10
    have q : ((i : Int) < 128) := by omega
    have w1 : IntKind.u64.wrap (i : Int) = i := by rw [wrap_u64]; omega
    have w2 : IntKind.u64.wrap ((i : Int) * 16) = ((i * 16 : Nat) : Int) := by rw [wrap_u64]; omega
    have w3 : IntKind.u64.wrap (((i * 16 : Nat) : Int) + 8) = ((i * 16 + 8 : Nat) : Int) := by rw [wrap_u64]; omega
    have w4 : IntKind.i64.wrap ((i : Int) + 1) = ((i + 1 : Nat) : Int) := by rw [wrapI64 (by omega) (by omega)]; rfl
    have c1 := f_le_U64 h0 h1 h2 l v hv hp hl (i * 16) (by omega) h3
    have c2 := f_le_U64 h0 h1 h2 l v hv hp hl (i * 16 + 8) (by omega) h3
    rw [w_loop]
    rcases getV_cases l (i * 16) with g1 | ⟨n, hn, g1⟩
    · rw [g1] at c1
      rcases getV_cases l (i * 16 + 8) with g2 | ⟨n2, hn2, g2⟩
      · rw [g2] at c2
        simp only [fws, cond_true, cond_false, if_true, if_false, unV, isNil, optI, iV, stepI, evalR, reduceIte, reduceCtorEq, Nat.reduceEqDiff, Int.reduceLT, Int.reduceLE, Int.reduceToNat, Nat.reduceLT, Nat.reduceLeDiff, Int.reduceEq, Int.reduceNeg, IntKind.bits, Nat.reduceAdd, Nat.reduceMul, Nat.reducePow, Int.reducePow, ini, fwh, lk, cellsAt, tagOf, spotOf, rdN, spl, fillL, zr, fwi, F_dyn_Entriesr0_W, F_dyn_Entriesr1_W, F_dyn_Entriesr2_W, F_dyn_Entriesr3_W, F_dyn_Entriesr4_W, F_dyn_Entriesr5_W, F_dyn_Entriesr6_W, F_dyn_Entriesr7_W, F_dyn_Entriesr7_g2, F_dyn_Entriesr8_W, F_dyn_Entriesr9_W, F_dyn_Entriesr10_W, F_dyn_Entriesr11_W, F_dyn_Entriesr12_W, F_dyn_Entriesl0_W, F_dyn_Entriesr13_W, F_dyn_Entriesc_W, e0, e4, e10, q, w1, w2, w3, CC_of c1, CC_of c2]
        exact .inl ⟨trivial, .inl ⟨trivial, trivial⟩⟩
      · rw [g2] at c2
        simp only [fws, cond_true, cond_false, if_true, if_false, unV, isNil, optI, iV, stepI, evalR, reduceIte, reduceCtorEq, Nat.reduceEqDiff, Int.reduceLT, Int.reduceLE, Int.reduceToNat, Nat.reduceLT, Nat.reduceLeDiff, Int.reduceEq, Int.reduceNeg, IntKind.bits, Nat.reduceAdd, Nat.reduceMul, Nat.reducePow, Int.reducePow, ini, fwh, lk, cellsAt, tagOf, spotOf, rdN, spl, fillL, zr, fwi, F_dyn_Entriesr0_W, F_dyn_Entriesr1_W, F_dyn_Entriesr2_W, F_dyn_Entriesr3_W, F_dyn_Entriesr4_W, F_dyn_Entriesr5_W, F_dyn_Entriesr6_W, F_dyn_Entriesr7_W, F_dyn_Entriesr7_g2, F_dyn_Entriesr8_W, F_dyn_Entriesr9_W, F_dyn_Entriesr10_W, F_dyn_Entriesr11_W, F_dyn_Entriesr12_W, F_dyn_Entriesl0_W, F_dyn_Entriesr13_W, F_dyn_Entriesc_W, e0, e4, e10, q, w1, w2, w3, CC_of c1, CC_of c2]
        exact .inl ⟨trivial, .inl ⟨trivial, trivial⟩⟩
    · rw [g1] at c1
      rcases getV_cases l (i * 16 + 8) with g2 | ⟨n2, hn2, g2⟩
      · rw [g2] at c2
        simp only [fws, cond_true, cond_false, if_true, if_false, unV, isNil, optI, iV, stepI, evalR, reduceIte, reduceCtorEq, Nat.reduceEqDiff, Int.reduceLT, Int.reduceLE, Int.reduceToNat, Nat.reduceLT, Nat.reduceLeDiff, Int.reduceEq, Int.reduceNeg, IntKind.bits, Nat.reduceAdd, Nat.reduceMul, Nat.reducePow, Int.reducePow, ini, fwh, lk, cellsAt, tagOf, spotOf, rdN, spl, fillL, zr, fwi, F_dyn_Entriesr0_W, F_dyn_Entriesr1_W, F_dyn_Entriesr2_W, F_dyn_Entriesr3_W, F_dyn_Entriesr4_W, F_dyn_Entriesr5_W, F_dyn_Entriesr6_W, F_dyn_Entriesr7_W, F_dyn_Entriesr7_g2, F_dyn_Entriesr8_W, F_dyn_Entriesr9_W, F_dyn_Entriesr10_W, F_dyn_Entriesr11_W, F_dyn_Entriesr12_W, F_dyn_Entriesl0_W, F_dyn_Entriesr13_W, F_dyn_Entriesc_W, e0, e4, e10, q, w1, w2, w3, CC_of c1, CC_of c2]
        exact .inl ⟨trivial, .inl ⟨trivial, trivial⟩⟩
      · rw [g2] at c2
        by_cases hz : n = 0
        · subst hz
          simp only [fws, cond_true, cond_false, if_true, if_false, unV, isNil, optI, iV, stepI, evalR, reduceIte, reduceCtorEq, Nat.reduceEqDiff, Int.reduceLT, Int.reduceLE, Int.reduceToNat, Nat.reduceLT, Nat.reduceLeDiff, Int.reduceEq, Int.reduceNeg, IntKind.bits, Nat.reduceAdd, Nat.reduceMul, Nat.reducePow, Int.reducePow, ini, fwh, lk, cellsAt, tagOf, spotOf, rdN, spl, fillL, zr, fwi, F_dyn_Entriesr0_W, F_dyn_Entriesr1_W, F_dyn_Entriesr2_W, F_dyn_Entriesr3_W, F_dyn_Entriesr4_W, F_dyn_Entriesr5_W, F_dyn_Entriesr6_W, F_dyn_Entriesr7_W, F_dyn_Entriesr7_g2, F_dyn_Entriesr8_W, F_dyn_Entriesr9_W, F_dyn_Entriesr10_W, F_dyn_Entriesr11_W, F_dyn_Entriesr12_W, F_dyn_Entriesl0_W, F_dyn_Entriesr13_W, F_dyn_Entriesc_W, e0, e4, e10, q, w1, w2, w3, CC_of c1, CC_of c2]
          exact .inl ⟨trivial, .inr ⟨acc, ⟨hok, by omega⟩, ho, trivial⟩⟩
        · have qz : decide ((n : Int) = 0) = false := by rw [decide_eq_false_iff_not]; omega
          obtain ⟨v', H', a1, a2, a3⟩ := ho.app (m := [⟨n, n2⟩]) (n := 2) (eb := 16) (k := 1) rfl rfl (by simp; omega)
          have a1 : appV 2 16 H u [.int .u64 n, .int .u64 n2] 1 = some (v', H') := a1
          simp only [fws, cond_true, cond_false, if_true, if_false, unV, isNil, optI, iV, stepI, evalR, reduceIte, reduceCtorEq, Nat.reduceEqDiff, Int.reduceLT, Int.reduceLE, Int.reduceToNat, Nat.reduceLT, Nat.reduceLeDiff, Int.reduceEq, Int.reduceNeg, IntKind.bits, Nat.reduceAdd, Nat.reduceMul, Nat.reducePow, Int.reducePow, ini, fwh, lk, cellsAt, tagOf, spotOf, rdN, spl, fillL, zr, fwi, F_dyn_Entriesr0_W, F_dyn_Entriesr1_W, F_dyn_Entriesr2_W, F_dyn_Entriesr3_W, F_dyn_Entriesr4_W, F_dyn_Entriesr5_W, F_dyn_Entriesr6_W, F_dyn_Entriesr7_W, F_dyn_Entriesr7_g2, F_dyn_Entriesr8_W, F_dyn_Entriesr9_W, F_dyn_Entriesr10_W, F_dyn_Entriesr11_W, F_dyn_Entriesr12_W, F_dyn_Entriesl0_W, F_dyn_Entriesr13_W, F_dyn_Entriesc_W, e0, e4, e10, q, w1, w2, w3, w4, CC_of c1, CC_of c2, qz, srcOf_immV, a1]
          refine ih (i + 1) v' _ H' _ (by omega) (by simp; omega) ?_ a2 ?_ ?_ ?_
          · intro x hx
            rcases List.mem_append.1 hx with hx | hx
            · exact hok x hx
            · simp at hx
              subst hx
              exact ⟨⟨by simp only []; omega, by simp only []; omega⟩, ⟨by simp only []; omega, by simp only []; omega⟩⟩
          all_goals (first | assumption | rfl)
theorem f_dyn_Entries (h : T 53 = some F_dyn_Entries) : ∃ p : Option (List S_dyn_Entry) × Int, (okE (lst p.1) ∧ (p.2 = 0 ∨ p.2 = 90)) ∧ FnV T 53 [v] (.tuple #[slV EnE p.1, .int .i64 p.2]) := by
  refine FnV_ex (g := fun p : Option (List S_dyn_Entry) × Int => .tuple #[slV EnE p.1, .int .i64 p.2]) (by simp [hp]) ?_
  rw [Ev_fn h rfl]
  have hnil : okE (lst (none : Option (List S_dyn_Entry))) := ⟨fun x hx => (by cases hx), by decide⟩
  simp only [F_dyn_Entries, fws, cond_true, cond_false, if_true, if_false, unV, isNil, optI, iV, stepI, evalR, reduceIte, reduceCtorEq, Nat.reduceEqDiff, Int.reduceLT, Int.reduceLE, Int.reduceToNat, Nat.reduceLT, Nat.reduceLeDiff, Int.reduceEq, Int.reduceNeg, IntKind.bits, Nat.reduceAdd, Nat.reduceMul, Nat.reducePow, Int.reducePow, ini, fwi, F_dyn_Entriesr0_W, F_dyn_Entriesr1_W, F_dyn_Entriesr2_W, F_dyn_Entriesr3_W, F_dyn_Entriesr4_W, F_dyn_Entriesr5_W, F_dyn_Entriesr6_W, F_dyn_Entriesr7_W, F_dyn_Entriesr7_g2, F_dyn_Entriesr8_W, F_dyn_Entriesr9_W, F_dyn_Entriesr10_W, F_dyn_Entriesr11_W, F_dyn_Entriesr12_W, F_dyn_Entriesl0_W, F_dyn_Entriesr13_W, F_dyn_Entriesc_W]
  refine W.mono (loop_dyn_Entries h0 h1 h2 h3 l v hv hp hl 128 0 (.slice none 0 0) [] [] _ (Nat.zero_add _) rfl (fun x hx => by cases hx) Own.nil ?_ ?_ ?_) fun x e h hq => ?_
  · (first | assumption | rfl)
  · (first | assumption | rfl)
  · (first | assumption | rfl)
  rcases hq with ⟨rfl, hq⟩ | rfl
  · rcases hq with ⟨g1, g2⟩ | ⟨acc, g0, g1, g2⟩
    · simp only [fws, cond_true, cond_false, if_true, if_false, unV, isNil, optI, iV, stepI, evalR, reduceIte, reduceCtorEq, Nat.reduceEqDiff, Int.reduceLT, Int.reduceLE, Int.reduceToNat, Nat.reduceLT, Nat.reduceLeDiff, Int.reduceEq, Int.reduceNeg, IntKind.bits, Nat.reduceAdd, Nat.reduceMul, Nat.reducePow, Int.reducePow, ini, F_dyn_Entriesr0_W, F_dyn_Entriesr1_W, F_dyn_Entriesr2_W, F_dyn_Entriesr3_W, F_dyn_Entriesr4_W, F_dyn_Entriesr5_W, F_dyn_Entriesr6_W, F_dyn_Entriesr7_W, F_dyn_Entriesr7_g2, F_dyn_Entriesr8_W, F_dyn_Entriesr9_W, F_dyn_Entriesr10_W, F_dyn_Entriesr11_W, F_dyn_Entriesr12_W, F_dyn_Entriesl0_W, F_dyn_Entriesr13_W, F_dyn_Entriesc_W, g1, g2]
      exact ⟨(none, 90), ⟨hnil, .inr rfl⟩, rfl⟩
    · obtain ⟨o, g3, g4⟩ := Own.frzE g1 (k := 6) (by decide)
      simp only [fws, cond_true, cond_false, if_true, if_false, unV, isNil, optI, iV, stepI, evalR, reduceIte, reduceCtorEq, Nat.reduceEqDiff, Int.reduceLT, Int.reduceLE, Int.reduceToNat, Nat.reduceLT, Nat.reduceLeDiff, Int.reduceEq, Int.reduceNeg, IntKind.bits, Nat.reduceAdd, Nat.reduceMul, Nat.reducePow, Int.reducePow, ini, F_dyn_Entriesr0_W, F_dyn_Entriesr1_W, F_dyn_Entriesr2_W, F_dyn_Entriesr3_W, F_dyn_Entriesr4_W, F_dyn_Entriesr5_W, F_dyn_Entriesr6_W, F_dyn_Entriesr7_W, F_dyn_Entriesr7_g2, F_dyn_Entriesr8_W, F_dyn_Entriesr9_W, F_dyn_Entriesr10_W, F_dyn_Entriesr11_W, F_dyn_Entriesr12_W, F_dyn_Entriesl0_W, F_dyn_Entriesr13_W, F_dyn_Entriesc_W, g2]
      refine ⟨(o, 0), ⟨by rw [g3]; exact g0, .inl rfl⟩, ?_⟩
      exact frz_t2 g4 (frz_pure rfl)
  · simp only [fws, cond_true, cond_false, if_true, if_false, unV, isNil, optI, iV, stepI, evalR, reduceIte, reduceCtorEq, Nat.reduceEqDiff, Int.reduceLT, Int.reduceLE, Int.reduceToNat, Nat.reduceLT, Nat.reduceLeDiff, Int.reduceEq, Int.reduceNeg, IntKind.bits, Nat.reduceAdd, Nat.reduceMul, Nat.reducePow, Int.reducePow, ini, F_dyn_Entriesr0_W, F_dyn_Entriesr1_W, F_dyn_Entriesr2_W, F_dyn_Entriesr3_W, F_dyn_Entriesr4_W, F_dyn_Entriesr5_W, F_dyn_Entriesr6_W, F_dyn_Entriesr7_W, F_dyn_Entriesr7_g2, F_dyn_Entriesr8_W, F_dyn_Entriesr9_W, F_dyn_Entriesr10_W, F_dyn_Entriesr11_W, F_dyn_Entriesr12_W, F_dyn_Entriesl0_W, F_dyn_Entriesr13_W, F_dyn_Entriesc_W]
    exact ⟨(none, 90), ⟨hnil, .inr rfl⟩, rfl⟩
end
end Go.Proofs.Ytdkdifjjpbfohaa
/- The tags of a dynamic section. -/
namespace Go.Proofs.Ytdkdifjjpbfohaa
open Go Fw
set_option linter.unusedSimpArgs false
set_option linter.unusedVariables false
set_option linter.unusedSectionVars false

abbrev U64E : Enc Int := intE .u64
abbrev mapO (kd : IntKind) (m : List (Int × Int)) : Entry := ⟨0, .map (kvI kd m)⟩
abbrev tblO (r : Nat) (nd : Value) : Entry := ⟨0, .cells false 2 [.map (some r), nd]⟩
/-- A table of tags, at the blocks L (its map) and L + 1. -/
structure Tbl (H : Heap) (L : Nat) (m : List (Int × Int)) (nd : Value) (ns : List Int) : Prop where
  map : H[L]? = some (mapO .u64 m)
  tbl : H[L + 1]? = some (tblO L nd)
  own : Own U64E H nd ns
  ne : blkV nd ≠ some L ∧ blkV nd ≠ some (L + 1)
  wf : wfM m
  wfn : ∀ n ∈ ns, isU64 n
  len : ns.length ≤ 128
structure Gat (H0 H : Heap) (m c : List (Int × Int)) (nd : Value) (ns : List Int) (i : Nat) : Prop where
  map : H[H0.length]? = some (mapO .u64 m)
  tbl : H[H0.length + 1]? = some (tblO H0.length nd)
  cnt : H[H0.length + 2]? = some (mapO .i64 c)
  own : Own U64E H nd ns
  ne : blkV nd = none ∨ ∃ b, blkV nd = some b ∧ H0.length + 3 ≤ b
  wf : wfM m
  wfn : ∀ n ∈ ns, isU64 n
  len : ns.length ≤ i
  hl : H0.length + 3 ≤ H.length
  old : ∀ q, q < H0.length → H[q]? = H0[q]?
theorem Gat.next {H0 H : Heap} {m c : List (Int × Int)} {nd : Value} {ns : List Int} {i : Nat} (h : Gat H0 H m c nd ns i) (e : Entry) : Gat H0 (H ++ [e]) m c nd ns (i + 1) := by
  have hl := h.hl
  exact ⟨by rw [List.getElem?_append_left (by omega)]; exact h.map, by rw [List.getElem?_append_left (by omega)]; exact h.tbl, by rw [List.getElem?_append_left (by omega)]; exact h.cnt, h.own.mono _, h.ne, h.wf, h.wfn, Nat.le_succ_of_le h.len, by rw [List.length_append]; omega,
    fun q hq => by rw [List.getElem?_append_left (by omega)]; exact h.old q hq⟩
theorem Gat.put {H0 H : Heap} {m c : List (Int × Int)} {nd : Value} {ns : List Int} {i : Nat} (h : Gat H0 H m c nd ns i) (hi : ns.length < i) {k : Int} (hk : isU64 k) (hil : i ≤ 1000) :
    ∃ v' H', appV 1 8 H nd [.int .u64 k] 1 = some (v', H') ∧ H'[H0.length + 1]? = some (tblO H0.length nd) ∧ v'.cells = #[v'] ∧ oneAll v' = true ∧ Gat H0 (H'.set (H0.length + 1) (tblO H0.length v')) m c v' (ns ++ [k]) i := by
  have hl := h.hl
  obtain ⟨v', H', a1, a2, a3⟩ := h.own.app (m := [k]) (n := 1) (eb := 8) (k := 1) rfl rfl (by simp; omega)
  have hsame : ∀ q, q < H0.length + 3 → H'[q]? = H[q]? := fun q hq => by
    refine a3.same q (by omega) ?_
    rcases h.ne with h1 | ⟨b, h1, h2⟩
    · rw [h1]; intro he; cases he
    · rw [h1]; intro he; cases he; omega
  have hne : blkV v' = none ∨ ∃ b, blkV v' = some b ∧ H0.length + 3 ≤ b := by
    rcases a3.blk with h1 | ⟨_, b, h2, h3⟩
    · rw [h1]; exact h.ne
    · exact .inr ⟨b, h2, by omega⟩
  have hlen := a3.len
  have ht : H'[H0.length + 1]? = some (tblO H0.length nd) := by rw [hsame _ (by omega)]; exact h.tbl
  have hc : v'.cells = #[v'] ∧ oneAll v' = true := by
    rcases a2 with ⟨_, rfl⟩ | ⟨b, tag, rfl, _⟩
    · exact ⟨rfl, oneAll_slice⟩
    · exact ⟨rfl, oneAll_slice⟩
  refine ⟨v', H', a1, ht, hc.1, hc.2, ⟨?_, ?_, ?_, ?_, hne, h.wf, ?_, ?_, ?_, ?_⟩⟩
  · rw [List.getElem?_set_ne (by omega), hsame _ (by omega)]; exact h.map
  · rw [List.getElem?_set_self (by omega)]
  · rw [List.getElem?_set_ne (by omega), hsame _ (by omega)]; exact h.cnt
  · refine a2.keep fun b hb => List.getElem?_set_ne fun he => ?_
    rcases hne with h1 | ⟨b', h1, h2⟩
    · rw [h1] at hb; cases hb
    · rw [h1] at hb; cases hb; omega
  · intro n hn
    rcases List.mem_append.1 hn with hn | hn
    · exact h.wfn n hn
    · simp at hn; rw [hn]; exact hk
  · rw [List.length_append]; simp; omega
  · rw [List.length_set]; omega
  · intro q hq
    rw [List.getElem?_set_ne (by omega), hsame _ (by omega)]; exact h.old q hq
theorem Gat.cnts {H0 H : Heap} {m c : List (Int × Int)} {nd : Value} {ns : List Int} {i : Nat} (h : Gat H0 H m c nd ns i) (c' : List (Int × Int)) : Gat H0 (H.set (H0.length + 2) (mapO .i64 c')) m c' nd ns i := by
  have hl := h.hl
  refine ⟨by rw [List.getElem?_set_ne (by omega)]; exact h.map, by rw [List.getElem?_set_ne (by omega)]; exact h.tbl, by rw [List.getElem?_set_self (by omega)], ?_, h.ne, h.wf, h.wfn, h.len, by rw [List.length_set]; omega,
    fun q hq => by rw [List.getElem?_set_ne (by omega)]; exact h.old q hq⟩
  refine h.own.keep fun b hb => List.getElem?_set_ne fun he => ?_
  rcases h.ne with h1 | ⟨b', h1, h2⟩
  · rw [h1] at hb; cases hb
  · rw [h1] at hb; cases hb; omega
theorem Gat.maps {H0 H : Heap} {m c : List (Int × Int)} {nd : Value} {ns : List Int} {i : Nat} (h : Gat H0 H m c nd ns i) {m' : List (Int × Int)} (hw : wfM m') : Gat H0 (H.set H0.length (mapO .u64 m')) m' c nd ns i := by
  have hl := h.hl
  refine ⟨by rw [List.getElem?_set_self (by omega)], by rw [List.getElem?_set_ne (by omega)]; exact h.tbl, by rw [List.getElem?_set_ne (by omega)]; exact h.cnt, ?_, h.ne, hw, h.wfn, h.len, by rw [List.length_set]; omega,
    fun q hq => by rw [List.getElem?_set_ne (by omega)]; exact h.old q hq⟩
  refine h.own.keep fun b hb => List.getElem?_set_ne fun he => ?_
  rcases h.ne with h1 | ⟨b', h1, h2⟩
  · rw [h1] at hb; cases hb
  · rw [h1] at hb; cases hb; omega
section
variable {T : Tab} (h0 : T 66 = some F_dyn_known) (o : Option (List S_dyn_Entry)) (hok : okE (lst o)) (H0 : Heap)
include h0 hok
theorem loop_gather : ∀ (k i : Nat) (m c : List (Int × Int)) (nd : Value) (ns : List Int) (H : Heap) (env : Env), i + k = (lst o).length → Gat H0 H m c nd ns i → env 4 = .pointer (some ⟨H0.length + 1, 0, none⟩) → env 5 = .map (some (H0.length + 2)) →
    env 14 = slV EnE o → env 15 = .int .i64 (lst o).length → env 16 = .int .i64 i →
    W T (.loop F_dyn_gatherl0) env H fun x e h => x = .exit 0 ∧ e 4 = .pointer (some ⟨H0.length + 1, 0, none⟩) ∧ e 5 = .map (some (H0.length + 2)) ∧ ∃ m c nd ns, Gat H0 h m c nd ns (lst o).length := by
  intro k
  induction k with
  | zero =>
    intro i m c nd ns H env hi hg e4 e5 e14 e15 e16
    have : i = (lst o).length := by omega
    subst this
    have q : ¬ (((lst o).length : Int) < (lst o).length) := by omega
    rw [w_loop]
    simp only [fws, cond_true, cond_false, if_true, if_false, unV, isNil, optI, iV, stepI, evalR, reduceIte, reduceCtorEq, Nat.reduceEqDiff, Int.reduceLT, Int.reduceLE, Int.reduceToNat, Nat.reduceLT, Nat.reduceLeDiff, Int.reduceEq, Int.reduceNeg, IntKind.bits, Nat.reduceAdd, Nat.reduceMul, Nat.reducePow, Int.reducePow, ini, fwi, F_dyn_gatherr0_W, F_dyn_gatherr1_W, F_dyn_gatherr2_W, F_dyn_gatherr3_W, F_dyn_gatherr4_W, F_dyn_gatherr5_W, F_dyn_gatherr6_W, F_dyn_gatherr7_W, F_dyn_gatherr8_W, F_dyn_gatherr9_W, F_dyn_gatherr10_W, F_dyn_gatherr11_W, F_dyn_gatherl0_W, F_dyn_gatherr16_W, F_dyn_gatherr17_W, F_dyn_gatherc_W, e4, e5, e14, e15, e16, q]
    exact ⟨trivial, trivial, trivial, m, c, nd, ns, hg⟩
  | succ k ih =>
    intro i m c nd ns H env hi hg e4 e5 e14 e15 e16
    have q : ((i : Int) < (lst o).length) := by omega
    have hix : i < (lst o).length := by omega
    have hx := fun H => ix_sl (E := EnE) (o := o) (n := 2) rfl hix .i64 H
    have hld : ∀ H, loadNI H 2 (atI EnE (lst o) i) = some (.agg #[.int .u64 (lst o)[i].Tag, .int .u64 (lst o)[i].Value], H) := fun H => loadNI_at rfl hix
    obtain ⟨hw1, hw2⟩ := hok.1 _ (List.getElem_mem hix)
    have h128 := hok.2
    have w2 : IntKind.i64.wrap ((i : Int) + 1) = ((i + 1 : Nat) : Int) := by rw [wrapI64 (by omega) (by omega)]; rfl
    obtain ⟨kb, ck⟩ := f_dyn_known (T := T) h0 (lst o)[i].Tag
    have hg1 := hg.next ⟨0, .cells false 2 [.int .u64 (lst o)[i].Tag, .int .u64 (lst o)[i].Value]⟩
    have hlen := hg.len
    have hmap := hg1.map
    have htbl := hg1.tbl
    have hcnt := hg1.cnt
    rw [w_loop]
    by_cases ht : (lst o)[i].Tag = 1
    · obtain ⟨v', H', a1, a2, a3, a4, a5⟩ := hg1.put (by omega) hw2 (by omega)
      simp only [fws, cond_true, cond_false, if_true, if_false, unV, isNil, optI, iV, stepI, evalR, reduceIte, reduceCtorEq, Nat.reduceEqDiff, Int.reduceLT, Int.reduceLE, Int.reduceToNat, Nat.reduceLT, Nat.reduceLeDiff, Int.reduceEq, Int.reduceNeg, IntKind.bits, Nat.reduceAdd, Nat.reduceMul, Nat.reducePow, Int.reducePow, ini, fwh, lk, cellsAt, tagOf, spotOf, rdN, spl, fillL, zr, fwi, F_dyn_gatherr0_W, F_dyn_gatherr1_W, F_dyn_gatherr2_W, F_dyn_gatherr3_W, F_dyn_gatherr4_W, F_dyn_gatherr5_W, F_dyn_gatherr6_W, F_dyn_gatherr7_W, F_dyn_gatherr8_W, F_dyn_gatherr9_W, F_dyn_gatherr10_W, F_dyn_gatherr11_W, F_dyn_gatherl0_W, F_dyn_gatherr16_W, F_dyn_gatherr17_W, F_dyn_gatherc_W, e4, e5, e14, e15, e16, q, hx, hld, ht]
      simp only [ht] at a1 htbl
      simp only [fws, cond_true, cond_false, if_true, if_false, unV, isNil, optI, iV, stepI, evalR, reduceIte, reduceCtorEq, Nat.reduceEqDiff, Int.reduceLT, Int.reduceLE, Int.reduceToNat, Nat.reduceLT, Nat.reduceLeDiff, Int.reduceEq, Int.reduceNeg, IntKind.bits, Nat.reduceAdd, Nat.reduceMul, Nat.reducePow, Int.reducePow, ini, fwh, lk, cellsAt, tagOf, spotOf, rdN, spl, fillL, zr, fwi, F_dyn_gatherr0_W, F_dyn_gatherr1_W, F_dyn_gatherr2_W, F_dyn_gatherr3_W, F_dyn_gatherr4_W, F_dyn_gatherr5_W, F_dyn_gatherr6_W, F_dyn_gatherr7_W, F_dyn_gatherr8_W, F_dyn_gatherr9_W, F_dyn_gatherr10_W, F_dyn_gatherr11_W, F_dyn_gatherl0_W, F_dyn_gatherr16_W, F_dyn_gatherr17_W, F_dyn_gatherc_W, e4, e5, e16, htbl, srcOf_immV, a1, a2, a3, a4, w2]
      refine ih (i + 1) _ _ _ _ _ _ (by omega) a5 ?_ ?_ ?_ ?_ ?_
      all_goals (first | assumption | rfl)
    · have hd : decide ((lst o)[i].Tag = 1) = false := decide_eq_false ht
      cases kb with
      | false =>
        simp only [fws, cond_true, cond_false, if_true, if_false, unV, isNil, optI, iV, stepI, evalR, reduceIte, reduceCtorEq, Nat.reduceEqDiff, Int.reduceLT, Int.reduceLE, Int.reduceToNat, Nat.reduceLT, Nat.reduceLeDiff, Int.reduceEq, Int.reduceNeg, IntKind.bits, Nat.reduceAdd, Nat.reduceMul, Nat.reducePow, Int.reducePow, ini, fwh, lk, cellsAt, tagOf, spotOf, rdN, spl, fillL, zr, fwi, F_dyn_gatherr0_W, F_dyn_gatherr1_W, F_dyn_gatherr2_W, F_dyn_gatherr3_W, F_dyn_gatherr4_W, F_dyn_gatherr5_W, F_dyn_gatherr6_W, F_dyn_gatherr7_W, F_dyn_gatherr8_W, F_dyn_gatherr9_W, F_dyn_gatherr10_W, F_dyn_gatherr11_W, F_dyn_gatherl0_W, F_dyn_gatherr16_W, F_dyn_gatherr17_W, F_dyn_gatherc_W, e4, e5, e14, e15, e16, q, hx, hld, hd, CC_of ck, w2]
        refine ih (i + 1) _ _ _ _ _ _ (by omega) hg1 ?_ ?_ ?_ ?_ ?_
        all_goals (first | assumption | rfl)
      | true =>
        have hlku := fun ok => lkuI_M hcnt ok (lst o)[i].Tag
        obtain ⟨c', b1, b2⟩ := mupI_M hcnt (lst o)[i].Tag (IntKind.i64.wrap (valM c (lst o)[i].Tag + 1))
        have hg2 := hg1.cnts c'
        have hmap2 := hg2.map
        have htbl2 := hg2.tbl
        have hll := hg.hl
        have hxb : ((H ++ [(⟨0, .cells false 2 [.int .u64 (lst o)[i].Tag, .int .u64 (lst o)[i].Value]⟩ : Entry)]).set (H0.length + 2) (mapO .i64 c'))[H.length]? = some ⟨0, .cells false 2 [.int .u64 (lst o)[i].Tag, .int .u64 (lst o)[i].Value]⟩ := by
          rw [List.getElem?_set_ne (by omega), List.getElem?_append_right (Nat.le_refl _), Nat.sub_self]; rfl
        obtain ⟨m', b3, b4⟩ := mupI_M hmap2 (lst o)[i].Tag (lst o)[i].Value
        have hg3 := hg2.maps (m' := m') (fun p hp => by
          rcases b4 p hp with rfl | hp
          · exact hw2
          · exact hg.wf p hp)
        simp only [fws, cond_true, cond_false, if_true, if_false, unV, isNil, optI, iV, stepI, evalR, reduceIte, reduceCtorEq, Nat.reduceEqDiff, Int.reduceLT, Int.reduceLE, Int.reduceToNat, Nat.reduceLT, Nat.reduceLeDiff, Int.reduceEq, Int.reduceNeg, IntKind.bits, Nat.reduceAdd, Nat.reduceMul, Nat.reducePow, Int.reducePow, ini, fwh, lk, cellsAt, tagOf, spotOf, rdN, spl, fillL, zr, fwi, F_dyn_gatherr0_W, F_dyn_gatherr1_W, F_dyn_gatherr2_W, F_dyn_gatherr3_W, F_dyn_gatherr4_W, F_dyn_gatherr5_W, F_dyn_gatherr6_W, F_dyn_gatherr7_W, F_dyn_gatherr8_W, F_dyn_gatherr9_W, F_dyn_gatherr10_W, F_dyn_gatherr11_W, F_dyn_gatherl0_W, F_dyn_gatherr16_W, F_dyn_gatherr17_W, F_dyn_gatherc_W, e4, e5, e14, e15, e16, q, hx, hld, hd, CC_of ck, hlku, okV, b1, htbl2, hxb, b3, w2]
        refine ih (i + 1) _ _ _ _ _ _ (by omega) hg3 ?_ ?_ ?_ ?_ ?_
        all_goals (first | assumption | rfl)
/-- The tags are gathered into a table, or one is told twice. -/
theorem ev_dyn_gather (h : T 56 = some F_dyn_gather) : Ev T 56 [slV EnE o] H0 fun v h => (∀ q, q < H0.length → h[q]? = H0[q]?) ∧ H0.length ≤ h.length ∧
    (v = .tuple #[.pointer none, .int .i64 90] ∨ (v = .tuple #[.pointer (some ⟨H0.length + 1, 0, none⟩), .int .i64 0] ∧ ∃ m nd ns, Tbl h H0.length m nd ns ∧ ∀ b, blkV nd = some b → H0.length ≤ b)) := by
  rw [Ev_fn h rfl]
  have g0 : Gat H0 (H0 ++ [mapO .u64 [], tblO H0.length (.slice none 0 0), mapO .i64 []]) [] [] (.slice none 0 0) [] 0 := by
    refine ⟨?_, ?_, ?_, Own.nil, .inl rfl, fun p hp => (by cases hp), fun p hp => (by cases hp), Nat.le_refl _, by simp, fun q hq => List.getElem?_append_left hq⟩
    · rw [List.getElem?_append_right (Nat.le_refl _), Nat.sub_self]; rfl
    · rw [List.getElem?_append_right (by omega), Nat.add_sub_cancel_left]; rfl
    · rw [List.getElem?_append_right (by omega), Nat.add_sub_cancel_left]; rfl
  simp only [F_dyn_gather, fws, cond_true, cond_false, if_true, if_false, unV, isNil, optI, iV, stepI, evalR, reduceIte, reduceCtorEq, Nat.reduceEqDiff, Int.reduceLT, Int.reduceLE, Int.reduceToNat, Nat.reduceLT, Nat.reduceLeDiff, Int.reduceEq, Int.reduceNeg, IntKind.bits, Nat.reduceAdd, Nat.reduceMul, Nat.reducePow, Int.reducePow, ini, fwh, lk, cellsAt, tagOf, spotOf, rdN, spl, fillL, zr, fwi, F_dyn_gatherr0_W, F_dyn_gatherr1_W, F_dyn_gatherr2_W, F_dyn_gatherr3_W, F_dyn_gatherr4_W, F_dyn_gatherr5_W, F_dyn_gatherr6_W, F_dyn_gatherr7_W, F_dyn_gatherr8_W, F_dyn_gatherr9_W, F_dyn_gatherr10_W, F_dyn_gatherr11_W, F_dyn_gatherl0_W, F_dyn_gatherr16_W, F_dyn_gatherr17_W, F_dyn_gatherc_W, lenI_sl]
  refine W.mono (loop_gather h0 o hok H0 (lst o).length 0 [] [] (.slice none 0 0) [] _ _ (Nat.zero_add _) g0 ?_ ?_ ?_ ?_ ?_) fun x e h ⟨g1, g4, g5, m, c, nd, ns, hg⟩ => ?_
  all_goals try (first | assumption | rfl)
  subst g1
  have hl := hg.hl
  have hT : Tbl h H0.length m nd ns := by
    refine ⟨hg.map, hg.tbl, hg.own, ?_, hg.wf, hg.wfn, Nat.le_trans hg.len hok.2⟩
    rcases hg.ne with h1 | ⟨b, h1, h2⟩
    · rw [h1]; exact ⟨fun h => (by cases h), fun h => (by cases h)⟩
    · rw [h1]; exact ⟨fun h => (by cases h; omega), fun h => (by cases h; omega)⟩
  have hb : ∀ b, blkV nd = some b → H0.length ≤ b := fun b hb => by
    rcases hg.ne with h1 | ⟨b', h1, h2⟩
    · rw [h1] at hb; cases hb
    · rw [h1] at hb; cases hb; omega
  have hkv : ∀ p ∈ kvI .i64 c, ∃ n, p.2 = .int .i64 n := fun p hp => by
    obtain ⟨q, _, rfl⟩ := List.mem_map.1 hp
    exact ⟨q.2, rfl⟩
  simp only [fws, cond_true, cond_false, if_true, if_false, unV, isNil, optI, iV, stepI, evalR, reduceIte, reduceCtorEq, Nat.reduceEqDiff, Int.reduceLT, Int.reduceLE, Int.reduceToNat, Nat.reduceLT, Nat.reduceLeDiff, Int.reduceEq, Int.reduceNeg, IntKind.bits, Nat.reduceAdd, Nat.reduceMul, Nat.reducePow, Int.reducePow, ini]
  refine W_mrange (r := H0.length + 2) (tag := 0) (kv := kvI .i64 c) ?_ hg.cnt ?_ (fun _ => ?_) (fun _ => ?_)
  · exact g5
  · rw [List.all_eq_true]
    intro p hp
    obtain ⟨n, hn⟩ := hkv p hp
    rw [hn]
    rfl
  · refine (W_reg (Q := fun _ => _)).1 ?_
    show W T (.reg F_dyn_gatherr16) _ _ _
    simp only [fws, cond_true, cond_false, if_true, if_false, unV, isNil, optI, iV, stepI, evalR, reduceIte, reduceCtorEq, Nat.reduceEqDiff, Int.reduceLT, Int.reduceLE, Int.reduceToNat, Nat.reduceLT, Nat.reduceLeDiff, Int.reduceEq, Int.reduceNeg, IntKind.bits, Nat.reduceAdd, Nat.reduceMul, Nat.reducePow, Int.reducePow, ini, F_dyn_gatherr0_W, F_dyn_gatherr1_W, F_dyn_gatherr2_W, F_dyn_gatherr3_W, F_dyn_gatherr4_W, F_dyn_gatherr5_W, F_dyn_gatherr6_W, F_dyn_gatherr7_W, F_dyn_gatherr8_W, F_dyn_gatherr9_W, F_dyn_gatherr10_W, F_dyn_gatherr11_W, F_dyn_gatherl0_W, F_dyn_gatherr16_W, F_dyn_gatherr17_W, F_dyn_gatherc_W]
    exact ⟨hg.old, by omega, .inl trivial⟩
  · have e4 : (F_dyn_gatherm12.envE (bif (kvI .i64 c).isEmpty then F_dyn_gatherm12.env1 e else F_dyn_gatherm12.envR (F_dyn_gatherm12.env1 e) false)) 4 = .pointer (some ⟨H0.length + 1, 0, none⟩) := by
      rw [← g4]
      cases (kvI .i64 c).isEmpty <;> rfl
    simp only [fws, cond_true, cond_false, if_true, if_false, unV, isNil, optI, iV, stepI, evalR, reduceIte, reduceCtorEq, Nat.reduceEqDiff, Int.reduceLT, Int.reduceLE, Int.reduceToNat, Nat.reduceLT, Nat.reduceLeDiff, Int.reduceEq, Int.reduceNeg, IntKind.bits, Nat.reduceAdd, Nat.reduceMul, Nat.reducePow, Int.reducePow, ini, F_dyn_gatherr0_W, F_dyn_gatherr1_W, F_dyn_gatherr2_W, F_dyn_gatherr3_W, F_dyn_gatherr4_W, F_dyn_gatherr5_W, F_dyn_gatherr6_W, F_dyn_gatherr7_W, F_dyn_gatherr8_W, F_dyn_gatherr9_W, F_dyn_gatherr10_W, F_dyn_gatherr11_W, F_dyn_gatherl0_W, F_dyn_gatherr16_W, F_dyn_gatherr17_W, F_dyn_gatherc_W, e4]
    exact ⟨hg.old, by omega, .inr ⟨trivial, m, nd, ns, hT, hb⟩⟩
end
end Go.Proofs.Ytdkdifjjpbfohaa
/- What a table of tags tells. -/
namespace Go.Proofs.Ytdkdifjjpbfohaa
open Go Fw
set_option linter.unusedSimpArgs false
set_option linter.unusedVariables false
set_option linter.unusedSectionVars false

/-- A table lies at the blocks L and L + 1. -/
structure TB (H : Heap) (L : Nat) (m : List (Int × Int)) (nd : Value) : Prop where
  map : H[L]? = some (mapO .u64 m)
  tbl : H[L + 1]? = some (tblO L nd)
theorem TB.of_same {H H' : Heap} {L : Nat} {m : List (Int × Int)} {nd : Value} (h : TB H L m nd) (h1 : H'[L]? = H[L]?) (h2 : H'[L + 1]? = H[L + 1]?) : TB H' L m nd := ⟨by rw [h1]; exact h.map, by rw [h2]; exact h.tbl⟩
theorem TB.app {H : Heap} {L : Nat} {m : List (Int × Int)} {nd : Value} (h : TB H L m nd) (g : Heap) : TB (H ++ g) L m nd :=
  h.of_same (List.getElem?_append_left (List.getElem?_eq_some_iff.1 h.map).1) (List.getElem?_append_left (List.getElem?_eq_some_iff.1 h.tbl).1)
theorem TB.set {H : Heap} {L : Nat} {m : List (Int × Int)} {nd : Value} (h : TB H L m nd) {a : Nat} (h1 : a ≠ L) (h2 : a ≠ L + 1) (e : Entry) : TB (H.set a e) L m nd :=
  h.of_same (List.getElem?_set_ne h1) (List.getElem?_set_ne h2)
abbrev ptrT (L : Nat) : Value := .pointer (some ⟨L + 1, 0, none⟩)
section
variable {T : Tab} {H : Heap} {L : Nat} {m : List (Int × Int)} {nd : Value} (hT : TB H L m nd)
include hT
theorem ev_has (h : T 58 = some F_dyn_table_has) (k : Int) : Ev T 58 [ptrT L, .int .u64 k] H fun v h => v = .bool (hasM m k) ∧ h = H := by
  rw [Ev_fn h rfl]
  have h1 := hT.map
  have h2 := hT.tbl
  have h3 := fun ok => lkuI_M h1 ok k
  simp only [F_dyn_table_has, fws, cond_true, cond_false, if_true, if_false, unV, isNil, optI, iV, stepI, evalR, reduceIte, reduceCtorEq, Nat.reduceEqDiff, Int.reduceLT, Int.reduceLE, Int.reduceToNat, Nat.reduceLT, Nat.reduceLeDiff, Int.reduceEq, Int.reduceNeg, IntKind.bits, Nat.reduceAdd, Nat.reduceMul, Nat.reducePow, Int.reducePow, ini, fwh, lk, cellsAt, tagOf, spotOf, rdN, spl, fillL, zr, fwi, F_dyn_table_hasr0_W, F_dyn_table_hasr1_W, F_dyn_table_hasr2_W, F_dyn_table_hasc_W, h2, h3, okV]
  exact ⟨trivial, trivial⟩
def fixM (m : List (Int × Int)) (k v : Int) : Bool := !hasM m k || decide (valM m k = v)
theorem ev_fixed (h0 : T 58 = some F_dyn_table_has) (h : T 68 = some F_dyn_table_fixed) (k v : Int) : Ev T 68 [ptrT L, .int .u64 k, .int .u64 v] H fun u h => u = .bool (fixM m k v) ∧ h = H := by
  rw [Ev_fn h rfl]
  have h1 := hT.map
  have h2 := hT.tbl
  have h3 := fun ok => lkuI_M h1 ok k
  have c1 := ev_has (T := T) hT h0 k
  unfold fixM
  cases hh : hasM m k with
  | true =>
    rw [hh] at c1
    simp only [F_dyn_table_fixed, fws, cond_true, cond_false, if_true, if_false, unV, isNil, optI, iV, stepI, evalR, reduceIte, reduceCtorEq, Nat.reduceEqDiff, Int.reduceLT, Int.reduceLE, Int.reduceToNat, Nat.reduceLT, Nat.reduceLeDiff, Int.reduceEq, Int.reduceNeg, IntKind.bits, Nat.reduceAdd, Nat.reduceMul, Nat.reducePow, Int.reducePow, ini, fwh, lk, cellsAt, tagOf, spotOf, rdN, spl, fillL, zr, fwi, F_dyn_table_fixedr0_W, F_dyn_table_fixedr1_W, F_dyn_table_fixedr1_g4, F_dyn_table_fixedc_W, h2, h3, okV, Ev_det c1]
    exact ⟨trivial, trivial⟩
  | false =>
    rw [hh] at c1
    simp only [F_dyn_table_fixed, fws, cond_true, cond_false, if_true, if_false, unV, isNil, optI, iV, stepI, evalR, reduceIte, reduceCtorEq, Nat.reduceEqDiff, Int.reduceLT, Int.reduceLE, Int.reduceToNat, Nat.reduceLT, Nat.reduceLeDiff, Int.reduceEq, Int.reduceNeg, IntKind.bits, Nat.reduceAdd, Nat.reduceMul, Nat.reducePow, Int.reducePow, ini, fwh, lk, cellsAt, tagOf, spotOf, rdN, spl, fillL, zr, fwi, F_dyn_table_fixedr0_W, F_dyn_table_fixedr1_W, F_dyn_table_fixedr1_g4, F_dyn_table_fixedc_W, h2, h3, okV, Ev_det c1]
    exact ⟨trivial, trivial⟩
def arC (m : List (Int × Int)) (at_ size : Int) : List Value := [.bool (hasM m at_), .int .u64 (valM m at_), .int .u64 (valM m size)]
theorem ev_area (h0 : T 58 = some F_dyn_table_has) (h : T 67 = some F_dyn_table_area) (x y : Int) {a off u : Nat} {cs : List Value} (ha : H[a]? = some ⟨0, .cells false u cs⟩) (hof : off + 3 ≤ cs.length) (n1 : a ≠ L) (n2 : a ≠ L + 1) :
    Ev T 67 [ptrT L, .int .u64 x, .int .u64 y, .pointer (some ⟨a, off, none⟩)] H fun u1 h => u1 = .bool (hasM m x == hasM m y) ∧ h = H.set a ⟨0, .cells false u (spl cs off (arC m x y))⟩ := by
  rw [Ev_fn h rfl]
  have h1 := hT.map
  have h2 := hT.tbl
  have h3 := fun ok k => lkuI_M h1 ok k
  have c1 := ev_has (T := T) hT h0 x
  have hT2 := hT.set n1 n2 ⟨0, .cells false u (spl cs off (arC m x y))⟩
  have c2 := ev_has (T := T) hT2 h0 x
  have c3 := ev_has (T := T) hT2 h0 y
  have key : spl cs off (arC m x y) = ((cs.set off (.bool (hasM m x))).set (off + 1) (.int .u64 (valM m x))).set (off + 1 + 1) (.int .u64 (valM m y)) := rfl
  rw [key] at c2 c3
  have hble : decide (off + 3 ≤ cs.length) = true := by simp; omega
  rw [key]
  simp only [F_dyn_table_area, fws, cond_true, cond_false, if_true, if_false, unV, isNil, optI, iV, stepI, evalR, reduceIte, reduceCtorEq, Nat.reduceEqDiff, Int.reduceLT, Int.reduceLE, Int.reduceToNat, Nat.reduceLT, Nat.reduceLeDiff, Int.reduceEq, Int.reduceNeg, IntKind.bits, Nat.reduceAdd, Nat.reduceMul, Nat.reducePow, Int.reducePow, ini, fwh, lk, cellsAt, tagOf, spotOf, rdN, spl, fillL, zr, fwi, F_dyn_table_arear0_W, F_dyn_table_arear1_W, F_dyn_table_arear1_len, F_dyn_table_arear1_i7, F_dyn_table_arear1_i9, F_dyn_table_arear1_i13, F_dyn_table_arear1_i15, F_dyn_table_arear2_W, F_dyn_table_areac_W, h2, h3, okV, Ev_det c1, ha, hble]
  refine WR_nilT rfl (by decide) ⟨fun c hc => ?_, ?_⟩
  · simp only [List.mem_cons, List.not_mem_nil, or_false] at hc
    rcases hc with rfl | rfl | rfl | rfl <;>
    · intro hy
      simp only [fws, cond_true, cond_false, if_true, if_false, unV, isNil, optI, iV, stepI, evalR, reduceIte, reduceCtorEq, Nat.reduceEqDiff, Int.reduceLT, Int.reduceLE, Int.reduceToNat, Nat.reduceLT, Nat.reduceLeDiff, Int.reduceEq, Int.reduceNeg, IntKind.bits, Nat.reduceAdd, Nat.reduceMul, Nat.reducePow, Int.reducePow, ini, fwh, lk, cellsAt, tagOf, spotOf, rdN, spl, fillL, zr, fwi, F_dyn_table_arear0_W, F_dyn_table_arear1_W, F_dyn_table_arear1_len, F_dyn_table_arear1_i7, F_dyn_table_arear1_i9, F_dyn_table_arear1_i13, F_dyn_table_arear1_i15, F_dyn_table_arear2_W, F_dyn_table_areac_W, h2, h3, okV, ha, hble]
  · simp only [fws, cond_true, cond_false, if_true, if_false, unV, isNil, optI, iV, stepI, evalR, reduceIte, reduceCtorEq, Nat.reduceEqDiff, Int.reduceLT, Int.reduceLE, Int.reduceToNat, Nat.reduceLT, Nat.reduceLeDiff, Int.reduceEq, Int.reduceNeg, IntKind.bits, Nat.reduceAdd, Nat.reduceMul, Nat.reducePow, Int.reducePow, ini, fwh, lk, cellsAt, tagOf, spotOf, rdN, spl, fillL, zr, fwi, F_dyn_table_arear0_W, F_dyn_table_arear1_W, F_dyn_table_arear1_len, F_dyn_table_arear1_i7, F_dyn_table_arear1_i9, F_dyn_table_arear1_i13, F_dyn_table_arear1_i15, F_dyn_table_arear2_W, F_dyn_table_areac_W, Ev_det c2, Ev_det c3]
    exact ⟨trivial, trivial⟩
end
end Go.Proofs.Ytdkdifjjpbfohaa
