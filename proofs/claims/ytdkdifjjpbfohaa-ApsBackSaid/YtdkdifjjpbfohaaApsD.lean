/- Groups of relocations: a group. -/
import Derived.Test.YtdkdifjjpbfohaaApsC
namespace Go.Proofs.Ytdkdifjjpbfohaa
open Go Fw
set_option linter.unusedSimpArgs false
set_option linter.unusedVariables false
set_option linter.unusedSectionVars false

def oneF (rela : Bool) (f : Nat) (step info : Int) (g : GS) : GS := oneS rela (b2 f) (b1 f) (b8 f && !b4 f) step info g
def rowsS (rela : Bool) (f : Nat) (step info : Int) : Nat → GS → GS
  | 0, g => g
  | n + 1, g => rowsS rela f step info n (oneF rela f step info g)
theorem oneF_len {rela : Bool} {f : Nat} {step info : Int} {g : GS} : (oneF rela f step info g).out.length = g.out.length + 1 := by
  unfold oneF oneS
  simp
theorem rowsS_len {rela : Bool} {f : Nat} {step info : Int} : ∀ (n : Nat) (g : GS), (rowsS rela f step info n g).out.length = g.out.length + n
  | 0, g => rfl
  | n + 1, g => by rw [rowsS, rowsS_len n, oneF_len]; omega
section
variable {T : Tab} (hg0 : T 39 = some F_leb_Reader_groups) (hS : T 19 = some F_leb_Reader_S) {l : List UInt8} (hl : l.length < 9223372036854775000) {fl rela : Bool}
include hg0 hS hl
theorem ev_one (h1 : T 60 = some F_aps_state_one) {H : Heap} {g : GS} {u : Value} (t : Stt H l fl rela g u) {f : Nat} (hf : f < 16) {step info : Int} (hout : g.out.length ≤ 100000) :
    Ev T 60 [.pointer (some ⟨1, 0, none⟩), .int .i64 f, .int .i64 step, .int .i64 info] H fun v h => v = .tuple #[] ∧ ∃ u', Stt h l fl rela (oneF rela f step info g) u' ∧ H.length ≤ h.length := by
  rw [Ev_fn h1 rfl]
  show W T F_aps_state_onec _ _ _
  unfold F_aps_state_onec
  rw [w_seq]
  refine W.mono (one_st1 hg0 hS hl t hf (step := step) (info := info) ?_ ?_ ?_ ?_) fun x e h ⟨hx, e0, e1, e2, e3, t1, hl1⟩ => ?_
  · (first | assumption | rfl)
  · (first | assumption | rfl)
  · (first | assumption | rfl)
  · (first | assumption | rfl)
  subst hx
  rw [seqQ_normal, w_seq]
  refine W.mono (one_st2 hg0 hS hl t1 hf (step := _) (info := info) e0 e1 e2 e3) fun x e h2 ⟨hx, e0, e1, e3, t2, hl2⟩ => ?_
  subst hx
  rw [seqQ_normal, w_seq]
  refine W.mono (one_st3 hg0 hS hl t2 hf (info := info) e0 e1 e3) fun x e h3 ⟨hx, e0, e1, e3, t3, hl3⟩ => ?_
  subst hx
  rw [seqQ_normal, w_seq]
  refine W.mono (one_st4 hg0 hS hl t3 hf e0 e1 e3) fun x e h4 ⟨hx, e0, e3, t4, hl4⟩ => ?_
  subst hx
  rw [seqQ_normal]
  refine W.mono (one_st5 hg0 hS hl t4 hf hout e0 e3) fun x e h5 ⟨hx, u', t5, hl5⟩ => ?_
  subst hx
  simp only [F_aps_state_one, fws, cond_true, cond_false, if_true, if_false, unV, isNil, optI, iV, stepI, evalR, reduceIte, reduceCtorEq, Nat.reduceEqDiff, Int.reduceLT, Int.reduceLE, Int.reduceToNat, Nat.reduceLT, Nat.reduceLeDiff, Int.reduceEq, Int.reduceNeg, IntKind.bits, Nat.reduceAdd, Nat.reduceMul, Nat.reducePow, Int.reducePow, ini]
  refine ⟨trivial, u', ?_, by omega⟩
  unfold oneF oneS
  cases hb2 : b2 f <;> cases hb1 : b1 f <;> cases hb : (b8 f && !b4 f) <;> simp only [hb2, hb1, hb] at t5 <;> exact t5
theorem loop_group (h1 : T 60 = some F_aps_state_one) {f : Nat} (hf : f < 16) {step info : Int} {n : Nat} (hn : n ≤ 600) : ∀ (m i : Nat) (H : Heap) (g : GS) (u : Value) (env : Env), i + m = n → g.out.length + m ≤ 2000 → Stt H l fl rela g u → env 0 = .pointer (some ⟨1, 0, none⟩) → env 6 = .int .i64 f → env 7 = .int .i64 step → env 8 = .int .i64 info → env 92 = .int .i64 n → env 93 = .int .i64 i →
    W T (.loop F_aps_state_groupl0) env H fun x e h => x = .exit 1 ∧ e 0 = .pointer (some ⟨1, 0, none⟩) ∧ (∃ u', Stt h l fl rela (rowsS rela f step info m g) u') ∧ H.length ≤ h.length := by
  intro m
  induction m with
  | zero =>
    intro i H g u env hi ho t e0 e6 e7 e8 e92 e93
    have : i = n := by omega
    subst this
    have q : ¬ ((i : Int) < i) := by omega
    rw [w_loop]
    simp only [fws, cond_true, cond_false, if_true, if_false, unV, isNil, optI, iV, stepI, evalR, reduceIte, reduceCtorEq, Nat.reduceEqDiff, Int.reduceLT, Int.reduceLE, Int.reduceToNat, Nat.reduceLT, Nat.reduceLeDiff, Int.reduceEq, Int.reduceNeg, IntKind.bits, Nat.reduceAdd, Nat.reduceMul, Nat.reducePow, Int.reducePow, ini, fwi, F_aps_state_groupr0_W, F_aps_state_groupr1_W, F_aps_state_groupr1_len, F_aps_state_groupr1_i8, F_aps_state_groupr2_W, F_aps_state_groupr2_g6, F_aps_state_groupr2_g10, F_aps_state_groupr2_g15, F_aps_state_groupr2_g19, F_aps_state_groupr2_g23, F_aps_state_groupr2_g27, F_aps_state_groupr3_W, F_aps_state_groupr4_W, F_aps_state_groupr5_W, F_aps_state_groupr6_W, F_aps_state_groupr7_W, F_aps_state_groupr8_W, F_aps_state_groupr9_W, F_aps_state_groupr10_W, F_aps_state_groupr11_W, F_aps_state_groupr11_len, F_aps_state_groupr11_i3, F_aps_state_groupr12_W, F_aps_state_groupr13_W, F_aps_state_groupr14_W, F_aps_state_groupr15_W, F_aps_state_groupr16_W, F_aps_state_groupr17_W, F_aps_state_groupr18_W, F_aps_state_groupl0_W, F_aps_state_groupr19_W, F_aps_state_groupc_W, F_aps_state_groupr0_W, F_aps_state_groupr1_W, F_aps_state_groupr1_len, F_aps_state_groupr1_i8, F_aps_state_groupr2_W, F_aps_state_groupr2_g6, F_aps_state_groupr2_g10, F_aps_state_groupr2_g15, F_aps_state_groupr2_g19, F_aps_state_groupr2_g23, F_aps_state_groupr2_g27, F_aps_state_groupr3_W, F_aps_state_groupr4_W, F_aps_state_groupr5_W, F_aps_state_groupr6_W, F_aps_state_groupr7_W, F_aps_state_groupr8_W, F_aps_state_groupr9_W, F_aps_state_groupr10_W, F_aps_state_groupr11_W, F_aps_state_groupr11_len, F_aps_state_groupr11_i3, F_aps_state_groupr12_W, F_aps_state_groupr13_W, F_aps_state_groupr14_W, F_aps_state_groupr15_W, F_aps_state_groupr16_W, F_aps_state_groupr17_W, F_aps_state_groupr18_W, F_aps_state_groupl0_W, F_aps_state_groupr19_W, F_aps_state_groupc_W, e0, e6, e7, e8, e92, e93, q]
    exact ⟨trivial, trivial, ⟨u, t⟩, Nat.le_refl _⟩
  | succ m ih =>
    intro i H g u env hi ho t e0 e6 e7 e8 e92 e93
    have q : ((i : Int) < n) := by omega
    have w2 : IntKind.i64.wrap ((i : Int) + 1) = ((i + 1 : Nat) : Int) := by rw [wrapI64 (by omega) (by omega)]; rfl
    have c := ev_one hg0 hS hl h1 t hf (step := step) (info := info) (by omega)
    rw [w_loop]
    simp only [fws, cond_true, cond_false, if_true, if_false, unV, isNil, optI, iV, stepI, evalR, reduceIte, reduceCtorEq, Nat.reduceEqDiff, Int.reduceLT, Int.reduceLE, Int.reduceToNat, Nat.reduceLT, Nat.reduceLeDiff, Int.reduceEq, Int.reduceNeg, IntKind.bits, Nat.reduceAdd, Nat.reduceMul, Nat.reducePow, Int.reducePow, ini, fwi, F_aps_state_groupr0_W, F_aps_state_groupr1_W, F_aps_state_groupr1_len, F_aps_state_groupr1_i8, F_aps_state_groupr2_W, F_aps_state_groupr2_g6, F_aps_state_groupr2_g10, F_aps_state_groupr2_g15, F_aps_state_groupr2_g19, F_aps_state_groupr2_g23, F_aps_state_groupr2_g27, F_aps_state_groupr3_W, F_aps_state_groupr4_W, F_aps_state_groupr5_W, F_aps_state_groupr6_W, F_aps_state_groupr7_W, F_aps_state_groupr8_W, F_aps_state_groupr9_W, F_aps_state_groupr10_W, F_aps_state_groupr11_W, F_aps_state_groupr11_len, F_aps_state_groupr11_i3, F_aps_state_groupr12_W, F_aps_state_groupr13_W, F_aps_state_groupr14_W, F_aps_state_groupr15_W, F_aps_state_groupr16_W, F_aps_state_groupr17_W, F_aps_state_groupr18_W, F_aps_state_groupl0_W, F_aps_state_groupr19_W, F_aps_state_groupc_W, F_aps_state_groupr0_W, F_aps_state_groupr1_W, F_aps_state_groupr1_len, F_aps_state_groupr1_i8, F_aps_state_groupr2_W, F_aps_state_groupr2_g6, F_aps_state_groupr2_g10, F_aps_state_groupr2_g15, F_aps_state_groupr2_g19, F_aps_state_groupr2_g23, F_aps_state_groupr2_g27, F_aps_state_groupr3_W, F_aps_state_groupr4_W, F_aps_state_groupr5_W, F_aps_state_groupr6_W, F_aps_state_groupr7_W, F_aps_state_groupr8_W, F_aps_state_groupr9_W, F_aps_state_groupr10_W, F_aps_state_groupr11_W, F_aps_state_groupr11_len, F_aps_state_groupr11_i3, F_aps_state_groupr12_W, F_aps_state_groupr13_W, F_aps_state_groupr14_W, F_aps_state_groupr15_W, F_aps_state_groupr16_W, F_aps_state_groupr17_W, F_aps_state_groupr18_W, F_aps_state_groupl0_W, F_aps_state_groupr19_W, F_aps_state_groupc_W, e0, e6, e7, e8, e92, e93, q]
    refine c.mono fun v h ⟨hv, u', t', hlen⟩ => ?_
    simp only [fws, cond_true, cond_false, if_true, if_false, unV, isNil, optI, iV, stepI, evalR, reduceIte, reduceCtorEq, Nat.reduceEqDiff, Int.reduceLT, Int.reduceLE, Int.reduceToNat, Nat.reduceLT, Nat.reduceLeDiff, Int.reduceEq, Int.reduceNeg, IntKind.bits, Nat.reduceAdd, Nat.reduceMul, Nat.reducePow, Int.reducePow, ini, fwi, F_aps_state_groupr0_W, F_aps_state_groupr1_W, F_aps_state_groupr1_len, F_aps_state_groupr1_i8, F_aps_state_groupr2_W, F_aps_state_groupr2_g6, F_aps_state_groupr2_g10, F_aps_state_groupr2_g15, F_aps_state_groupr2_g19, F_aps_state_groupr2_g23, F_aps_state_groupr2_g27, F_aps_state_groupr3_W, F_aps_state_groupr4_W, F_aps_state_groupr5_W, F_aps_state_groupr6_W, F_aps_state_groupr7_W, F_aps_state_groupr8_W, F_aps_state_groupr9_W, F_aps_state_groupr10_W, F_aps_state_groupr11_W, F_aps_state_groupr11_len, F_aps_state_groupr11_i3, F_aps_state_groupr12_W, F_aps_state_groupr13_W, F_aps_state_groupr14_W, F_aps_state_groupr15_W, F_aps_state_groupr16_W, F_aps_state_groupr17_W, F_aps_state_groupr18_W, F_aps_state_groupl0_W, F_aps_state_groupr19_W, F_aps_state_groupc_W, F_aps_state_groupr0_W, F_aps_state_groupr1_W, F_aps_state_groupr1_len, F_aps_state_groupr1_i8, F_aps_state_groupr2_W, F_aps_state_groupr2_g6, F_aps_state_groupr2_g10, F_aps_state_groupr2_g15, F_aps_state_groupr2_g19, F_aps_state_groupr2_g23, F_aps_state_groupr2_g27, F_aps_state_groupr3_W, F_aps_state_groupr4_W, F_aps_state_groupr5_W, F_aps_state_groupr6_W, F_aps_state_groupr7_W, F_aps_state_groupr8_W, F_aps_state_groupr9_W, F_aps_state_groupr10_W, F_aps_state_groupr11_W, F_aps_state_groupr11_len, F_aps_state_groupr11_i3, F_aps_state_groupr12_W, F_aps_state_groupr13_W, F_aps_state_groupr14_W, F_aps_state_groupr15_W, F_aps_state_groupr16_W, F_aps_state_groupr17_W, F_aps_state_groupr18_W, F_aps_state_groupl0_W, F_aps_state_groupr19_W, F_aps_state_groupc_W, e0, e6, e7, e8, e92, e93, w2]
    refine W.mono (ih (i + 1) h (oneF rela f step info g) u' _ (by omega) (by rw [oneF_len]; omega) t' ?_ ?_ ?_ ?_ ?_ ?_) fun x e h' ⟨g1, g2, g3, g4⟩ => ⟨g1, g2, g3, by omega⟩
    · (first | assumption | rfl)
    · (first | assumption | rfl)
    · (first | assumption | rfl)
    · (first | assumption | rfl)
    · (first | assumption | rfl)
    · (first | assumption | rfl)
/-- A group of no more than so many. -/
def grpS (rela : Bool) (left : Int) (g : GS) : Option GS :=
  let a := tk g.s
  let b := tk a.1
  if b.1.bad = true ∨ a.2 < 1 ∨ left < a.2 ∨ b.2 < 0 ∨ 15 < b.2 ∨ (b8 b.2.toNat = true ∧ rela = false) then none else
  let f := b.2.toNat
  let p := if b2 f then tk b.1 else (b.1, 0)
  let q := if b1 f then tk p.1 else (p.1, 0)
  let r := if b8 f && b4 f then tk q.1 else (q.1, 0)
  let add := if b8 f then (if b4 f then IntKind.i64.wrap (g.add + r.2) else g.add) else 0
  let g' := rowsS rela f p.2 q.2 a.2.toNat ⟨r.1, g.at_, add, g.out⟩
  if g'.s.bad then none else some g'
theorem grp_st1 {H : Heap} {g : GS} {u : Value} (t : Stt H l fl rela g u) {left : Int} {env : Env} (e0 : env 0 = .pointer (some ⟨1, 0, none⟩)) (e1 : env 1 = .int .i64 left) :
    W T (.dreg F_aps_state_groupr1 [(8, 0)]) env H fun x e h => x = .normal ∧ e 0 = .pointer (some ⟨1, 0, none⟩) ∧ e 1 = .int .i64 left ∧ e 5 = .int .i64 (tk g.s).2 ∧ e 6 = .int .i64 (tk (tk g.s).1).2 ∧ Stt h l fl rela ⟨(tk (tk g.s).1).1, g.at_, g.add, g.out⟩ u := by
  obtain ⟨x0, x1, x2, x3, x4⟩ := t.cells
  have c := ev_S (T := T) hg0 hS hl t
  simp only [fws, cond_true, cond_false, if_true, if_false, unV, isNil, optI, iV, stepI, evalR, reduceIte, reduceCtorEq, Nat.reduceEqDiff, Int.reduceLT, Int.reduceLE, Int.reduceToNat, Nat.reduceLT, Nat.reduceLeDiff, Int.reduceEq, Int.reduceNeg, IntKind.bits, Nat.reduceAdd, Nat.reduceMul, Nat.reducePow, Int.reducePow, ini, fwi, F_aps_state_groupr0_W, F_aps_state_groupr1_W, F_aps_state_groupr1_len, F_aps_state_groupr1_i8, F_aps_state_groupr2_W, F_aps_state_groupr2_g6, F_aps_state_groupr2_g10, F_aps_state_groupr2_g15, F_aps_state_groupr2_g19, F_aps_state_groupr2_g23, F_aps_state_groupr2_g27, F_aps_state_groupr3_W, F_aps_state_groupr4_W, F_aps_state_groupr5_W, F_aps_state_groupr6_W, F_aps_state_groupr7_W, F_aps_state_groupr8_W, F_aps_state_groupr9_W, F_aps_state_groupr10_W, F_aps_state_groupr11_W, F_aps_state_groupr11_len, F_aps_state_groupr11_i3, F_aps_state_groupr12_W, F_aps_state_groupr13_W, F_aps_state_groupr14_W, F_aps_state_groupr15_W, F_aps_state_groupr16_W, F_aps_state_groupr17_W, F_aps_state_groupr18_W, F_aps_state_groupl0_W, F_aps_state_groupr19_W, F_aps_state_groupc_W, F_aps_state_groupr0_W, F_aps_state_groupr1_W, F_aps_state_groupr1_len, F_aps_state_groupr1_i8, F_aps_state_groupr2_W, F_aps_state_groupr2_g6, F_aps_state_groupr2_g10, F_aps_state_groupr2_g15, F_aps_state_groupr2_g19, F_aps_state_groupr2_g23, F_aps_state_groupr2_g27, F_aps_state_groupr3_W, F_aps_state_groupr4_W, F_aps_state_groupr5_W, F_aps_state_groupr6_W, F_aps_state_groupr7_W, F_aps_state_groupr8_W, F_aps_state_groupr9_W, F_aps_state_groupr10_W, F_aps_state_groupr11_W, F_aps_state_groupr11_len, F_aps_state_groupr11_i3, F_aps_state_groupr12_W, F_aps_state_groupr13_W, F_aps_state_groupr14_W, F_aps_state_groupr15_W, F_aps_state_groupr16_W, F_aps_state_groupr17_W, F_aps_state_groupr18_W, F_aps_state_groupl0_W, F_aps_state_groupr19_W, F_aps_state_groupc_W, e0, e1, x0]
  refine c.mono fun v h ⟨hv, t1, hr⟩ => ?_
  subst hv
  obtain ⟨y0, y1, y2, y3, y4⟩ := t1.cells
  have c2 := ev_S (T := T) hg0 hS hl t1
  simp only [fws, cond_true, cond_false, if_true, if_false, unV, isNil, optI, iV, stepI, evalR, reduceIte, reduceCtorEq, Nat.reduceEqDiff, Int.reduceLT, Int.reduceLE, Int.reduceToNat, Nat.reduceLT, Nat.reduceLeDiff, Int.reduceEq, Int.reduceNeg, IntKind.bits, Nat.reduceAdd, Nat.reduceMul, Nat.reducePow, Int.reducePow, ini, fwi, F_aps_state_groupr0_W, F_aps_state_groupr1_W, F_aps_state_groupr1_len, F_aps_state_groupr1_i8, F_aps_state_groupr2_W, F_aps_state_groupr2_g6, F_aps_state_groupr2_g10, F_aps_state_groupr2_g15, F_aps_state_groupr2_g19, F_aps_state_groupr2_g23, F_aps_state_groupr2_g27, F_aps_state_groupr3_W, F_aps_state_groupr4_W, F_aps_state_groupr5_W, F_aps_state_groupr6_W, F_aps_state_groupr7_W, F_aps_state_groupr8_W, F_aps_state_groupr9_W, F_aps_state_groupr10_W, F_aps_state_groupr11_W, F_aps_state_groupr11_len, F_aps_state_groupr11_i3, F_aps_state_groupr12_W, F_aps_state_groupr13_W, F_aps_state_groupr14_W, F_aps_state_groupr15_W, F_aps_state_groupr16_W, F_aps_state_groupr17_W, F_aps_state_groupr18_W, F_aps_state_groupl0_W, F_aps_state_groupr19_W, F_aps_state_groupc_W, F_aps_state_groupr0_W, F_aps_state_groupr1_W, F_aps_state_groupr1_len, F_aps_state_groupr1_i8, F_aps_state_groupr2_W, F_aps_state_groupr2_g6, F_aps_state_groupr2_g10, F_aps_state_groupr2_g15, F_aps_state_groupr2_g19, F_aps_state_groupr2_g23, F_aps_state_groupr2_g27, F_aps_state_groupr3_W, F_aps_state_groupr4_W, F_aps_state_groupr5_W, F_aps_state_groupr6_W, F_aps_state_groupr7_W, F_aps_state_groupr8_W, F_aps_state_groupr9_W, F_aps_state_groupr10_W, F_aps_state_groupr11_W, F_aps_state_groupr11_len, F_aps_state_groupr11_i3, F_aps_state_groupr12_W, F_aps_state_groupr13_W, F_aps_state_groupr14_W, F_aps_state_groupr15_W, F_aps_state_groupr16_W, F_aps_state_groupr17_W, F_aps_state_groupr18_W, F_aps_state_groupl0_W, F_aps_state_groupr19_W, F_aps_state_groupc_W, e0, e1, y0]
  refine c2.mono fun v h2 ⟨hv, t2, hr2⟩ => ?_
  subst hv
  simp only [fws, cond_true, cond_false, if_true, if_false, unV, isNil, optI, iV, stepI, evalR, reduceIte, reduceCtorEq, Nat.reduceEqDiff, Int.reduceLT, Int.reduceLE, Int.reduceToNat, Nat.reduceLT, Nat.reduceLeDiff, Int.reduceEq, Int.reduceNeg, IntKind.bits, Nat.reduceAdd, Nat.reduceMul, Nat.reducePow, Int.reducePow, ini, fwi, F_aps_state_groupr0_W, F_aps_state_groupr1_W, F_aps_state_groupr1_len, F_aps_state_groupr1_i8, F_aps_state_groupr2_W, F_aps_state_groupr2_g6, F_aps_state_groupr2_g10, F_aps_state_groupr2_g15, F_aps_state_groupr2_g19, F_aps_state_groupr2_g23, F_aps_state_groupr2_g27, F_aps_state_groupr3_W, F_aps_state_groupr4_W, F_aps_state_groupr5_W, F_aps_state_groupr6_W, F_aps_state_groupr7_W, F_aps_state_groupr8_W, F_aps_state_groupr9_W, F_aps_state_groupr10_W, F_aps_state_groupr11_W, F_aps_state_groupr11_len, F_aps_state_groupr11_i3, F_aps_state_groupr12_W, F_aps_state_groupr13_W, F_aps_state_groupr14_W, F_aps_state_groupr15_W, F_aps_state_groupr16_W, F_aps_state_groupr17_W, F_aps_state_groupr18_W, F_aps_state_groupl0_W, F_aps_state_groupr19_W, F_aps_state_groupc_W, F_aps_state_groupr0_W, F_aps_state_groupr1_W, F_aps_state_groupr1_len, F_aps_state_groupr1_i8, F_aps_state_groupr2_W, F_aps_state_groupr2_g6, F_aps_state_groupr2_g10, F_aps_state_groupr2_g15, F_aps_state_groupr2_g19, F_aps_state_groupr2_g23, F_aps_state_groupr2_g27, F_aps_state_groupr3_W, F_aps_state_groupr4_W, F_aps_state_groupr5_W, F_aps_state_groupr6_W, F_aps_state_groupr7_W, F_aps_state_groupr8_W, F_aps_state_groupr9_W, F_aps_state_groupr10_W, F_aps_state_groupr11_W, F_aps_state_groupr11_len, F_aps_state_groupr11_i3, F_aps_state_groupr12_W, F_aps_state_groupr13_W, F_aps_state_groupr14_W, F_aps_state_groupr15_W, F_aps_state_groupr16_W, F_aps_state_groupr17_W, F_aps_state_groupr18_W, F_aps_state_groupl0_W, F_aps_state_groupr19_W, F_aps_state_groupc_W, e0, e1]
  refine WR_nilT rfl (by decide) ⟨fun c hc => ?_, ?_⟩
  · simp only [List.mem_cons, List.not_mem_nil, or_false] at hc
    subst hc
    intro hy
    simp only [fws, cond_true, cond_false, if_true, if_false, unV, isNil, optI, iV, stepI, evalR, reduceIte, reduceCtorEq, Nat.reduceEqDiff, Int.reduceLT, Int.reduceLE, Int.reduceToNat, Nat.reduceLT, Nat.reduceLeDiff, Int.reduceEq, Int.reduceNeg, IntKind.bits, Nat.reduceAdd, Nat.reduceMul, Nat.reducePow, Int.reducePow, ini, fwi, F_aps_state_groupr0_W, F_aps_state_groupr1_W, F_aps_state_groupr1_len, F_aps_state_groupr1_i8, F_aps_state_groupr2_W, F_aps_state_groupr2_g6, F_aps_state_groupr2_g10, F_aps_state_groupr2_g15, F_aps_state_groupr2_g19, F_aps_state_groupr2_g23, F_aps_state_groupr2_g27, F_aps_state_groupr3_W, F_aps_state_groupr4_W, F_aps_state_groupr5_W, F_aps_state_groupr6_W, F_aps_state_groupr7_W, F_aps_state_groupr8_W, F_aps_state_groupr9_W, F_aps_state_groupr10_W, F_aps_state_groupr11_W, F_aps_state_groupr11_len, F_aps_state_groupr11_i3, F_aps_state_groupr12_W, F_aps_state_groupr13_W, F_aps_state_groupr14_W, F_aps_state_groupr15_W, F_aps_state_groupr16_W, F_aps_state_groupr17_W, F_aps_state_groupr18_W, F_aps_state_groupl0_W, F_aps_state_groupr19_W, F_aps_state_groupc_W, F_aps_state_groupr0_W, F_aps_state_groupr1_W, F_aps_state_groupr1_len, F_aps_state_groupr1_i8, F_aps_state_groupr2_W, F_aps_state_groupr2_g6, F_aps_state_groupr2_g10, F_aps_state_groupr2_g15, F_aps_state_groupr2_g19, F_aps_state_groupr2_g23, F_aps_state_groupr2_g27, F_aps_state_groupr3_W, F_aps_state_groupr4_W, F_aps_state_groupr5_W, F_aps_state_groupr6_W, F_aps_state_groupr7_W, F_aps_state_groupr8_W, F_aps_state_groupr9_W, F_aps_state_groupr10_W, F_aps_state_groupr11_W, F_aps_state_groupr11_len, F_aps_state_groupr11_i3, F_aps_state_groupr12_W, F_aps_state_groupr13_W, F_aps_state_groupr14_W, F_aps_state_groupr15_W, F_aps_state_groupr16_W, F_aps_state_groupr17_W, F_aps_state_groupr18_W, F_aps_state_groupl0_W, F_aps_state_groupr19_W, F_aps_state_groupc_W, e0, e1, x0, y0]
  · simp only [fws, cond_true, cond_false, if_true, if_false, unV, isNil, optI, iV, stepI, evalR, reduceIte, reduceCtorEq, Nat.reduceEqDiff, Int.reduceLT, Int.reduceLE, Int.reduceToNat, Nat.reduceLT, Nat.reduceLeDiff, Int.reduceEq, Int.reduceNeg, IntKind.bits, Nat.reduceAdd, Nat.reduceMul, Nat.reducePow, Int.reducePow, ini, F_aps_state_groupr0_W, F_aps_state_groupr1_W, F_aps_state_groupr1_len, F_aps_state_groupr1_i8, F_aps_state_groupr2_W, F_aps_state_groupr2_g6, F_aps_state_groupr2_g10, F_aps_state_groupr2_g15, F_aps_state_groupr2_g19, F_aps_state_groupr2_g23, F_aps_state_groupr2_g27, F_aps_state_groupr3_W, F_aps_state_groupr4_W, F_aps_state_groupr5_W, F_aps_state_groupr6_W, F_aps_state_groupr7_W, F_aps_state_groupr8_W, F_aps_state_groupr9_W, F_aps_state_groupr10_W, F_aps_state_groupr11_W, F_aps_state_groupr11_len, F_aps_state_groupr11_i3, F_aps_state_groupr12_W, F_aps_state_groupr13_W, F_aps_state_groupr14_W, F_aps_state_groupr15_W, F_aps_state_groupr16_W, F_aps_state_groupr17_W, F_aps_state_groupr18_W, F_aps_state_groupl0_W, F_aps_state_groupr19_W, F_aps_state_groupc_W, F_aps_state_groupr0_W, F_aps_state_groupr1_W, F_aps_state_groupr1_len, F_aps_state_groupr1_i8, F_aps_state_groupr2_W, F_aps_state_groupr2_g6, F_aps_state_groupr2_g10, F_aps_state_groupr2_g15, F_aps_state_groupr2_g19, F_aps_state_groupr2_g23, F_aps_state_groupr2_g27, F_aps_state_groupr3_W, F_aps_state_groupr4_W, F_aps_state_groupr5_W, F_aps_state_groupr6_W, F_aps_state_groupr7_W, F_aps_state_groupr8_W, F_aps_state_groupr9_W, F_aps_state_groupr10_W, F_aps_state_groupr11_W, F_aps_state_groupr11_len, F_aps_state_groupr11_i3, F_aps_state_groupr12_W, F_aps_state_groupr13_W, F_aps_state_groupr14_W, F_aps_state_groupr15_W, F_aps_state_groupr16_W, F_aps_state_groupr17_W, F_aps_state_groupr18_W, F_aps_state_groupl0_W, F_aps_state_groupr19_W, F_aps_state_groupc_W, e0, e1]
    exact ⟨trivial, trivial, trivial, trivial, trivial, t2⟩
end
end Go.Proofs.Ytdkdifjjpbfohaa
