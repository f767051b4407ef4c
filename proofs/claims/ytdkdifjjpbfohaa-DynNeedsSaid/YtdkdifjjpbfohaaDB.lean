/- The tags that belong together: the loop over the parts. -/
import Derived.Test.YtdkdifjjpbfohaaDA
namespace Go.Proofs.Ytdkdifjjpbfohaa
open Go Fw
set_option linter.unusedSimpArgs false
set_option linter.unusedVariables false
set_option linter.unusedSectionVars false

abbrev i0 : Value := .int .u64 0
abbrev bF : Value := .bool false
/-- What is said of a library, as far as the parts go. -/
def wD (s r ra p rr a i f : List Value) (pr pk : Bool) : List Value :=
  [.string ⟨#[]⟩, .string ⟨#[]⟩, .slice none 0 0, bF, bF, bF] ++ s ++ [i0, i0, i0, i0, i0, i0, i0, i0] ++ r ++ ra ++ p ++ rr ++ a ++ [.bool pr, .bool pk] ++ i ++ f
abbrev ptrA (a off : Nat) : Value := .pointer (some ⟨a, off, none⟩)
abbrev blk (u : Nat) (cs : List Value) : Entry := ⟨0, .cells false u cs⟩
structure WI (H0 h : Heap) (L kd : Nat) (m : List (Int × Int)) (nd : Value) (D P O : List Value) : Prop where
  tb : TB h L m nd
  d : h[kd]? = some (blk 40 D)
  p : h[H0.length]? = some (blk 3 P)
  o : h[H0.length + 1]? = some (blk 3 O)
  dl : D.length = 40
  pl : P.length = 3
  ol : O.length = 3
  hl : H0.length + 2 ≤ h.length
  old : ∀ q, q < H0.length → q ≠ kd → h[q]? = H0[q]?
theorem spl_len : ∀ (vs cs : List Value) (off : Nat), (spl cs off vs).length = cs.length
  | [], _, _ => rfl
  | v :: vs, cs, off => by rw [spl, spl_len vs, List.length_set]
section
variable {H0 h : Heap} {L kd : Nat} {m : List (Int × Int)} {nd : Value} {D P O : List Value} (hL : L + 1 < H0.length) (hk : kd < H0.length) (hk1 : kd ≠ L) (hk2 : kd ≠ L + 1)
include hL hk hk1 hk2
theorem WI.setD (w : WI H0 h L kd m nd D P O) (e : Entry) (off : Nat) (vs : List Value) : WI H0 ((h ++ [e]).set kd (blk 40 (spl D off vs))) L kd m nd (spl D off vs) P O := by
  have hl := w.hl
  refine ⟨(w.tb.app _).set hk1 hk2 _, ?_, ?_, ?_, by rw [spl_len]; exact w.dl, w.pl, w.ol, by rw [List.length_set, List.length_append]; omega, fun q hq hne => ?_⟩
  · rw [List.getElem?_set_self (by rw [List.length_append]; omega)]
  · rw [List.getElem?_set_ne (by omega), List.getElem?_append_left (by omega)]; exact w.p
  · rw [List.getElem?_set_ne (by omega), List.getElem?_append_left (by omega)]; exact w.o
  · rw [List.getElem?_set_ne (fun he => hne he.symm), List.getElem?_append_left (by omega)]; exact w.old q hq hne
theorem WI.setP (w : WI H0 h L kd m nd D P O) (e : Entry) (off : Nat) (vs : List Value) : WI H0 ((h ++ [e]).set H0.length (blk 3 (spl P off vs))) L kd m nd D (spl P off vs) O := by
  have hl := w.hl
  refine ⟨(w.tb.app _).set (by omega) (by omega) _, ?_, ?_, ?_, w.dl, by rw [spl_len]; exact w.pl, w.ol, by rw [List.length_set, List.length_append]; omega, fun q hq hne => ?_⟩
  · rw [List.getElem?_set_ne (by omega), List.getElem?_append_left (by omega)]; exact w.d
  · rw [List.getElem?_set_self (by rw [List.length_append]; omega)]
  · rw [List.getElem?_set_ne (by omega), List.getElem?_append_left (by omega)]; exact w.o
  · rw [List.getElem?_set_ne (by omega), List.getElem?_append_left (by omega)]; exact w.old q hq hne
theorem WI.setO (w : WI H0 h L kd m nd D P O) (e : Entry) (off : Nat) (vs : List Value) : WI H0 ((h ++ [e]).set (H0.length + 1) (blk 3 (spl O off vs))) L kd m nd D P (spl O off vs) := by
  have hl := w.hl
  refine ⟨(w.tb.app _).set (by omega) (by omega) _, ?_, ?_, ?_, w.dl, w.pl, by rw [spl_len]; exact w.ol, by rw [List.length_set, List.length_append]; omega, fun q hq hne => ?_⟩
  · rw [List.getElem?_set_ne (by omega), List.getElem?_append_left (by omega)]; exact w.d
  · rw [List.getElem?_set_ne (by omega), List.getElem?_append_left (by omega)]; exact w.p
  · rw [List.getElem?_set_self (by rw [List.length_append]; omega)]
  · rw [List.getElem?_set_ne (by omega), List.getElem?_append_left (by omega)]; exact w.old q hq hne
end
/-- What the loop keeps. -/
structure WE (e : Env) (L kd kp : Nat) (w : Value) (j : Nat) : Prop where
  e0 : e 0 = ptrT L
  e1 : e 1 = ptrA kd 0
  e5 : e 5 = ptrA kp 0
  e6 : e 6 = ptrA (kp + 1) 0
  e42 : e 42 = w
  e43 : e 43 = .int .i64 9
  e44 : e 44 = .int .i64 j
theorem whole_step {T : Tab} (h0 : T 58 = some F_dyn_table_has) (h1 : T 67 = some F_dyn_table_area) {L kd kp : Nat} {m : List (Int × Int)} {nd : Value} {w p : Value} {x y : Int} {a off u j : Nat} {cs : List Value} {env : Env} {h : Heap} {Q : Post}
    (he : WE env L kd kp w j) (hj : j < 9) (hT : TB h L m nd) (ha : h[a]? = some (blk u cs)) (hof : off + 3 ≤ cs.length) (n1 : a ≠ L) (n2 : a ≠ L + 1)
    (hx : ∀ H, ixaI H 3 w (.int .i64 j) = some (p, H)) (hld : ∀ H, loadNI H 3 p = some (.agg #[.int .u64 x, .int .u64 y, ptrA a off], H))
    (hF : ∀ e, e 4 = .bool false → Q .ret e ((h ++ [blk 3 [.int .u64 x, .int .u64 y, ptrA a off]]).set a (blk u (spl cs off (arC m x y)))))
    (hN : hasM m x = hasM m y → ∀ e, WE e L kd kp w (j + 1) → W T (.loop F_dyn_table_wholel0) e ((h ++ [blk 3 [.int .u64 x, .int .u64 y, ptrA a off]]).set a (blk u (spl cs off (arC m x y)))) Q) :
    W T (.loop F_dyn_table_wholel0) env h Q := by
  obtain ⟨e0, e1, e5, e6, e42, e43, e44⟩ := he
  have hT1 := hT.app [blk 3 [.int .u64 x, .int .u64 y, ptrA a off]]
  have ha1 : (h ++ [blk 3 [.int .u64 x, .int .u64 y, ptrA a off]])[a]? = some (blk u cs) := by
    rw [List.getElem?_append_left (List.getElem?_eq_some_iff.1 ha).1]; exact ha
  have c1 := ev_area (T := T) hT1 h0 h1 x y ha1 hof n1 n2
  have q : ((j : Int) < 9) := by omega
  have w2 : IntKind.i64.wrap ((j : Int) + 1) = ((j + 1 : Nat) : Int) := by rw [wrapI64 (by omega) (by omega)]; rfl
  rw [w_loop]
  by_cases hb : hasM m x = hasM m y
  · have hbe : (hasM m x == hasM m y) = true := by rw [hb]; exact beq_self_eq_true _
    rw [hbe] at c1
    simp only [fws, cond_true, cond_false, if_true, if_false, unV, isNil, optI, iV, stepI, evalR, reduceIte, reduceCtorEq, Nat.reduceEqDiff, Int.reduceLT, Int.reduceLE, Int.reduceToNat, Nat.reduceLT, Nat.reduceLeDiff, Int.reduceEq, Int.reduceNeg, IntKind.bits, Nat.reduceAdd, Nat.reduceMul, Nat.reducePow, Int.reducePow, ini, fwh, lk, cellsAt, tagOf, spotOf, rdN, spl, fillL, zr, fwi, F_dyn_table_wholer0_W, F_dyn_table_wholer1_W, F_dyn_table_wholer2_W, F_dyn_table_wholer3_W, F_dyn_table_wholer4_W, F_dyn_table_wholer5_W, F_dyn_table_wholer6_W, F_dyn_table_wholer7_W, F_dyn_table_wholel0_W, F_dyn_table_wholer8_W, F_dyn_table_wholer8_g2, F_dyn_table_wholer8_g6, F_dyn_table_wholer8_g14, F_dyn_table_wholer8_g19, F_dyn_table_wholer8_g23, F_dyn_table_wholer9_W, F_dyn_table_wholer10_W, F_dyn_table_wholer11_W, F_dyn_table_wholer12_W, F_dyn_table_wholer13_W, F_dyn_table_wholer14_g8, F_dyn_table_wholer14_g14, F_dyn_table_wholer14_g18, F_dyn_table_wholer14_W, F_dyn_table_wholer14_len, F_dyn_table_wholer14_i4, F_dyn_table_wholer15_W, F_dyn_table_wholer16_W, F_dyn_table_wholer16_g6, F_dyn_table_wholer17_W, F_dyn_table_wholer17_g5, F_dyn_table_wholer18_W, F_dyn_table_wholer19_W, F_dyn_table_wholer19_g2, F_dyn_table_wholer19_g6, F_dyn_table_wholer19_g10, F_dyn_table_wholec_W, e0, e1, e5, e6, e42, e43, e44, q, hx, hld, Ev_det c1, w2]
    refine hN hb _ ⟨?_, ?_, ?_, ?_, ?_, ?_, ?_⟩
    all_goals (first | assumption | rfl)
  · have hbe : (hasM m x == hasM m y) = false := by simpa using hb
    rw [hbe] at c1
    simp only [fws, cond_true, cond_false, if_true, if_false, unV, isNil, optI, iV, stepI, evalR, reduceIte, reduceCtorEq, Nat.reduceEqDiff, Int.reduceLT, Int.reduceLE, Int.reduceToNat, Nat.reduceLT, Nat.reduceLeDiff, Int.reduceEq, Int.reduceNeg, IntKind.bits, Nat.reduceAdd, Nat.reduceMul, Nat.reducePow, Int.reducePow, ini, fwh, lk, cellsAt, tagOf, spotOf, rdN, spl, fillL, zr, fwi, F_dyn_table_wholer0_W, F_dyn_table_wholer1_W, F_dyn_table_wholer2_W, F_dyn_table_wholer3_W, F_dyn_table_wholer4_W, F_dyn_table_wholer5_W, F_dyn_table_wholer6_W, F_dyn_table_wholer7_W, F_dyn_table_wholel0_W, F_dyn_table_wholer8_W, F_dyn_table_wholer8_g2, F_dyn_table_wholer8_g6, F_dyn_table_wholer8_g14, F_dyn_table_wholer8_g19, F_dyn_table_wholer8_g23, F_dyn_table_wholer9_W, F_dyn_table_wholer10_W, F_dyn_table_wholer11_W, F_dyn_table_wholer12_W, F_dyn_table_wholer13_W, F_dyn_table_wholer14_g8, F_dyn_table_wholer14_g14, F_dyn_table_wholer14_g18, F_dyn_table_wholer14_W, F_dyn_table_wholer14_len, F_dyn_table_wholer14_i4, F_dyn_table_wholer15_W, F_dyn_table_wholer16_W, F_dyn_table_wholer16_g6, F_dyn_table_wholer17_W, F_dyn_table_wholer17_g5, F_dyn_table_wholer18_W, F_dyn_table_wholer19_W, F_dyn_table_wholer19_g2, F_dyn_table_wholer19_g6, F_dyn_table_wholer19_g10, F_dyn_table_wholec_W, e0, e1, e5, e6, e42, e43, e44, q, hx, hld, Ev_det c1, w2]
    exact hF _ rfl
end Go.Proofs.Ytdkdifjjpbfohaa
/- The tags that belong together: the loop, at work. -/
namespace Go.Proofs.Ytdkdifjjpbfohaa
open Go Fw
set_option linter.unusedSimpArgs false
set_option linter.unusedVariables false
set_option linter.unusedSectionVars false

def wW (kd kp : Nat) : Value := immV 9 [.int .u64 5, .int .u64 10, ptrA kd 6, .int .u64 17, .int .u64 18, ptrA kd 17, .int .u64 7, .int .u64 8, ptrA kd 20, .int .u64 23, .int .u64 2, ptrA kd 23, .int .u64 36, .int .u64 35, ptrA kd 26, .int .u64 1610612751, .int .u64 1610612752, ptrA kp 0, .int .u64 1610612753, .int .u64 1610612754, ptrA (kp + 1) 0, .int .u64 25, .int .u64 27, ptrA kd 34, .int .u64 26, .int .u64 28, ptrA kd 37]
abbrev ar0 : List Value := [bF, i0, i0]
def wZ : List Value := wD ar0 ar0 ar0 ar0 ar0 ar0 ar0 ar0 false false
/-- The parts, as the tags tell them. -/
def wL (m : List (Int × Int)) (pa : List Value) (pr pk : Bool) : List Value := wD (arC m 5 10) (arC m 17 18) (arC m 7 8) (arC m 23 2) (arC m 36 35) pa (arC m 25 27) (arC m 26 28) pr pk
def pairs (m : List (Int × Int)) : Prop := hasM m 5 = hasM m 10 ∧ hasM m 17 = hasM m 18 ∧ hasM m 7 = hasM m 8 ∧ hasM m 23 = hasM m 2 ∧ hasM m 36 = hasM m 35 ∧ hasM m 1610612751 = hasM m 1610612752 ∧ hasM m 1610612753 = hasM m 1610612754
theorem wL_eq (m : List (Int × Int)) : (spl (spl (spl (spl (spl (spl (spl wZ 6 (arC m 5 10)) 17 (arC m 17 18)) 20 (arC m 7 8)) 23 (arC m 23 2)) 26 (arC m 36 35)) 34 (arC m 25 27)) 37 (arC m 26 28)) = wL m ar0 false false := by
  simp only [wZ, wL, wD, arC, spl, List.cons_append, List.nil_append, List.set_cons_succ, List.set_cons_zero, ar0]
theorem arP_eq (m : List (Int × Int)) (x y : Int) : spl ar0 0 (arC m x y) = arC m x y := rfl
theorem whole_end {T : Tab} {H0 h : Heap} {L kd : Nat} {m : List (Int × Int)} {nd : Value} {D P O : List Value} {env : Env} {w : Value} (w9 : WI H0 h L kd m nd D P O) (he9 : WE env L kd H0.length w 9) (hp : pairs m) :
    W T (.loop F_dyn_table_wholel0) env h fun x e h' => (∀ q, q < H0.length → q ≠ kd → h'[q]? = H0[q]?) ∧ H0.length ≤ h'.length ∧ ((x = .ret ∧ e 4 = bF) ∨ (x = .exit 0 ∧ WE e L kd H0.length w 9 ∧ pairs m ∧ WI H0 h' L kd m nd D P O)) := by
  have q : ¬ ((9 : Int) < 9) := by decide
  obtain ⟨f0, f1, f2, f3, f4, f5, f6⟩ := he9
  have e44 : env 44 = .int .i64 9 := f6
  rw [w_loop]
  simp only [fws, cond_true, cond_false, if_true, if_false, unV, isNil, optI, iV, stepI, evalR, reduceIte, reduceCtorEq, Nat.reduceEqDiff, Int.reduceLT, Int.reduceLE, Int.reduceToNat, Nat.reduceLT, Nat.reduceLeDiff, Int.reduceEq, Int.reduceNeg, IntKind.bits, Nat.reduceAdd, Nat.reduceMul, Nat.reducePow, Int.reducePow, ini, fwh, lk, cellsAt, tagOf, spotOf, rdN, spl, fillL, zr, fwi, F_dyn_table_wholer0_W, F_dyn_table_wholer1_W, F_dyn_table_wholer2_W, F_dyn_table_wholer3_W, F_dyn_table_wholer4_W, F_dyn_table_wholer5_W, F_dyn_table_wholer6_W, F_dyn_table_wholer7_W, F_dyn_table_wholel0_W, F_dyn_table_wholer8_W, F_dyn_table_wholer8_g2, F_dyn_table_wholer8_g6, F_dyn_table_wholer8_g14, F_dyn_table_wholer8_g19, F_dyn_table_wholer8_g23, F_dyn_table_wholer9_W, F_dyn_table_wholer10_W, F_dyn_table_wholer11_W, F_dyn_table_wholer12_W, F_dyn_table_wholer13_W, F_dyn_table_wholer14_g8, F_dyn_table_wholer14_g14, F_dyn_table_wholer14_g18, F_dyn_table_wholer14_W, F_dyn_table_wholer14_len, F_dyn_table_wholer14_i4, F_dyn_table_wholer15_W, F_dyn_table_wholer16_W, F_dyn_table_wholer16_g6, F_dyn_table_wholer17_W, F_dyn_table_wholer17_g5, F_dyn_table_wholer18_W, F_dyn_table_wholer19_W, F_dyn_table_wholer19_g2, F_dyn_table_wholer19_g6, F_dyn_table_wholer19_g10, F_dyn_table_wholec_W, f5, e44, q]
  exact ⟨w9.old, by have := w9.hl; omega, .inr ⟨trivial, ⟨f0, f1, f2, f3, f4, f5, f6⟩, hp, w9⟩⟩
theorem whole_loop {T : Tab} (h0 : T 58 = some F_dyn_table_has) (h1 : T 67 = some F_dyn_table_area) {H0 h : Heap} {L kd : Nat} {m : List (Int × Int)} {nd : Value} (hL : L + 1 < H0.length) (hk : kd < H0.length) (hk1 : kd ≠ L) (hk2 : kd ≠ L + 1)
    (w0 : WI H0 h L kd m nd wZ ar0 ar0) {env : Env} (he0 : WE env L kd H0.length (wW kd H0.length) 0) :
    W T (.loop F_dyn_table_wholel0) env h fun x e h' => (∀ q, q < H0.length → q ≠ kd → h'[q]? = H0[q]?) ∧ H0.length ≤ h'.length ∧ ((x = .ret ∧ e 4 = bF) ∨ (x = .exit 0 ∧ WE e L kd H0.length (wW kd H0.length) 9 ∧ pairs m ∧ WI H0 h' L kd m nd (wL m ar0 false false) (arC m 1610612751 1610612752) (arC m 1610612753 1610612754))) := by
  have w1 := w0.setD hL hk hk1 hk2 (blk 3 [.int .u64 5, .int .u64 10, ptrA kd 6]) 6 (arC m 5 10)
  refine whole_step h0 h1 he0 (by decide) w0.tb w0.d (by rw [w0.dl]; decide) hk1 hk2 (fun _ => rfl) (fun _ => rfl) (fun e g => ⟨w1.old, by have := w1.hl; omega, .inl ⟨rfl, g⟩⟩) fun p1 env1 he1 => ?_
  have w2 := w1.setD hL hk hk1 hk2 (blk 3 [.int .u64 17, .int .u64 18, ptrA kd 17]) 17 (arC m 17 18)
  refine whole_step h0 h1 he1 (by decide) w1.tb w1.d (by rw [w1.dl]; decide) hk1 hk2 (fun _ => rfl) (fun _ => rfl) (fun e g => ⟨w2.old, by have := w2.hl; omega, .inl ⟨rfl, g⟩⟩) fun p2 env2 he2 => ?_
  have w3 := w2.setD hL hk hk1 hk2 (blk 3 [.int .u64 7, .int .u64 8, ptrA kd 20]) 20 (arC m 7 8)
  refine whole_step h0 h1 he2 (by decide) w2.tb w2.d (by rw [w2.dl]; decide) hk1 hk2 (fun _ => rfl) (fun _ => rfl) (fun e g => ⟨w3.old, by have := w3.hl; omega, .inl ⟨rfl, g⟩⟩) fun p3 env3 he3 => ?_
  have w4 := w3.setD hL hk hk1 hk2 (blk 3 [.int .u64 23, .int .u64 2, ptrA kd 23]) 23 (arC m 23 2)
  refine whole_step h0 h1 he3 (by decide) w3.tb w3.d (by rw [w3.dl]; decide) hk1 hk2 (fun _ => rfl) (fun _ => rfl) (fun e g => ⟨w4.old, by have := w4.hl; omega, .inl ⟨rfl, g⟩⟩) fun p4 env4 he4 => ?_
  have w5 := w4.setD hL hk hk1 hk2 (blk 3 [.int .u64 36, .int .u64 35, ptrA kd 26]) 26 (arC m 36 35)
  refine whole_step h0 h1 he4 (by decide) w4.tb w4.d (by rw [w4.dl]; decide) hk1 hk2 (fun _ => rfl) (fun _ => rfl) (fun e g => ⟨w5.old, by have := w5.hl; omega, .inl ⟨rfl, g⟩⟩) fun p5 env5 he5 => ?_
  have w6 := w5.setP hL hk hk1 hk2 (blk 3 [.int .u64 1610612751, .int .u64 1610612752, ptrA H0.length 0]) 0 (arC m 1610612751 1610612752)
  refine whole_step h0 h1 he5 (by decide) w5.tb w5.p (by rw [w5.pl]; decide) (by omega) (by omega) (fun _ => rfl) (fun _ => rfl) (fun e g => ⟨w6.old, by have := w6.hl; omega, .inl ⟨rfl, g⟩⟩) fun p6 env6 he6 => ?_
  have w7 := w6.setO hL hk hk1 hk2 (blk 3 [.int .u64 1610612753, .int .u64 1610612754, ptrA (H0.length + 1) 0]) 0 (arC m 1610612753 1610612754)
  refine whole_step h0 h1 he6 (by decide) w6.tb w6.o (by rw [w6.ol]; decide) (by omega) (by omega) (fun _ => rfl) (fun _ => rfl) (fun e g => ⟨w7.old, by have := w7.hl; omega, .inl ⟨rfl, g⟩⟩) fun p7 env7 he7 => ?_
  have w8 := w7.setD hL hk hk1 hk2 (blk 3 [.int .u64 25, .int .u64 27, ptrA kd 34]) 34 (arC m 25 27)
  refine whole_step h0 h1 he7 (by decide) w7.tb w7.d (by rw [w7.dl]; decide) hk1 hk2 (fun _ => rfl) (fun _ => rfl) (fun e g => ⟨w8.old, by have := w8.hl; omega, .inl ⟨rfl, g⟩⟩) fun p8 env8 he8 => ?_
  have w9 := w8.setD hL hk hk1 hk2 (blk 3 [.int .u64 26, .int .u64 28, ptrA kd 37]) 37 (arC m 26 28)
  refine whole_step h0 h1 he8 (by decide) w8.tb w8.d (by rw [w8.dl]; decide) hk1 hk2 (fun _ => rfl) (fun _ => rfl) (fun e g => ⟨w9.old, by have := w9.hl; omega, .inl ⟨rfl, g⟩⟩) fun p9 env9 he9 => ?_
  refine W.mono (whole_end w9 he9 ⟨p1, p2, p3, p4, p5, p6, p7⟩) fun x e h' ⟨a1, a2, a3⟩ => ⟨a1, a2, ?_⟩
  rcases a3 with a3 | ⟨b1, b2, b3, b4⟩
  · exact .inl a3
  · rw [wL_eq, arP_eq, arP_eq] at b4
    exact .inr ⟨b1, b2, b3, b4⟩
end Go.Proofs.Ytdkdifjjpbfohaa
/- The tags that belong together: the other tests. -/
namespace Go.Proofs.Ytdkdifjjpbfohaa
open Go Fw
set_option linter.unusedSimpArgs false
set_option linter.unusedVariables false
set_option linter.unusedSectionVars false

structure WV (e : Env) (L kd kp : Nat) : Prop where
  e0 : e 0 = ptrT L
  e1 : e 1 = ptrA kd 0
  e5 : e 5 = ptrA kp 0
  e6 : e 6 = ptrA (kp + 1) 0
structure WS (h : Heap) (L kd kp : Nat) (m : List (Int × Int)) (nd : Value) (D : List Value) : Prop where
  tb : TB h L m nd
  d : h[kd]? = some (blk 40 D)
  p : h[kp]? = some (blk 3 (arC m 1610612751 1610612752))
  o : h[kp + 1]? = some (blk 3 (arC m 1610612753 1610612754))
  k1 : kd ≠ L
  k2 : kd ≠ L + 1
  k3 : kd ≠ kp
  k4 : kd ≠ kp + 1
theorem WS.lt {h : Heap} {L kd kp : Nat} {m : List (Int × Int)} {nd : Value} {D : List Value} (w : WS h L kd kp m nd D) : kd < h.length := (List.getElem?_eq_some_iff.1 w.d).1
theorem WS.set {h : Heap} {L kd kp : Nat} {m : List (Int × Int)} {nd : Value} {D : List Value} (w : WS h L kd kp m nd D) (D' : List Value) : WS (h.set kd (blk 40 D')) L kd kp m nd D' :=
  ⟨w.tb.set w.k1 w.k2 _, List.getElem?_set_self w.lt, by rw [List.getElem?_set_ne w.k3]; exact w.p, by rw [List.getElem?_set_ne w.k4]; exact w.o, w.k1, w.k2, w.k3, w.k4⟩
section
variable {T : Tab} (h0 : T 58 = some F_dyn_table_has) {L kd kp : Nat} {m : List (Int × Int)} {nd : Value} {pa : List Value} {pr pk : Bool} {h : Heap} {env : Env} {a0 a1 a2 : Value}
theorem wL_lit : wL m [a0, a1, a2] pr pk = [.string ⟨#[]⟩, .string ⟨#[]⟩, .slice none 0 0, bF, bF, bF, .bool (hasM m 5), .int .u64 (valM m 5), .int .u64 (valM m 10), i0, i0, i0, i0, i0, i0, i0, i0,
    .bool (hasM m 17), .int .u64 (valM m 17), .int .u64 (valM m 18), .bool (hasM m 7), .int .u64 (valM m 7), .int .u64 (valM m 8), .bool (hasM m 23), .int .u64 (valM m 23), .int .u64 (valM m 2), .bool (hasM m 36), .int .u64 (valM m 36), .int .u64 (valM m 35), a0, a1, a2, .bool pr, .bool pk,
    .bool (hasM m 25), .int .u64 (valM m 25), .int .u64 (valM m 27), .bool (hasM m 26), .int .u64 (valM m 26), .int .u64 (valM m 28)] := rfl
variable (he : WV env L kd kp) (w : WS h L kd kp m nd (wL m [a0, a1, a2] pr pk))
include h0 he w
set_option maxHeartbeats 4000000 in
theorem stA : W T (.seq (.reg F_dyn_table_wholer8) (.cond (.t 86) (.seq (.reg F_dyn_table_wholer9) .ret) .skip)) env h fun x e h' => h' = h ∧ ((x = .ret ∧ e 4 = bF) ∨ (x = .normal ∧ WV e L kd kp ∧ hasM m 5 = true)) := by
  obtain ⟨e0, e1, e5, e6⟩ := he
  have hd := w.d
  rw [wL_lit] at hd
  have hp := w.p
  have ho := w.o
  unfold arC at hp ho
  have ch : ∀ k (K : Value → Heap → Prop), Ev T 58 [ptrT L, .int .u64 k] h K ↔ K (.bool (hasM m k)) h := fun k K => Ev_det (ev_has (T := T) w.tb h0 k)
  have rest : hasM m 1610612751 = false ∨ (hasM m 1610612751 = true ∧ hasM m 1610612753 = false) → W T (.seq (.reg F_dyn_table_wholer8) (.cond (.t 86) (.seq (.reg F_dyn_table_wholer9) .ret) .skip)) env h fun x e h' => h' = h ∧ ((x = .ret ∧ e 4 = bF) ∨ (x = .normal ∧ WV e L kd kp ∧ hasM m 5 = true)) := by
    intro hpk
    rcases hpk with b1 | ⟨b1, b2⟩
    · cases b3 : hasM m 5 with
      | false =>
        simp only [b3] at hd
        simp only [fws, cond_true, cond_false, if_true, if_false, unV, isNil, optI, iV, stepI, evalR, reduceIte, reduceCtorEq, Nat.reduceEqDiff, Int.reduceLT, Int.reduceLE, Int.reduceToNat, Nat.reduceLT, Nat.reduceLeDiff, Int.reduceEq, Int.reduceNeg, IntKind.bits, Nat.reduceAdd, Nat.reduceMul, Nat.reducePow, Int.reducePow, ini, fwh, lk, cellsAt, tagOf, spotOf, rdN, spl, fillL, zr, fwi, F_dyn_table_wholer0_W, F_dyn_table_wholer1_W, F_dyn_table_wholer2_W, F_dyn_table_wholer3_W, F_dyn_table_wholer4_W, F_dyn_table_wholer5_W, F_dyn_table_wholer6_W, F_dyn_table_wholer7_W, F_dyn_table_wholel0_W, F_dyn_table_wholer8_W, F_dyn_table_wholer8_g2, F_dyn_table_wholer8_g6, F_dyn_table_wholer8_g14, F_dyn_table_wholer8_g19, F_dyn_table_wholer8_g23, F_dyn_table_wholer9_W, F_dyn_table_wholer10_W, F_dyn_table_wholer11_W, F_dyn_table_wholer12_W, F_dyn_table_wholer13_W, F_dyn_table_wholer14_g8, F_dyn_table_wholer14_g14, F_dyn_table_wholer14_g18, F_dyn_table_wholer14_W, F_dyn_table_wholer14_len, F_dyn_table_wholer14_i4, F_dyn_table_wholer15_W, F_dyn_table_wholer16_W, F_dyn_table_wholer16_g6, F_dyn_table_wholer17_W, F_dyn_table_wholer17_g5, F_dyn_table_wholer18_W, F_dyn_table_wholer19_W, F_dyn_table_wholer19_g2, F_dyn_table_wholer19_g6, F_dyn_table_wholer19_g10, F_dyn_table_wholec_W, e0, e1, e5, e6, hd, hp, ho, ch, b1, b3]
        exact ⟨trivial, .inl ⟨trivial, trivial⟩⟩
      | true =>
        simp only [b3] at hd
        cases b4 : hasM m 6 with
        | false =>
          simp only [fws, cond_true, cond_false, if_true, if_false, unV, isNil, optI, iV, stepI, evalR, reduceIte, reduceCtorEq, Nat.reduceEqDiff, Int.reduceLT, Int.reduceLE, Int.reduceToNat, Nat.reduceLT, Nat.reduceLeDiff, Int.reduceEq, Int.reduceNeg, IntKind.bits, Nat.reduceAdd, Nat.reduceMul, Nat.reducePow, Int.reducePow, ini, fwh, lk, cellsAt, tagOf, spotOf, rdN, spl, fillL, zr, fwi, F_dyn_table_wholer0_W, F_dyn_table_wholer1_W, F_dyn_table_wholer2_W, F_dyn_table_wholer3_W, F_dyn_table_wholer4_W, F_dyn_table_wholer5_W, F_dyn_table_wholer6_W, F_dyn_table_wholer7_W, F_dyn_table_wholel0_W, F_dyn_table_wholer8_W, F_dyn_table_wholer8_g2, F_dyn_table_wholer8_g6, F_dyn_table_wholer8_g14, F_dyn_table_wholer8_g19, F_dyn_table_wholer8_g23, F_dyn_table_wholer9_W, F_dyn_table_wholer10_W, F_dyn_table_wholer11_W, F_dyn_table_wholer12_W, F_dyn_table_wholer13_W, F_dyn_table_wholer14_g8, F_dyn_table_wholer14_g14, F_dyn_table_wholer14_g18, F_dyn_table_wholer14_W, F_dyn_table_wholer14_len, F_dyn_table_wholer14_i4, F_dyn_table_wholer15_W, F_dyn_table_wholer16_W, F_dyn_table_wholer16_g6, F_dyn_table_wholer17_W, F_dyn_table_wholer17_g5, F_dyn_table_wholer18_W, F_dyn_table_wholer19_W, F_dyn_table_wholer19_g2, F_dyn_table_wholer19_g6, F_dyn_table_wholer19_g10, F_dyn_table_wholec_W, e0, e1, e5, e6, hd, hp, ho, ch, b1, b3, b4]
          exact ⟨trivial, .inl ⟨trivial, trivial⟩⟩
        | true =>
          cases b5 : hasM m 4 with
          | true =>
            simp only [fws, cond_true, cond_false, if_true, if_false, unV, isNil, optI, iV, stepI, evalR, reduceIte, reduceCtorEq, Nat.reduceEqDiff, Int.reduceLT, Int.reduceLE, Int.reduceToNat, Nat.reduceLT, Nat.reduceLeDiff, Int.reduceEq, Int.reduceNeg, IntKind.bits, Nat.reduceAdd, Nat.reduceMul, Nat.reducePow, Int.reducePow, ini, fwh, lk, cellsAt, tagOf, spotOf, rdN, spl, fillL, zr, fwi, F_dyn_table_wholer0_W, F_dyn_table_wholer1_W, F_dyn_table_wholer2_W, F_dyn_table_wholer3_W, F_dyn_table_wholer4_W, F_dyn_table_wholer5_W, F_dyn_table_wholer6_W, F_dyn_table_wholer7_W, F_dyn_table_wholel0_W, F_dyn_table_wholer8_W, F_dyn_table_wholer8_g2, F_dyn_table_wholer8_g6, F_dyn_table_wholer8_g14, F_dyn_table_wholer8_g19, F_dyn_table_wholer8_g23, F_dyn_table_wholer9_W, F_dyn_table_wholer10_W, F_dyn_table_wholer11_W, F_dyn_table_wholer12_W, F_dyn_table_wholer13_W, F_dyn_table_wholer14_g8, F_dyn_table_wholer14_g14, F_dyn_table_wholer14_g18, F_dyn_table_wholer14_W, F_dyn_table_wholer14_len, F_dyn_table_wholer14_i4, F_dyn_table_wholer15_W, F_dyn_table_wholer16_W, F_dyn_table_wholer16_g6, F_dyn_table_wholer17_W, F_dyn_table_wholer17_g5, F_dyn_table_wholer18_W, F_dyn_table_wholer19_W, F_dyn_table_wholer19_g2, F_dyn_table_wholer19_g6, F_dyn_table_wholer19_g10, F_dyn_table_wholec_W, e0, e1, e5, e6, hd, hp, ho, ch, b1, b3, b4, b5]
            exact ⟨trivial, .inr ⟨trivial, ⟨e0, e1, e5, e6⟩, trivial⟩⟩
          | false =>
            cases b6 : hasM m 1879047925 with
            | true =>
              simp only [fws, cond_true, cond_false, if_true, if_false, unV, isNil, optI, iV, stepI, evalR, reduceIte, reduceCtorEq, Nat.reduceEqDiff, Int.reduceLT, Int.reduceLE, Int.reduceToNat, Nat.reduceLT, Nat.reduceLeDiff, Int.reduceEq, Int.reduceNeg, IntKind.bits, Nat.reduceAdd, Nat.reduceMul, Nat.reducePow, Int.reducePow, ini, fwh, lk, cellsAt, tagOf, spotOf, rdN, spl, fillL, zr, fwi, F_dyn_table_wholer0_W, F_dyn_table_wholer1_W, F_dyn_table_wholer2_W, F_dyn_table_wholer3_W, F_dyn_table_wholer4_W, F_dyn_table_wholer5_W, F_dyn_table_wholer6_W, F_dyn_table_wholer7_W, F_dyn_table_wholel0_W, F_dyn_table_wholer8_W, F_dyn_table_wholer8_g2, F_dyn_table_wholer8_g6, F_dyn_table_wholer8_g14, F_dyn_table_wholer8_g19, F_dyn_table_wholer8_g23, F_dyn_table_wholer9_W, F_dyn_table_wholer10_W, F_dyn_table_wholer11_W, F_dyn_table_wholer12_W, F_dyn_table_wholer13_W, F_dyn_table_wholer14_g8, F_dyn_table_wholer14_g14, F_dyn_table_wholer14_g18, F_dyn_table_wholer14_W, F_dyn_table_wholer14_len, F_dyn_table_wholer14_i4, F_dyn_table_wholer15_W, F_dyn_table_wholer16_W, F_dyn_table_wholer16_g6, F_dyn_table_wholer17_W, F_dyn_table_wholer17_g5, F_dyn_table_wholer18_W, F_dyn_table_wholer19_W, F_dyn_table_wholer19_g2, F_dyn_table_wholer19_g6, F_dyn_table_wholer19_g10, F_dyn_table_wholec_W, e0, e1, e5, e6, hd, hp, ho, ch, b1, b3, b4, b5, b6]
              exact ⟨trivial, .inr ⟨trivial, ⟨e0, e1, e5, e6⟩, trivial⟩⟩
            | false =>
              simp only [fws, cond_true, cond_false, if_true, if_false, unV, isNil, optI, iV, stepI, evalR, reduceIte, reduceCtorEq, Nat.reduceEqDiff, Int.reduceLT, Int.reduceLE, Int.reduceToNat, Nat.reduceLT, Nat.reduceLeDiff, Int.reduceEq, Int.reduceNeg, IntKind.bits, Nat.reduceAdd, Nat.reduceMul, Nat.reducePow, Int.reducePow, ini, fwh, lk, cellsAt, tagOf, spotOf, rdN, spl, fillL, zr, fwi, F_dyn_table_wholer0_W, F_dyn_table_wholer1_W, F_dyn_table_wholer2_W, F_dyn_table_wholer3_W, F_dyn_table_wholer4_W, F_dyn_table_wholer5_W, F_dyn_table_wholer6_W, F_dyn_table_wholer7_W, F_dyn_table_wholel0_W, F_dyn_table_wholer8_W, F_dyn_table_wholer8_g2, F_dyn_table_wholer8_g6, F_dyn_table_wholer8_g14, F_dyn_table_wholer8_g19, F_dyn_table_wholer8_g23, F_dyn_table_wholer9_W, F_dyn_table_wholer10_W, F_dyn_table_wholer11_W, F_dyn_table_wholer12_W, F_dyn_table_wholer13_W, F_dyn_table_wholer14_g8, F_dyn_table_wholer14_g14, F_dyn_table_wholer14_g18, F_dyn_table_wholer14_W, F_dyn_table_wholer14_len, F_dyn_table_wholer14_i4, F_dyn_table_wholer15_W, F_dyn_table_wholer16_W, F_dyn_table_wholer16_g6, F_dyn_table_wholer17_W, F_dyn_table_wholer17_g5, F_dyn_table_wholer18_W, F_dyn_table_wholer19_W, F_dyn_table_wholer19_g2, F_dyn_table_wholer19_g6, F_dyn_table_wholer19_g10, F_dyn_table_wholec_W, e0, e1, e5, e6, hd, hp, ho, ch, b1, b3, b4, b5, b6]
              exact ⟨trivial, .inl ⟨trivial, trivial⟩⟩
    · cases b3 : hasM m 5 with
      | false =>
        simp only [b3] at hd
        simp only [fws, cond_true, cond_false, if_true, if_false, unV, isNil, optI, iV, stepI, evalR, reduceIte, reduceCtorEq, Nat.reduceEqDiff, Int.reduceLT, Int.reduceLE, Int.reduceToNat, Nat.reduceLT, Nat.reduceLeDiff, Int.reduceEq, Int.reduceNeg, IntKind.bits, Nat.reduceAdd, Nat.reduceMul, Nat.reducePow, Int.reducePow, ini, fwh, lk, cellsAt, tagOf, spotOf, rdN, spl, fillL, zr, fwi, F_dyn_table_wholer0_W, F_dyn_table_wholer1_W, F_dyn_table_wholer2_W, F_dyn_table_wholer3_W, F_dyn_table_wholer4_W, F_dyn_table_wholer5_W, F_dyn_table_wholer6_W, F_dyn_table_wholer7_W, F_dyn_table_wholel0_W, F_dyn_table_wholer8_W, F_dyn_table_wholer8_g2, F_dyn_table_wholer8_g6, F_dyn_table_wholer8_g14, F_dyn_table_wholer8_g19, F_dyn_table_wholer8_g23, F_dyn_table_wholer9_W, F_dyn_table_wholer10_W, F_dyn_table_wholer11_W, F_dyn_table_wholer12_W, F_dyn_table_wholer13_W, F_dyn_table_wholer14_g8, F_dyn_table_wholer14_g14, F_dyn_table_wholer14_g18, F_dyn_table_wholer14_W, F_dyn_table_wholer14_len, F_dyn_table_wholer14_i4, F_dyn_table_wholer15_W, F_dyn_table_wholer16_W, F_dyn_table_wholer16_g6, F_dyn_table_wholer17_W, F_dyn_table_wholer17_g5, F_dyn_table_wholer18_W, F_dyn_table_wholer19_W, F_dyn_table_wholer19_g2, F_dyn_table_wholer19_g6, F_dyn_table_wholer19_g10, F_dyn_table_wholec_W, e0, e1, e5, e6, hd, hp, ho, ch, b1, b2, b3]
        exact ⟨trivial, .inl ⟨trivial, trivial⟩⟩
      | true =>
        simp only [b3] at hd
        cases b4 : hasM m 6 with
        | false =>
          simp only [fws, cond_true, cond_false, if_true, if_false, unV, isNil, optI, iV, stepI, evalR, reduceIte, reduceCtorEq, Nat.reduceEqDiff, Int.reduceLT, Int.reduceLE, Int.reduceToNat, Nat.reduceLT, Nat.reduceLeDiff, Int.reduceEq, Int.reduceNeg, IntKind.bits, Nat.reduceAdd, Nat.reduceMul, Nat.reducePow, Int.reducePow, ini, fwh, lk, cellsAt, tagOf, spotOf, rdN, spl, fillL, zr, fwi, F_dyn_table_wholer0_W, F_dyn_table_wholer1_W, F_dyn_table_wholer2_W, F_dyn_table_wholer3_W, F_dyn_table_wholer4_W, F_dyn_table_wholer5_W, F_dyn_table_wholer6_W, F_dyn_table_wholer7_W, F_dyn_table_wholel0_W, F_dyn_table_wholer8_W, F_dyn_table_wholer8_g2, F_dyn_table_wholer8_g6, F_dyn_table_wholer8_g14, F_dyn_table_wholer8_g19, F_dyn_table_wholer8_g23, F_dyn_table_wholer9_W, F_dyn_table_wholer10_W, F_dyn_table_wholer11_W, F_dyn_table_wholer12_W, F_dyn_table_wholer13_W, F_dyn_table_wholer14_g8, F_dyn_table_wholer14_g14, F_dyn_table_wholer14_g18, F_dyn_table_wholer14_W, F_dyn_table_wholer14_len, F_dyn_table_wholer14_i4, F_dyn_table_wholer15_W, F_dyn_table_wholer16_W, F_dyn_table_wholer16_g6, F_dyn_table_wholer17_W, F_dyn_table_wholer17_g5, F_dyn_table_wholer18_W, F_dyn_table_wholer19_W, F_dyn_table_wholer19_g2, F_dyn_table_wholer19_g6, F_dyn_table_wholer19_g10, F_dyn_table_wholec_W, e0, e1, e5, e6, hd, hp, ho, ch, b1, b2, b3, b4]
          exact ⟨trivial, .inl ⟨trivial, trivial⟩⟩
        | true =>
          cases b5 : hasM m 4 with
          | true =>
            simp only [fws, cond_true, cond_false, if_true, if_false, unV, isNil, optI, iV, stepI, evalR, reduceIte, reduceCtorEq, Nat.reduceEqDiff, Int.reduceLT, Int.reduceLE, Int.reduceToNat, Nat.reduceLT, Nat.reduceLeDiff, Int.reduceEq, Int.reduceNeg, IntKind.bits, Nat.reduceAdd, Nat.reduceMul, Nat.reducePow, Int.reducePow, ini, fwh, lk, cellsAt, tagOf, spotOf, rdN, spl, fillL, zr, fwi, F_dyn_table_wholer0_W, F_dyn_table_wholer1_W, F_dyn_table_wholer2_W, F_dyn_table_wholer3_W, F_dyn_table_wholer4_W, F_dyn_table_wholer5_W, F_dyn_table_wholer6_W, F_dyn_table_wholer7_W, F_dyn_table_wholel0_W, F_dyn_table_wholer8_W, F_dyn_table_wholer8_g2, F_dyn_table_wholer8_g6, F_dyn_table_wholer8_g14, F_dyn_table_wholer8_g19, F_dyn_table_wholer8_g23, F_dyn_table_wholer9_W, F_dyn_table_wholer10_W, F_dyn_table_wholer11_W, F_dyn_table_wholer12_W, F_dyn_table_wholer13_W, F_dyn_table_wholer14_g8, F_dyn_table_wholer14_g14, F_dyn_table_wholer14_g18, F_dyn_table_wholer14_W, F_dyn_table_wholer14_len, F_dyn_table_wholer14_i4, F_dyn_table_wholer15_W, F_dyn_table_wholer16_W, F_dyn_table_wholer16_g6, F_dyn_table_wholer17_W, F_dyn_table_wholer17_g5, F_dyn_table_wholer18_W, F_dyn_table_wholer19_W, F_dyn_table_wholer19_g2, F_dyn_table_wholer19_g6, F_dyn_table_wholer19_g10, F_dyn_table_wholec_W, e0, e1, e5, e6, hd, hp, ho, ch, b1, b2, b3, b4, b5]
            exact ⟨trivial, .inr ⟨trivial, ⟨e0, e1, e5, e6⟩, trivial⟩⟩
          | false =>
            cases b6 : hasM m 1879047925 with
            | true =>
              simp only [fws, cond_true, cond_false, if_true, if_false, unV, isNil, optI, iV, stepI, evalR, reduceIte, reduceCtorEq, Nat.reduceEqDiff, Int.reduceLT, Int.reduceLE, Int.reduceToNat, Nat.reduceLT, Nat.reduceLeDiff, Int.reduceEq, Int.reduceNeg, IntKind.bits, Nat.reduceAdd, Nat.reduceMul, Nat.reducePow, Int.reducePow, ini, fwh, lk, cellsAt, tagOf, spotOf, rdN, spl, fillL, zr, fwi, F_dyn_table_wholer0_W, F_dyn_table_wholer1_W, F_dyn_table_wholer2_W, F_dyn_table_wholer3_W, F_dyn_table_wholer4_W, F_dyn_table_wholer5_W, F_dyn_table_wholer6_W, F_dyn_table_wholer7_W, F_dyn_table_wholel0_W, F_dyn_table_wholer8_W, F_dyn_table_wholer8_g2, F_dyn_table_wholer8_g6, F_dyn_table_wholer8_g14, F_dyn_table_wholer8_g19, F_dyn_table_wholer8_g23, F_dyn_table_wholer9_W, F_dyn_table_wholer10_W, F_dyn_table_wholer11_W, F_dyn_table_wholer12_W, F_dyn_table_wholer13_W, F_dyn_table_wholer14_g8, F_dyn_table_wholer14_g14, F_dyn_table_wholer14_g18, F_dyn_table_wholer14_W, F_dyn_table_wholer14_len, F_dyn_table_wholer14_i4, F_dyn_table_wholer15_W, F_dyn_table_wholer16_W, F_dyn_table_wholer16_g6, F_dyn_table_wholer17_W, F_dyn_table_wholer17_g5, F_dyn_table_wholer18_W, F_dyn_table_wholer19_W, F_dyn_table_wholer19_g2, F_dyn_table_wholer19_g6, F_dyn_table_wholer19_g10, F_dyn_table_wholec_W, e0, e1, e5, e6, hd, hp, ho, ch, b1, b2, b3, b4, b5, b6]
              exact ⟨trivial, .inr ⟨trivial, ⟨e0, e1, e5, e6⟩, trivial⟩⟩
            | false =>
              simp only [fws, cond_true, cond_false, if_true, if_false, unV, isNil, optI, iV, stepI, evalR, reduceIte, reduceCtorEq, Nat.reduceEqDiff, Int.reduceLT, Int.reduceLE, Int.reduceToNat, Nat.reduceLT, Nat.reduceLeDiff, Int.reduceEq, Int.reduceNeg, IntKind.bits, Nat.reduceAdd, Nat.reduceMul, Nat.reducePow, Int.reducePow, ini, fwh, lk, cellsAt, tagOf, spotOf, rdN, spl, fillL, zr, fwi, F_dyn_table_wholer0_W, F_dyn_table_wholer1_W, F_dyn_table_wholer2_W, F_dyn_table_wholer3_W, F_dyn_table_wholer4_W, F_dyn_table_wholer5_W, F_dyn_table_wholer6_W, F_dyn_table_wholer7_W, F_dyn_table_wholel0_W, F_dyn_table_wholer8_W, F_dyn_table_wholer8_g2, F_dyn_table_wholer8_g6, F_dyn_table_wholer8_g14, F_dyn_table_wholer8_g19, F_dyn_table_wholer8_g23, F_dyn_table_wholer9_W, F_dyn_table_wholer10_W, F_dyn_table_wholer11_W, F_dyn_table_wholer12_W, F_dyn_table_wholer13_W, F_dyn_table_wholer14_g8, F_dyn_table_wholer14_g14, F_dyn_table_wholer14_g18, F_dyn_table_wholer14_W, F_dyn_table_wholer14_len, F_dyn_table_wholer14_i4, F_dyn_table_wholer15_W, F_dyn_table_wholer16_W, F_dyn_table_wholer16_g6, F_dyn_table_wholer17_W, F_dyn_table_wholer17_g5, F_dyn_table_wholer18_W, F_dyn_table_wholer19_W, F_dyn_table_wholer19_g2, F_dyn_table_wholer19_g6, F_dyn_table_wholer19_g10, F_dyn_table_wholec_W, e0, e1, e5, e6, hd, hp, ho, ch, b1, b2, b3, b4, b5, b6]
              exact ⟨trivial, .inl ⟨trivial, trivial⟩⟩
  cases b1 : hasM m 1610612751 with
  | false => exact rest (.inl b1)
  | true =>
    cases b2 : hasM m 1610612753 with
    | false => exact rest (.inr ⟨b1, b2⟩)
    | true =>
      simp only [fws, cond_true, cond_false, if_true, if_false, unV, isNil, optI, iV, stepI, evalR, reduceIte, reduceCtorEq, Nat.reduceEqDiff, Int.reduceLT, Int.reduceLE, Int.reduceToNat, Nat.reduceLT, Nat.reduceLeDiff, Int.reduceEq, Int.reduceNeg, IntKind.bits, Nat.reduceAdd, Nat.reduceMul, Nat.reducePow, Int.reducePow, ini, fwh, lk, cellsAt, tagOf, spotOf, rdN, spl, fillL, zr, fwi, F_dyn_table_wholer0_W, F_dyn_table_wholer1_W, F_dyn_table_wholer2_W, F_dyn_table_wholer3_W, F_dyn_table_wholer4_W, F_dyn_table_wholer5_W, F_dyn_table_wholer6_W, F_dyn_table_wholer7_W, F_dyn_table_wholel0_W, F_dyn_table_wholer8_W, F_dyn_table_wholer8_g2, F_dyn_table_wholer8_g6, F_dyn_table_wholer8_g14, F_dyn_table_wholer8_g19, F_dyn_table_wholer8_g23, F_dyn_table_wholer9_W, F_dyn_table_wholer10_W, F_dyn_table_wholer11_W, F_dyn_table_wholer12_W, F_dyn_table_wholer13_W, F_dyn_table_wholer14_g8, F_dyn_table_wholer14_g14, F_dyn_table_wholer14_g18, F_dyn_table_wholer14_W, F_dyn_table_wholer14_len, F_dyn_table_wholer14_i4, F_dyn_table_wholer15_W, F_dyn_table_wholer16_W, F_dyn_table_wholer16_g6, F_dyn_table_wholer17_W, F_dyn_table_wholer17_g5, F_dyn_table_wholer18_W, F_dyn_table_wholer19_W, F_dyn_table_wholer19_g2, F_dyn_table_wholer19_g6, F_dyn_table_wholer19_g10, F_dyn_table_wholec_W, e0, e1, e5, e6, hd, hp, ho, ch, b1, b2]
      exact ⟨trivial, .inl ⟨trivial, trivial⟩⟩
end
end Go.Proofs.Ytdkdifjjpbfohaa
/- The tags that belong together: the tests behind the loop, one by one. -/
namespace Go.Proofs.Ytdkdifjjpbfohaa
open Go Fw
set_option linter.unusedSimpArgs false
set_option linter.unusedVariables false
set_option linter.unusedSectionVars false

theorem bne_tt : (true != true) = false := rfl
theorem bne_tf : (true != false) = true := rfl
theorem bne_ft : (false != true) = true := rfl
theorem bne_ff : (false != false) = false := rfl

section
variable {T : Tab} (h0 : T 58 = some F_dyn_table_has) {L kd kp : Nat} {m : List (Int × Int)} {nd : Value} {h : Heap} {env : Env} {D : List Value}
variable (he : WV env L kd kp) (w : WS h L kd kp m nd D) (hD : D.length = 40)
include he w hD
theorem stB1 : W T (.reg F_dyn_table_wholer10) env h fun x e h' => h' = h.set kd (blk 40 (spl (spl D 29 (arC m 1610612751 1610612752)) 33 [.bool (hasM m 1610612753)])) ∧ x = .normal ∧ WV e L kd kp := by
  obtain ⟨e0, e1, e5, e6⟩ := he
  have hd := w.d
  have hp := w.p
  have ho := w.o
  unfold arC at hp ho ⊢
  have hs := fun X => List.getElem?_set_self (a := X) w.lt
  have b1 : decide (29 + 3 ≤ D.length) = true := by rw [hD]; rfl
  have b2 : decide (33 + 1 ≤ D.length) = true := by rw [hD]; rfl
  simp only [fws, cond_true, cond_false, if_true, if_false, unV, isNil, optI, iV, stepI, evalR, reduceIte, reduceCtorEq, Nat.reduceEqDiff, Int.reduceLT, Int.reduceLE, Int.reduceToNat, Nat.reduceLT, Nat.reduceLeDiff, Int.reduceEq, Int.reduceNeg, IntKind.bits, Nat.reduceAdd, Nat.reduceMul, Nat.reducePow, Int.reducePow, ini, fwh, lk, cellsAt, tagOf, spotOf, rdN, spl, fillL, zr, fwi, F_dyn_table_wholer0_W, F_dyn_table_wholer1_W, F_dyn_table_wholer2_W, F_dyn_table_wholer3_W, F_dyn_table_wholer4_W, F_dyn_table_wholer5_W, F_dyn_table_wholer6_W, F_dyn_table_wholer7_W, F_dyn_table_wholel0_W, F_dyn_table_wholer8_W, F_dyn_table_wholer8_g2, F_dyn_table_wholer8_g6, F_dyn_table_wholer8_g14, F_dyn_table_wholer8_g19, F_dyn_table_wholer8_g23, F_dyn_table_wholer9_W, F_dyn_table_wholer10_W, F_dyn_table_wholer11_W, F_dyn_table_wholer12_W, F_dyn_table_wholer13_W, F_dyn_table_wholer14_g8, F_dyn_table_wholer14_g14, F_dyn_table_wholer14_g18, F_dyn_table_wholer14_W, F_dyn_table_wholer14_len, F_dyn_table_wholer14_i4, F_dyn_table_wholer15_W, F_dyn_table_wholer16_W, F_dyn_table_wholer16_g6, F_dyn_table_wholer17_W, F_dyn_table_wholer17_g5, F_dyn_table_wholer18_W, F_dyn_table_wholer19_W, F_dyn_table_wholer19_g2, F_dyn_table_wholer19_g6, F_dyn_table_wholer19_g10, F_dyn_table_wholec_W, e0, e1, e5, e6, hd, hp, ho, hs, b1, b2, List.set_set, List.length_set]
  exact ⟨trivial, trivial, ⟨e0, e1, e5, e6⟩⟩
theorem stB2 : W T (.seq (.reg F_dyn_table_wholer11) (.cond (.t 97) (.reg F_dyn_table_wholer12) .skip)) env h fun x e h' => h' = (if hasM m 1610612753 then h.set kd (blk 40 (spl D 29 (arC m 1610612753 1610612754))) else h) ∧ x = .normal ∧ WV e L kd kp := by
  obtain ⟨e0, e1, e5, e6⟩ := he
  have hd := w.d
  have hp := w.p
  have ho := w.o
  unfold arC at hp ho ⊢
  have b1 : decide (29 + 3 ≤ D.length) = true := by rw [hD]; rfl
  cases b : hasM m 1610612753 with
  | true =>
    rw [b] at ho
    simp only [fws, cond_true, cond_false, if_true, if_false, unV, isNil, optI, iV, stepI, evalR, reduceIte, reduceCtorEq, Nat.reduceEqDiff, Int.reduceLT, Int.reduceLE, Int.reduceToNat, Nat.reduceLT, Nat.reduceLeDiff, Int.reduceEq, Int.reduceNeg, IntKind.bits, Nat.reduceAdd, Nat.reduceMul, Nat.reducePow, Int.reducePow, ini, fwh, lk, cellsAt, tagOf, spotOf, rdN, spl, fillL, zr, fwi, F_dyn_table_wholer0_W, F_dyn_table_wholer1_W, F_dyn_table_wholer2_W, F_dyn_table_wholer3_W, F_dyn_table_wholer4_W, F_dyn_table_wholer5_W, F_dyn_table_wholer6_W, F_dyn_table_wholer7_W, F_dyn_table_wholel0_W, F_dyn_table_wholer8_W, F_dyn_table_wholer8_g2, F_dyn_table_wholer8_g6, F_dyn_table_wholer8_g14, F_dyn_table_wholer8_g19, F_dyn_table_wholer8_g23, F_dyn_table_wholer9_W, F_dyn_table_wholer10_W, F_dyn_table_wholer11_W, F_dyn_table_wholer12_W, F_dyn_table_wholer13_W, F_dyn_table_wholer14_g8, F_dyn_table_wholer14_g14, F_dyn_table_wholer14_g18, F_dyn_table_wholer14_W, F_dyn_table_wholer14_len, F_dyn_table_wholer14_i4, F_dyn_table_wholer15_W, F_dyn_table_wholer16_W, F_dyn_table_wholer16_g6, F_dyn_table_wholer17_W, F_dyn_table_wholer17_g5, F_dyn_table_wholer18_W, F_dyn_table_wholer19_W, F_dyn_table_wholer19_g2, F_dyn_table_wholer19_g6, F_dyn_table_wholer19_g10, F_dyn_table_wholec_W, e0, e1, e5, e6, hd, hp, ho, b, b1]
    exact ⟨trivial, trivial, ⟨e0, e1, e5, e6⟩⟩
  | false =>
    rw [b] at ho
    simp only [fws, cond_true, cond_false, if_true, if_false, unV, isNil, optI, iV, stepI, evalR, reduceIte, reduceCtorEq, Nat.reduceEqDiff, Int.reduceLT, Int.reduceLE, Int.reduceToNat, Nat.reduceLT, Nat.reduceLeDiff, Int.reduceEq, Int.reduceNeg, IntKind.bits, Nat.reduceAdd, Nat.reduceMul, Nat.reducePow, Int.reducePow, ini, fwh, lk, cellsAt, tagOf, spotOf, rdN, spl, fillL, zr, fwi, F_dyn_table_wholer0_W, F_dyn_table_wholer1_W, F_dyn_table_wholer2_W, F_dyn_table_wholer3_W, F_dyn_table_wholer4_W, F_dyn_table_wholer5_W, F_dyn_table_wholer6_W, F_dyn_table_wholer7_W, F_dyn_table_wholel0_W, F_dyn_table_wholer8_W, F_dyn_table_wholer8_g2, F_dyn_table_wholer8_g6, F_dyn_table_wholer8_g14, F_dyn_table_wholer8_g19, F_dyn_table_wholer8_g23, F_dyn_table_wholer9_W, F_dyn_table_wholer10_W, F_dyn_table_wholer11_W, F_dyn_table_wholer12_W, F_dyn_table_wholer13_W, F_dyn_table_wholer14_g8, F_dyn_table_wholer14_g14, F_dyn_table_wholer14_g18, F_dyn_table_wholer14_W, F_dyn_table_wholer14_len, F_dyn_table_wholer14_i4, F_dyn_table_wholer15_W, F_dyn_table_wholer16_W, F_dyn_table_wholer16_g6, F_dyn_table_wholer17_W, F_dyn_table_wholer17_g5, F_dyn_table_wholer18_W, F_dyn_table_wholer19_W, F_dyn_table_wholer19_g2, F_dyn_table_wholer19_g6, F_dyn_table_wholer19_g10, F_dyn_table_wholec_W, e0, e1, e5, e6, hd, hp, ho, b, b1, Bool.false_eq_true]
    exact ⟨trivial, trivial, ⟨e0, e1, e5, e6⟩⟩
theorem stC0 : W T (.reg F_dyn_table_wholer13) env h fun x e h' => h' = h ∧ x = .normal ∧ WV e L kd kp ∧ e 9 = .int .u64 (valM m 20) := by
  obtain ⟨e0, e1, e5, e6⟩ := he
  have h1 := w.tb.map
  have h2 := w.tb.tbl
  have h3 := fun ok k => lkuI_M h1 ok k
  simp only [fws, cond_true, cond_false, if_true, if_false, unV, isNil, optI, iV, stepI, evalR, reduceIte, reduceCtorEq, Nat.reduceEqDiff, Int.reduceLT, Int.reduceLE, Int.reduceToNat, Nat.reduceLT, Nat.reduceLeDiff, Int.reduceEq, Int.reduceNeg, IntKind.bits, Nat.reduceAdd, Nat.reduceMul, Nat.reducePow, Int.reducePow, ini, fwh, lk, cellsAt, tagOf, spotOf, rdN, spl, fillL, zr, fwi, F_dyn_table_wholer0_W, F_dyn_table_wholer1_W, F_dyn_table_wholer2_W, F_dyn_table_wholer3_W, F_dyn_table_wholer4_W, F_dyn_table_wholer5_W, F_dyn_table_wholer6_W, F_dyn_table_wholer7_W, F_dyn_table_wholel0_W, F_dyn_table_wholer8_W, F_dyn_table_wholer8_g2, F_dyn_table_wholer8_g6, F_dyn_table_wholer8_g14, F_dyn_table_wholer8_g19, F_dyn_table_wholer8_g23, F_dyn_table_wholer9_W, F_dyn_table_wholer10_W, F_dyn_table_wholer11_W, F_dyn_table_wholer12_W, F_dyn_table_wholer13_W, F_dyn_table_wholer14_g8, F_dyn_table_wholer14_g14, F_dyn_table_wholer14_g18, F_dyn_table_wholer14_W, F_dyn_table_wholer14_len, F_dyn_table_wholer14_i4, F_dyn_table_wholer15_W, F_dyn_table_wholer16_W, F_dyn_table_wholer16_g6, F_dyn_table_wholer17_W, F_dyn_table_wholer17_g5, F_dyn_table_wholer18_W, F_dyn_table_wholer19_W, F_dyn_table_wholer19_g2, F_dyn_table_wholer19_g6, F_dyn_table_wholer19_g10, F_dyn_table_wholec_W, e0, e1, e5, e6, h2, h3, okV]
  exact ⟨trivial, trivial, ⟨e0, e1, e5, e6⟩, trivial⟩
theorem stD {tl : List Value} (h23 : D.drop 23 = .bool (hasM m 23) :: tl) (e9 : env 9 = .int .u64 (valM m 20)) : W T (.reg F_dyn_table_wholer16) env h fun x e h' => h' = h.set kd (blk 40 (spl D 32 [.bool (hasM m 23 && decide (valM m 20 = 7))])) ∧ x = .normal ∧ WV e L kd kp := by
  obtain ⟨e0, e1, e5, e6⟩ := he
  have hd := w.d
  have b1 : decide (32 + 1 ≤ D.length) = true := by rw [hD]; rfl
  cases b : hasM m 23 with
  | true =>
    rw [b] at h23
    simp only [fws, cond_true, cond_false, if_true, if_false, unV, isNil, optI, iV, stepI, evalR, reduceIte, reduceCtorEq, Nat.reduceEqDiff, Int.reduceLT, Int.reduceLE, Int.reduceToNat, Nat.reduceLT, Nat.reduceLeDiff, Int.reduceEq, Int.reduceNeg, IntKind.bits, Nat.reduceAdd, Nat.reduceMul, Nat.reducePow, Int.reducePow, ini, fwh, lk, cellsAt, tagOf, spotOf, rdN, spl, fillL, zr, fwi, F_dyn_table_wholer0_W, F_dyn_table_wholer1_W, F_dyn_table_wholer2_W, F_dyn_table_wholer3_W, F_dyn_table_wholer4_W, F_dyn_table_wholer5_W, F_dyn_table_wholer6_W, F_dyn_table_wholer7_W, F_dyn_table_wholel0_W, F_dyn_table_wholer8_W, F_dyn_table_wholer8_g2, F_dyn_table_wholer8_g6, F_dyn_table_wholer8_g14, F_dyn_table_wholer8_g19, F_dyn_table_wholer8_g23, F_dyn_table_wholer9_W, F_dyn_table_wholer10_W, F_dyn_table_wholer11_W, F_dyn_table_wholer12_W, F_dyn_table_wholer13_W, F_dyn_table_wholer14_g8, F_dyn_table_wholer14_g14, F_dyn_table_wholer14_g18, F_dyn_table_wholer14_W, F_dyn_table_wholer14_len, F_dyn_table_wholer14_i4, F_dyn_table_wholer15_W, F_dyn_table_wholer16_W, F_dyn_table_wholer16_g6, F_dyn_table_wholer17_W, F_dyn_table_wholer17_g5, F_dyn_table_wholer18_W, F_dyn_table_wholer19_W, F_dyn_table_wholer19_g2, F_dyn_table_wholer19_g6, F_dyn_table_wholer19_g10, F_dyn_table_wholec_W, e0, e1, e5, e6, e9, hd, h23, b, b1]
    exact ⟨trivial, trivial, ⟨e0, e1, e5, e6⟩⟩
  | false =>
    rw [b] at h23
    simp only [fws, cond_true, cond_false, if_true, if_false, unV, isNil, optI, iV, stepI, evalR, reduceIte, reduceCtorEq, Nat.reduceEqDiff, Int.reduceLT, Int.reduceLE, Int.reduceToNat, Nat.reduceLT, Nat.reduceLeDiff, Int.reduceEq, Int.reduceNeg, IntKind.bits, Nat.reduceAdd, Nat.reduceMul, Nat.reducePow, Int.reducePow, ini, fwh, lk, cellsAt, tagOf, spotOf, rdN, spl, fillL, zr, fwi, F_dyn_table_wholer0_W, F_dyn_table_wholer1_W, F_dyn_table_wholer2_W, F_dyn_table_wholer3_W, F_dyn_table_wholer4_W, F_dyn_table_wholer5_W, F_dyn_table_wholer6_W, F_dyn_table_wholer7_W, F_dyn_table_wholel0_W, F_dyn_table_wholer8_W, F_dyn_table_wholer8_g2, F_dyn_table_wholer8_g6, F_dyn_table_wholer8_g14, F_dyn_table_wholer8_g19, F_dyn_table_wholer8_g23, F_dyn_table_wholer9_W, F_dyn_table_wholer10_W, F_dyn_table_wholer11_W, F_dyn_table_wholer12_W, F_dyn_table_wholer13_W, F_dyn_table_wholer14_g8, F_dyn_table_wholer14_g14, F_dyn_table_wholer14_g18, F_dyn_table_wholer14_W, F_dyn_table_wholer14_len, F_dyn_table_wholer14_i4, F_dyn_table_wholer15_W, F_dyn_table_wholer16_W, F_dyn_table_wholer16_g6, F_dyn_table_wholer17_W, F_dyn_table_wholer17_g5, F_dyn_table_wholer18_W, F_dyn_table_wholer19_W, F_dyn_table_wholer19_g2, F_dyn_table_wholer19_g6, F_dyn_table_wholer19_g10, F_dyn_table_wholec_W, e0, e1, e5, e6, e9, hd, h23, b, b1]
    exact ⟨trivial, trivial, ⟨e0, e1, e5, e6⟩⟩
include h0
theorem stC {tl : List Value} (h23 : D.drop 23 = .bool (hasM m 23) :: tl) (e9 : env 9 = .int .u64 (valM m 20)) : W T (.seq (.dreg F_dyn_table_wholer14 [(4, 7)]) (.cond (.t 129) (.seq (.reg F_dyn_table_wholer15) .ret) .skip)) env h fun x e h' => h' = h ∧ ((x = .ret ∧ e 4 = bF) ∨ (x = .normal ∧ WV e L kd kp ∧ e 9 = .int .u64 (valM m 20))) := by
  obtain ⟨e0, e1, e5, e6⟩ := he
  have hd := w.d
  have ch : ∀ k (K : Value → Heap → Prop), Ev T 58 [ptrT L, .int .u64 k] h K ↔ K (.bool (hasM m k)) h := fun k K => Ev_det (ev_has (T := T) w.tb h0 k)
  cases b : hasM m 23 with
  | true =>
    rw [b] at h23
    cases c : hasM m 20 with
    | true =>
      by_cases d1 : valM m 20 = 7
      · simp only [fws, cond_true, cond_false, if_true, if_false, unV, isNil, optI, iV, stepI, evalR, reduceIte, reduceCtorEq, Nat.reduceEqDiff, Int.reduceLT, Int.reduceLE, Int.reduceToNat, Nat.reduceLT, Nat.reduceLeDiff, Int.reduceEq, Int.reduceNeg, IntKind.bits, Nat.reduceAdd, Nat.reduceMul, Nat.reducePow, Int.reducePow, ini, fwh, lk, cellsAt, tagOf, spotOf, rdN, spl, fillL, zr, fwi, F_dyn_table_wholer0_W, F_dyn_table_wholer1_W, F_dyn_table_wholer2_W, F_dyn_table_wholer3_W, F_dyn_table_wholer4_W, F_dyn_table_wholer5_W, F_dyn_table_wholer6_W, F_dyn_table_wholer7_W, F_dyn_table_wholel0_W, F_dyn_table_wholer8_W, F_dyn_table_wholer8_g2, F_dyn_table_wholer8_g6, F_dyn_table_wholer8_g14, F_dyn_table_wholer8_g19, F_dyn_table_wholer8_g23, F_dyn_table_wholer9_W, F_dyn_table_wholer10_W, F_dyn_table_wholer11_W, F_dyn_table_wholer12_W, F_dyn_table_wholer13_W, F_dyn_table_wholer14_g8, F_dyn_table_wholer14_g14, F_dyn_table_wholer14_g18, F_dyn_table_wholer14_W, F_dyn_table_wholer14_len, F_dyn_table_wholer14_i4, F_dyn_table_wholer15_W, F_dyn_table_wholer16_W, F_dyn_table_wholer16_g6, F_dyn_table_wholer17_W, F_dyn_table_wholer17_g5, F_dyn_table_wholer18_W, F_dyn_table_wholer19_W, F_dyn_table_wholer19_g2, F_dyn_table_wholer19_g6, F_dyn_table_wholer19_g10, F_dyn_table_wholec_W, e0, e1, e5, e6, e9, hd, h23, ch, c, d1]
        refine WR_nilT rfl (by decide) ⟨fun c hc => ?_, ?_⟩
        · simp only [List.mem_cons, List.not_mem_nil, or_false] at hc
          rcases hc with rfl
          intro hy
          simp only [fws, cond_true, cond_false, if_true, if_false, unV, isNil, optI, iV, stepI, evalR, reduceIte, reduceCtorEq, Nat.reduceEqDiff, Int.reduceLT, Int.reduceLE, Int.reduceToNat, Nat.reduceLT, Nat.reduceLeDiff, Int.reduceEq, Int.reduceNeg, IntKind.bits, Nat.reduceAdd, Nat.reduceMul, Nat.reducePow, Int.reducePow, ini, fwh, lk, cellsAt, tagOf, spotOf, rdN, spl, fillL, zr, fwi, F_dyn_table_wholer0_W, F_dyn_table_wholer1_W, F_dyn_table_wholer2_W, F_dyn_table_wholer3_W, F_dyn_table_wholer4_W, F_dyn_table_wholer5_W, F_dyn_table_wholer6_W, F_dyn_table_wholer7_W, F_dyn_table_wholel0_W, F_dyn_table_wholer8_W, F_dyn_table_wholer8_g2, F_dyn_table_wholer8_g6, F_dyn_table_wholer8_g14, F_dyn_table_wholer8_g19, F_dyn_table_wholer8_g23, F_dyn_table_wholer9_W, F_dyn_table_wholer10_W, F_dyn_table_wholer11_W, F_dyn_table_wholer12_W, F_dyn_table_wholer13_W, F_dyn_table_wholer14_g8, F_dyn_table_wholer14_g14, F_dyn_table_wholer14_g18, F_dyn_table_wholer14_W, F_dyn_table_wholer14_len, F_dyn_table_wholer14_i4, F_dyn_table_wholer15_W, F_dyn_table_wholer16_W, F_dyn_table_wholer16_g6, F_dyn_table_wholer17_W, F_dyn_table_wholer17_g5, F_dyn_table_wholer18_W, F_dyn_table_wholer19_W, F_dyn_table_wholer19_g2, F_dyn_table_wholer19_g6, F_dyn_table_wholer19_g10, F_dyn_table_wholec_W, e0, e1, e5, e6, e9, hd, h23]
        · simp only [fws, cond_true, cond_false, if_true, if_false, unV, isNil, optI, iV, stepI, evalR, reduceIte, reduceCtorEq, Nat.reduceEqDiff, Int.reduceLT, Int.reduceLE, Int.reduceToNat, Nat.reduceLT, Nat.reduceLeDiff, Int.reduceEq, Int.reduceNeg, IntKind.bits, Nat.reduceAdd, Nat.reduceMul, Nat.reducePow, Int.reducePow, ini, fwh, lk, cellsAt, tagOf, spotOf, rdN, spl, fillL, zr, fwi, F_dyn_table_wholer0_W, F_dyn_table_wholer1_W, F_dyn_table_wholer2_W, F_dyn_table_wholer3_W, F_dyn_table_wholer4_W, F_dyn_table_wholer5_W, F_dyn_table_wholer6_W, F_dyn_table_wholer7_W, F_dyn_table_wholel0_W, F_dyn_table_wholer8_W, F_dyn_table_wholer8_g2, F_dyn_table_wholer8_g6, F_dyn_table_wholer8_g14, F_dyn_table_wholer8_g19, F_dyn_table_wholer8_g23, F_dyn_table_wholer9_W, F_dyn_table_wholer10_W, F_dyn_table_wholer11_W, F_dyn_table_wholer12_W, F_dyn_table_wholer13_W, F_dyn_table_wholer14_g8, F_dyn_table_wholer14_g14, F_dyn_table_wholer14_g18, F_dyn_table_wholer14_W, F_dyn_table_wholer14_len, F_dyn_table_wholer14_i4, F_dyn_table_wholer15_W, F_dyn_table_wholer16_W, F_dyn_table_wholer16_g6, F_dyn_table_wholer17_W, F_dyn_table_wholer17_g5, F_dyn_table_wholer18_W, F_dyn_table_wholer19_W, F_dyn_table_wholer19_g2, F_dyn_table_wholer19_g6, F_dyn_table_wholer19_g10, F_dyn_table_wholec_W]
          exact ⟨trivial, .inr ⟨trivial, ⟨e0, e1, e5, e6⟩, by first | exact e9 | (rw [← d1]; exact e9)⟩⟩
      · by_cases d2 : valM m 20 = 17
        · simp only [fws, cond_true, cond_false, if_true, if_false, unV, isNil, optI, iV, stepI, evalR, reduceIte, reduceCtorEq, Nat.reduceEqDiff, Int.reduceLT, Int.reduceLE, Int.reduceToNat, Nat.reduceLT, Nat.reduceLeDiff, Int.reduceEq, Int.reduceNeg, IntKind.bits, Nat.reduceAdd, Nat.reduceMul, Nat.reducePow, Int.reducePow, ini, fwh, lk, cellsAt, tagOf, spotOf, rdN, spl, fillL, zr, fwi, F_dyn_table_wholer0_W, F_dyn_table_wholer1_W, F_dyn_table_wholer2_W, F_dyn_table_wholer3_W, F_dyn_table_wholer4_W, F_dyn_table_wholer5_W, F_dyn_table_wholer6_W, F_dyn_table_wholer7_W, F_dyn_table_wholel0_W, F_dyn_table_wholer8_W, F_dyn_table_wholer8_g2, F_dyn_table_wholer8_g6, F_dyn_table_wholer8_g14, F_dyn_table_wholer8_g19, F_dyn_table_wholer8_g23, F_dyn_table_wholer9_W, F_dyn_table_wholer10_W, F_dyn_table_wholer11_W, F_dyn_table_wholer12_W, F_dyn_table_wholer13_W, F_dyn_table_wholer14_g8, F_dyn_table_wholer14_g14, F_dyn_table_wholer14_g18, F_dyn_table_wholer14_W, F_dyn_table_wholer14_len, F_dyn_table_wholer14_i4, F_dyn_table_wholer15_W, F_dyn_table_wholer16_W, F_dyn_table_wholer16_g6, F_dyn_table_wholer17_W, F_dyn_table_wholer17_g5, F_dyn_table_wholer18_W, F_dyn_table_wholer19_W, F_dyn_table_wholer19_g2, F_dyn_table_wholer19_g6, F_dyn_table_wholer19_g10, F_dyn_table_wholec_W, e0, e1, e5, e6, e9, hd, h23, ch, c, d2]
          refine WR_nilT rfl (by decide) ⟨fun c hc => ?_, ?_⟩
          · simp only [List.mem_cons, List.not_mem_nil, or_false] at hc
            rcases hc with rfl
            intro hy
            simp only [fws, cond_true, cond_false, if_true, if_false, unV, isNil, optI, iV, stepI, evalR, reduceIte, reduceCtorEq, Nat.reduceEqDiff, Int.reduceLT, Int.reduceLE, Int.reduceToNat, Nat.reduceLT, Nat.reduceLeDiff, Int.reduceEq, Int.reduceNeg, IntKind.bits, Nat.reduceAdd, Nat.reduceMul, Nat.reducePow, Int.reducePow, ini, fwh, lk, cellsAt, tagOf, spotOf, rdN, spl, fillL, zr, fwi, F_dyn_table_wholer0_W, F_dyn_table_wholer1_W, F_dyn_table_wholer2_W, F_dyn_table_wholer3_W, F_dyn_table_wholer4_W, F_dyn_table_wholer5_W, F_dyn_table_wholer6_W, F_dyn_table_wholer7_W, F_dyn_table_wholel0_W, F_dyn_table_wholer8_W, F_dyn_table_wholer8_g2, F_dyn_table_wholer8_g6, F_dyn_table_wholer8_g14, F_dyn_table_wholer8_g19, F_dyn_table_wholer8_g23, F_dyn_table_wholer9_W, F_dyn_table_wholer10_W, F_dyn_table_wholer11_W, F_dyn_table_wholer12_W, F_dyn_table_wholer13_W, F_dyn_table_wholer14_g8, F_dyn_table_wholer14_g14, F_dyn_table_wholer14_g18, F_dyn_table_wholer14_W, F_dyn_table_wholer14_len, F_dyn_table_wholer14_i4, F_dyn_table_wholer15_W, F_dyn_table_wholer16_W, F_dyn_table_wholer16_g6, F_dyn_table_wholer17_W, F_dyn_table_wholer17_g5, F_dyn_table_wholer18_W, F_dyn_table_wholer19_W, F_dyn_table_wholer19_g2, F_dyn_table_wholer19_g6, F_dyn_table_wholer19_g10, F_dyn_table_wholec_W, e0, e1, e5, e6, e9, hd, h23]
          · simp only [fws, cond_true, cond_false, if_true, if_false, unV, isNil, optI, iV, stepI, evalR, reduceIte, reduceCtorEq, Nat.reduceEqDiff, Int.reduceLT, Int.reduceLE, Int.reduceToNat, Nat.reduceLT, Nat.reduceLeDiff, Int.reduceEq, Int.reduceNeg, IntKind.bits, Nat.reduceAdd, Nat.reduceMul, Nat.reducePow, Int.reducePow, ini, fwh, lk, cellsAt, tagOf, spotOf, rdN, spl, fillL, zr, fwi, F_dyn_table_wholer0_W, F_dyn_table_wholer1_W, F_dyn_table_wholer2_W, F_dyn_table_wholer3_W, F_dyn_table_wholer4_W, F_dyn_table_wholer5_W, F_dyn_table_wholer6_W, F_dyn_table_wholer7_W, F_dyn_table_wholel0_W, F_dyn_table_wholer8_W, F_dyn_table_wholer8_g2, F_dyn_table_wholer8_g6, F_dyn_table_wholer8_g14, F_dyn_table_wholer8_g19, F_dyn_table_wholer8_g23, F_dyn_table_wholer9_W, F_dyn_table_wholer10_W, F_dyn_table_wholer11_W, F_dyn_table_wholer12_W, F_dyn_table_wholer13_W, F_dyn_table_wholer14_g8, F_dyn_table_wholer14_g14, F_dyn_table_wholer14_g18, F_dyn_table_wholer14_W, F_dyn_table_wholer14_len, F_dyn_table_wholer14_i4, F_dyn_table_wholer15_W, F_dyn_table_wholer16_W, F_dyn_table_wholer16_g6, F_dyn_table_wholer17_W, F_dyn_table_wholer17_g5, F_dyn_table_wholer18_W, F_dyn_table_wholer19_W, F_dyn_table_wholer19_g2, F_dyn_table_wholer19_g6, F_dyn_table_wholer19_g10, F_dyn_table_wholec_W]
            exact ⟨trivial, .inr ⟨trivial, ⟨e0, e1, e5, e6⟩, by first | exact e9 | (rw [← d2]; exact e9)⟩⟩
        · simp only [fws, cond_true, cond_false, if_true, if_false, unV, isNil, optI, iV, stepI, evalR, reduceIte, reduceCtorEq, Nat.reduceEqDiff, Int.reduceLT, Int.reduceLE, Int.reduceToNat, Nat.reduceLT, Nat.reduceLeDiff, Int.reduceEq, Int.reduceNeg, IntKind.bits, Nat.reduceAdd, Nat.reduceMul, Nat.reducePow, Int.reducePow, ini, fwh, lk, cellsAt, tagOf, spotOf, rdN, spl, fillL, zr, fwi, F_dyn_table_wholer0_W, F_dyn_table_wholer1_W, F_dyn_table_wholer2_W, F_dyn_table_wholer3_W, F_dyn_table_wholer4_W, F_dyn_table_wholer5_W, F_dyn_table_wholer6_W, F_dyn_table_wholer7_W, F_dyn_table_wholel0_W, F_dyn_table_wholer8_W, F_dyn_table_wholer8_g2, F_dyn_table_wholer8_g6, F_dyn_table_wholer8_g14, F_dyn_table_wholer8_g19, F_dyn_table_wholer8_g23, F_dyn_table_wholer9_W, F_dyn_table_wholer10_W, F_dyn_table_wholer11_W, F_dyn_table_wholer12_W, F_dyn_table_wholer13_W, F_dyn_table_wholer14_g8, F_dyn_table_wholer14_g14, F_dyn_table_wholer14_g18, F_dyn_table_wholer14_W, F_dyn_table_wholer14_len, F_dyn_table_wholer14_i4, F_dyn_table_wholer15_W, F_dyn_table_wholer16_W, F_dyn_table_wholer16_g6, F_dyn_table_wholer17_W, F_dyn_table_wholer17_g5, F_dyn_table_wholer18_W, F_dyn_table_wholer19_W, F_dyn_table_wholer19_g2, F_dyn_table_wholer19_g6, F_dyn_table_wholer19_g10, F_dyn_table_wholec_W, e0, e1, e5, e6, e9, hd, h23, ch, c, d1, d2]
          refine WR_nilT rfl (by decide) ⟨fun c hc => ?_, ?_⟩
          · simp only [List.mem_cons, List.not_mem_nil, or_false] at hc
            rcases hc with rfl
            intro hy
            simp only [fws, cond_true, cond_false, if_true, if_false, unV, isNil, optI, iV, stepI, evalR, reduceIte, reduceCtorEq, Nat.reduceEqDiff, Int.reduceLT, Int.reduceLE, Int.reduceToNat, Nat.reduceLT, Nat.reduceLeDiff, Int.reduceEq, Int.reduceNeg, IntKind.bits, Nat.reduceAdd, Nat.reduceMul, Nat.reducePow, Int.reducePow, ini, fwh, lk, cellsAt, tagOf, spotOf, rdN, spl, fillL, zr, fwi, F_dyn_table_wholer0_W, F_dyn_table_wholer1_W, F_dyn_table_wholer2_W, F_dyn_table_wholer3_W, F_dyn_table_wholer4_W, F_dyn_table_wholer5_W, F_dyn_table_wholer6_W, F_dyn_table_wholer7_W, F_dyn_table_wholel0_W, F_dyn_table_wholer8_W, F_dyn_table_wholer8_g2, F_dyn_table_wholer8_g6, F_dyn_table_wholer8_g14, F_dyn_table_wholer8_g19, F_dyn_table_wholer8_g23, F_dyn_table_wholer9_W, F_dyn_table_wholer10_W, F_dyn_table_wholer11_W, F_dyn_table_wholer12_W, F_dyn_table_wholer13_W, F_dyn_table_wholer14_g8, F_dyn_table_wholer14_g14, F_dyn_table_wholer14_g18, F_dyn_table_wholer14_W, F_dyn_table_wholer14_len, F_dyn_table_wholer14_i4, F_dyn_table_wholer15_W, F_dyn_table_wholer16_W, F_dyn_table_wholer16_g6, F_dyn_table_wholer17_W, F_dyn_table_wholer17_g5, F_dyn_table_wholer18_W, F_dyn_table_wholer19_W, F_dyn_table_wholer19_g2, F_dyn_table_wholer19_g6, F_dyn_table_wholer19_g10, F_dyn_table_wholec_W, e0, e1, e5, e6, e9, hd, h23]
          · simp only [fws, cond_true, cond_false, if_true, if_false, unV, isNil, optI, iV, stepI, evalR, reduceIte, reduceCtorEq, Nat.reduceEqDiff, Int.reduceLT, Int.reduceLE, Int.reduceToNat, Nat.reduceLT, Nat.reduceLeDiff, Int.reduceEq, Int.reduceNeg, IntKind.bits, Nat.reduceAdd, Nat.reduceMul, Nat.reducePow, Int.reducePow, ini, fwh, lk, cellsAt, tagOf, spotOf, rdN, spl, fillL, zr, fwi, F_dyn_table_wholer0_W, F_dyn_table_wholer1_W, F_dyn_table_wholer2_W, F_dyn_table_wholer3_W, F_dyn_table_wholer4_W, F_dyn_table_wholer5_W, F_dyn_table_wholer6_W, F_dyn_table_wholer7_W, F_dyn_table_wholel0_W, F_dyn_table_wholer8_W, F_dyn_table_wholer8_g2, F_dyn_table_wholer8_g6, F_dyn_table_wholer8_g14, F_dyn_table_wholer8_g19, F_dyn_table_wholer8_g23, F_dyn_table_wholer9_W, F_dyn_table_wholer10_W, F_dyn_table_wholer11_W, F_dyn_table_wholer12_W, F_dyn_table_wholer13_W, F_dyn_table_wholer14_g8, F_dyn_table_wholer14_g14, F_dyn_table_wholer14_g18, F_dyn_table_wholer14_W, F_dyn_table_wholer14_len, F_dyn_table_wholer14_i4, F_dyn_table_wholer15_W, F_dyn_table_wholer16_W, F_dyn_table_wholer16_g6, F_dyn_table_wholer17_W, F_dyn_table_wholer17_g5, F_dyn_table_wholer18_W, F_dyn_table_wholer19_W, F_dyn_table_wholer19_g2, F_dyn_table_wholer19_g6, F_dyn_table_wholer19_g10, F_dyn_table_wholec_W]
            exact ⟨trivial, .inl ⟨trivial, trivial⟩⟩
    | false =>
      simp only [fws, cond_true, cond_false, if_true, if_false, unV, isNil, optI, iV, stepI, evalR, reduceIte, reduceCtorEq, Nat.reduceEqDiff, Int.reduceLT, Int.reduceLE, Int.reduceToNat, Nat.reduceLT, Nat.reduceLeDiff, Int.reduceEq, Int.reduceNeg, IntKind.bits, Nat.reduceAdd, Nat.reduceMul, Nat.reducePow, Int.reducePow, ini, fwh, lk, cellsAt, tagOf, spotOf, rdN, spl, fillL, zr, fwi, F_dyn_table_wholer0_W, F_dyn_table_wholer1_W, F_dyn_table_wholer2_W, F_dyn_table_wholer3_W, F_dyn_table_wholer4_W, F_dyn_table_wholer5_W, F_dyn_table_wholer6_W, F_dyn_table_wholer7_W, F_dyn_table_wholel0_W, F_dyn_table_wholer8_W, F_dyn_table_wholer8_g2, F_dyn_table_wholer8_g6, F_dyn_table_wholer8_g14, F_dyn_table_wholer8_g19, F_dyn_table_wholer8_g23, F_dyn_table_wholer9_W, F_dyn_table_wholer10_W, F_dyn_table_wholer11_W, F_dyn_table_wholer12_W, F_dyn_table_wholer13_W, F_dyn_table_wholer14_g8, F_dyn_table_wholer14_g14, F_dyn_table_wholer14_g18, F_dyn_table_wholer14_W, F_dyn_table_wholer14_len, F_dyn_table_wholer14_i4, F_dyn_table_wholer15_W, F_dyn_table_wholer16_W, F_dyn_table_wholer16_g6, F_dyn_table_wholer17_W, F_dyn_table_wholer17_g5, F_dyn_table_wholer18_W, F_dyn_table_wholer19_W, F_dyn_table_wholer19_g2, F_dyn_table_wholer19_g6, F_dyn_table_wholer19_g10, F_dyn_table_wholec_W, e0, e1, e5, e6, e9, hd, h23, ch, c, bne_tt, bne_tf, bne_ft, bne_ff]
      refine WR_nilT rfl (by decide) ⟨fun c hc => ?_, ?_⟩
      · simp only [List.mem_cons, List.not_mem_nil, or_false] at hc
        rcases hc with rfl
        intro hy
        simp only [fws, cond_true, cond_false, if_true, if_false, unV, isNil, optI, iV, stepI, evalR, reduceIte, reduceCtorEq, Nat.reduceEqDiff, Int.reduceLT, Int.reduceLE, Int.reduceToNat, Nat.reduceLT, Nat.reduceLeDiff, Int.reduceEq, Int.reduceNeg, IntKind.bits, Nat.reduceAdd, Nat.reduceMul, Nat.reducePow, Int.reducePow, ini, fwh, lk, cellsAt, tagOf, spotOf, rdN, spl, fillL, zr, fwi, F_dyn_table_wholer0_W, F_dyn_table_wholer1_W, F_dyn_table_wholer2_W, F_dyn_table_wholer3_W, F_dyn_table_wholer4_W, F_dyn_table_wholer5_W, F_dyn_table_wholer6_W, F_dyn_table_wholer7_W, F_dyn_table_wholel0_W, F_dyn_table_wholer8_W, F_dyn_table_wholer8_g2, F_dyn_table_wholer8_g6, F_dyn_table_wholer8_g14, F_dyn_table_wholer8_g19, F_dyn_table_wholer8_g23, F_dyn_table_wholer9_W, F_dyn_table_wholer10_W, F_dyn_table_wholer11_W, F_dyn_table_wholer12_W, F_dyn_table_wholer13_W, F_dyn_table_wholer14_g8, F_dyn_table_wholer14_g14, F_dyn_table_wholer14_g18, F_dyn_table_wholer14_W, F_dyn_table_wholer14_len, F_dyn_table_wholer14_i4, F_dyn_table_wholer15_W, F_dyn_table_wholer16_W, F_dyn_table_wholer16_g6, F_dyn_table_wholer17_W, F_dyn_table_wholer17_g5, F_dyn_table_wholer18_W, F_dyn_table_wholer19_W, F_dyn_table_wholer19_g2, F_dyn_table_wholer19_g6, F_dyn_table_wholer19_g10, F_dyn_table_wholec_W, e0, e1, e5, e6, e9, hd, h23]
      · simp only [fws, cond_true, cond_false, if_true, if_false, unV, isNil, optI, iV, stepI, evalR, reduceIte, reduceCtorEq, Nat.reduceEqDiff, Int.reduceLT, Int.reduceLE, Int.reduceToNat, Nat.reduceLT, Nat.reduceLeDiff, Int.reduceEq, Int.reduceNeg, IntKind.bits, Nat.reduceAdd, Nat.reduceMul, Nat.reducePow, Int.reducePow, ini, fwh, lk, cellsAt, tagOf, spotOf, rdN, spl, fillL, zr, fwi, F_dyn_table_wholer0_W, F_dyn_table_wholer1_W, F_dyn_table_wholer2_W, F_dyn_table_wholer3_W, F_dyn_table_wholer4_W, F_dyn_table_wholer5_W, F_dyn_table_wholer6_W, F_dyn_table_wholer7_W, F_dyn_table_wholel0_W, F_dyn_table_wholer8_W, F_dyn_table_wholer8_g2, F_dyn_table_wholer8_g6, F_dyn_table_wholer8_g14, F_dyn_table_wholer8_g19, F_dyn_table_wholer8_g23, F_dyn_table_wholer9_W, F_dyn_table_wholer10_W, F_dyn_table_wholer11_W, F_dyn_table_wholer12_W, F_dyn_table_wholer13_W, F_dyn_table_wholer14_g8, F_dyn_table_wholer14_g14, F_dyn_table_wholer14_g18, F_dyn_table_wholer14_W, F_dyn_table_wholer14_len, F_dyn_table_wholer14_i4, F_dyn_table_wholer15_W, F_dyn_table_wholer16_W, F_dyn_table_wholer16_g6, F_dyn_table_wholer17_W, F_dyn_table_wholer17_g5, F_dyn_table_wholer18_W, F_dyn_table_wholer19_W, F_dyn_table_wholer19_g2, F_dyn_table_wholer19_g6, F_dyn_table_wholer19_g10, F_dyn_table_wholec_W]
        exact ⟨trivial, .inl ⟨trivial, trivial⟩⟩
  | false =>
    rw [b] at h23
    cases c : hasM m 20 with
    | true =>
      simp only [fws, cond_true, cond_false, if_true, if_false, unV, isNil, optI, iV, stepI, evalR, reduceIte, reduceCtorEq, Nat.reduceEqDiff, Int.reduceLT, Int.reduceLE, Int.reduceToNat, Nat.reduceLT, Nat.reduceLeDiff, Int.reduceEq, Int.reduceNeg, IntKind.bits, Nat.reduceAdd, Nat.reduceMul, Nat.reducePow, Int.reducePow, ini, fwh, lk, cellsAt, tagOf, spotOf, rdN, spl, fillL, zr, fwi, F_dyn_table_wholer0_W, F_dyn_table_wholer1_W, F_dyn_table_wholer2_W, F_dyn_table_wholer3_W, F_dyn_table_wholer4_W, F_dyn_table_wholer5_W, F_dyn_table_wholer6_W, F_dyn_table_wholer7_W, F_dyn_table_wholel0_W, F_dyn_table_wholer8_W, F_dyn_table_wholer8_g2, F_dyn_table_wholer8_g6, F_dyn_table_wholer8_g14, F_dyn_table_wholer8_g19, F_dyn_table_wholer8_g23, F_dyn_table_wholer9_W, F_dyn_table_wholer10_W, F_dyn_table_wholer11_W, F_dyn_table_wholer12_W, F_dyn_table_wholer13_W, F_dyn_table_wholer14_g8, F_dyn_table_wholer14_g14, F_dyn_table_wholer14_g18, F_dyn_table_wholer14_W, F_dyn_table_wholer14_len, F_dyn_table_wholer14_i4, F_dyn_table_wholer15_W, F_dyn_table_wholer16_W, F_dyn_table_wholer16_g6, F_dyn_table_wholer17_W, F_dyn_table_wholer17_g5, F_dyn_table_wholer18_W, F_dyn_table_wholer19_W, F_dyn_table_wholer19_g2, F_dyn_table_wholer19_g6, F_dyn_table_wholer19_g10, F_dyn_table_wholec_W, e0, e1, e5, e6, e9, hd, h23, ch, c, bne_tt, bne_tf, bne_ft, bne_ff]
      refine WR_nilT rfl (by decide) ⟨fun c hc => ?_, ?_⟩
      · simp only [List.mem_cons, List.not_mem_nil, or_false] at hc
        rcases hc with rfl
        intro hy
        simp only [fws, cond_true, cond_false, if_true, if_false, unV, isNil, optI, iV, stepI, evalR, reduceIte, reduceCtorEq, Nat.reduceEqDiff, Int.reduceLT, Int.reduceLE, Int.reduceToNat, Nat.reduceLT, Nat.reduceLeDiff, Int.reduceEq, Int.reduceNeg, IntKind.bits, Nat.reduceAdd, Nat.reduceMul, Nat.reducePow, Int.reducePow, ini, fwh, lk, cellsAt, tagOf, spotOf, rdN, spl, fillL, zr, fwi, F_dyn_table_wholer0_W, F_dyn_table_wholer1_W, F_dyn_table_wholer2_W, F_dyn_table_wholer3_W, F_dyn_table_wholer4_W, F_dyn_table_wholer5_W, F_dyn_table_wholer6_W, F_dyn_table_wholer7_W, F_dyn_table_wholel0_W, F_dyn_table_wholer8_W, F_dyn_table_wholer8_g2, F_dyn_table_wholer8_g6, F_dyn_table_wholer8_g14, F_dyn_table_wholer8_g19, F_dyn_table_wholer8_g23, F_dyn_table_wholer9_W, F_dyn_table_wholer10_W, F_dyn_table_wholer11_W, F_dyn_table_wholer12_W, F_dyn_table_wholer13_W, F_dyn_table_wholer14_g8, F_dyn_table_wholer14_g14, F_dyn_table_wholer14_g18, F_dyn_table_wholer14_W, F_dyn_table_wholer14_len, F_dyn_table_wholer14_i4, F_dyn_table_wholer15_W, F_dyn_table_wholer16_W, F_dyn_table_wholer16_g6, F_dyn_table_wholer17_W, F_dyn_table_wholer17_g5, F_dyn_table_wholer18_W, F_dyn_table_wholer19_W, F_dyn_table_wholer19_g2, F_dyn_table_wholer19_g6, F_dyn_table_wholer19_g10, F_dyn_table_wholec_W, e0, e1, e5, e6, e9, hd, h23]
      · simp only [fws, cond_true, cond_false, if_true, if_false, unV, isNil, optI, iV, stepI, evalR, reduceIte, reduceCtorEq, Nat.reduceEqDiff, Int.reduceLT, Int.reduceLE, Int.reduceToNat, Nat.reduceLT, Nat.reduceLeDiff, Int.reduceEq, Int.reduceNeg, IntKind.bits, Nat.reduceAdd, Nat.reduceMul, Nat.reducePow, Int.reducePow, ini, fwh, lk, cellsAt, tagOf, spotOf, rdN, spl, fillL, zr, fwi, F_dyn_table_wholer0_W, F_dyn_table_wholer1_W, F_dyn_table_wholer2_W, F_dyn_table_wholer3_W, F_dyn_table_wholer4_W, F_dyn_table_wholer5_W, F_dyn_table_wholer6_W, F_dyn_table_wholer7_W, F_dyn_table_wholel0_W, F_dyn_table_wholer8_W, F_dyn_table_wholer8_g2, F_dyn_table_wholer8_g6, F_dyn_table_wholer8_g14, F_dyn_table_wholer8_g19, F_dyn_table_wholer8_g23, F_dyn_table_wholer9_W, F_dyn_table_wholer10_W, F_dyn_table_wholer11_W, F_dyn_table_wholer12_W, F_dyn_table_wholer13_W, F_dyn_table_wholer14_g8, F_dyn_table_wholer14_g14, F_dyn_table_wholer14_g18, F_dyn_table_wholer14_W, F_dyn_table_wholer14_len, F_dyn_table_wholer14_i4, F_dyn_table_wholer15_W, F_dyn_table_wholer16_W, F_dyn_table_wholer16_g6, F_dyn_table_wholer17_W, F_dyn_table_wholer17_g5, F_dyn_table_wholer18_W, F_dyn_table_wholer19_W, F_dyn_table_wholer19_g2, F_dyn_table_wholer19_g6, F_dyn_table_wholer19_g10, F_dyn_table_wholec_W]
        exact ⟨trivial, .inl ⟨trivial, trivial⟩⟩
    | false =>
      simp only [fws, cond_true, cond_false, if_true, if_false, unV, isNil, optI, iV, stepI, evalR, reduceIte, reduceCtorEq, Nat.reduceEqDiff, Int.reduceLT, Int.reduceLE, Int.reduceToNat, Nat.reduceLT, Nat.reduceLeDiff, Int.reduceEq, Int.reduceNeg, IntKind.bits, Nat.reduceAdd, Nat.reduceMul, Nat.reducePow, Int.reducePow, ini, fwh, lk, cellsAt, tagOf, spotOf, rdN, spl, fillL, zr, fwi, F_dyn_table_wholer0_W, F_dyn_table_wholer1_W, F_dyn_table_wholer2_W, F_dyn_table_wholer3_W, F_dyn_table_wholer4_W, F_dyn_table_wholer5_W, F_dyn_table_wholer6_W, F_dyn_table_wholer7_W, F_dyn_table_wholel0_W, F_dyn_table_wholer8_W, F_dyn_table_wholer8_g2, F_dyn_table_wholer8_g6, F_dyn_table_wholer8_g14, F_dyn_table_wholer8_g19, F_dyn_table_wholer8_g23, F_dyn_table_wholer9_W, F_dyn_table_wholer10_W, F_dyn_table_wholer11_W, F_dyn_table_wholer12_W, F_dyn_table_wholer13_W, F_dyn_table_wholer14_g8, F_dyn_table_wholer14_g14, F_dyn_table_wholer14_g18, F_dyn_table_wholer14_W, F_dyn_table_wholer14_len, F_dyn_table_wholer14_i4, F_dyn_table_wholer15_W, F_dyn_table_wholer16_W, F_dyn_table_wholer16_g6, F_dyn_table_wholer17_W, F_dyn_table_wholer17_g5, F_dyn_table_wholer18_W, F_dyn_table_wholer19_W, F_dyn_table_wholer19_g2, F_dyn_table_wholer19_g6, F_dyn_table_wholer19_g10, F_dyn_table_wholec_W, e0, e1, e5, e6, e9, hd, h23, ch, c, bne_tt, bne_tf, bne_ft, bne_ff]
      refine WR_nilT rfl (by decide) ⟨fun c hc => ?_, ?_⟩
      · simp only [List.mem_cons, List.not_mem_nil, or_false] at hc
        rcases hc with rfl
        intro hy
        simp only [fws, cond_true, cond_false, if_true, if_false, unV, isNil, optI, iV, stepI, evalR, reduceIte, reduceCtorEq, Nat.reduceEqDiff, Int.reduceLT, Int.reduceLE, Int.reduceToNat, Nat.reduceLT, Nat.reduceLeDiff, Int.reduceEq, Int.reduceNeg, IntKind.bits, Nat.reduceAdd, Nat.reduceMul, Nat.reducePow, Int.reducePow, ini, fwh, lk, cellsAt, tagOf, spotOf, rdN, spl, fillL, zr, fwi, F_dyn_table_wholer0_W, F_dyn_table_wholer1_W, F_dyn_table_wholer2_W, F_dyn_table_wholer3_W, F_dyn_table_wholer4_W, F_dyn_table_wholer5_W, F_dyn_table_wholer6_W, F_dyn_table_wholer7_W, F_dyn_table_wholel0_W, F_dyn_table_wholer8_W, F_dyn_table_wholer8_g2, F_dyn_table_wholer8_g6, F_dyn_table_wholer8_g14, F_dyn_table_wholer8_g19, F_dyn_table_wholer8_g23, F_dyn_table_wholer9_W, F_dyn_table_wholer10_W, F_dyn_table_wholer11_W, F_dyn_table_wholer12_W, F_dyn_table_wholer13_W, F_dyn_table_wholer14_g8, F_dyn_table_wholer14_g14, F_dyn_table_wholer14_g18, F_dyn_table_wholer14_W, F_dyn_table_wholer14_len, F_dyn_table_wholer14_i4, F_dyn_table_wholer15_W, F_dyn_table_wholer16_W, F_dyn_table_wholer16_g6, F_dyn_table_wholer17_W, F_dyn_table_wholer17_g5, F_dyn_table_wholer18_W, F_dyn_table_wholer19_W, F_dyn_table_wholer19_g2, F_dyn_table_wholer19_g6, F_dyn_table_wholer19_g10, F_dyn_table_wholec_W, e0, e1, e5, e6, e9, hd, h23]
      · simp only [fws, cond_true, cond_false, if_true, if_false, unV, isNil, optI, iV, stepI, evalR, reduceIte, reduceCtorEq, Nat.reduceEqDiff, Int.reduceLT, Int.reduceLE, Int.reduceToNat, Nat.reduceLT, Nat.reduceLeDiff, Int.reduceEq, Int.reduceNeg, IntKind.bits, Nat.reduceAdd, Nat.reduceMul, Nat.reducePow, Int.reducePow, ini, fwh, lk, cellsAt, tagOf, spotOf, rdN, spl, fillL, zr, fwi, F_dyn_table_wholer0_W, F_dyn_table_wholer1_W, F_dyn_table_wholer2_W, F_dyn_table_wholer3_W, F_dyn_table_wholer4_W, F_dyn_table_wholer5_W, F_dyn_table_wholer6_W, F_dyn_table_wholer7_W, F_dyn_table_wholel0_W, F_dyn_table_wholer8_W, F_dyn_table_wholer8_g2, F_dyn_table_wholer8_g6, F_dyn_table_wholer8_g14, F_dyn_table_wholer8_g19, F_dyn_table_wholer8_g23, F_dyn_table_wholer9_W, F_dyn_table_wholer10_W, F_dyn_table_wholer11_W, F_dyn_table_wholer12_W, F_dyn_table_wholer13_W, F_dyn_table_wholer14_g8, F_dyn_table_wholer14_g14, F_dyn_table_wholer14_g18, F_dyn_table_wholer14_W, F_dyn_table_wholer14_len, F_dyn_table_wholer14_i4, F_dyn_table_wholer15_W, F_dyn_table_wholer16_W, F_dyn_table_wholer16_g6, F_dyn_table_wholer17_W, F_dyn_table_wholer17_g5, F_dyn_table_wholer18_W, F_dyn_table_wholer19_W, F_dyn_table_wholer19_g2, F_dyn_table_wholer19_g6, F_dyn_table_wholer19_g10, F_dyn_table_wholec_W]
        exact ⟨trivial, .inr ⟨trivial, ⟨e0, e1, e5, e6⟩, e9⟩⟩
theorem stE : W T (.seq (.reg F_dyn_table_wholer17) (.cond (.t 153) (.seq (.reg F_dyn_table_wholer18) .ret) .skip)) env h fun x e h' => h' = h ∧ ((x = .ret ∧ e 4 = bF) ∨ (x = .normal ∧ WV e L kd kp)) := by
  obtain ⟨e0, e1, e5, e6⟩ := he
  have ch : ∀ k (K : Value → Heap → Prop), Ev T 58 [ptrT L, .int .u64 k] h K ↔ K (.bool (hasM m k)) h := fun k K => Ev_det (ev_has (T := T) w.tb h0 k)
  cases c1 : hasM m 1879048188 <;> cases c2 : hasM m 1879048189 <;> cases c3 : hasM m 1879048190 <;> cases c4 : hasM m 1879048191 <;>
    simp only [fws, cond_true, cond_false, if_true, if_false, unV, isNil, optI, iV, stepI, evalR, reduceIte, reduceCtorEq, Nat.reduceEqDiff, Int.reduceLT, Int.reduceLE, Int.reduceToNat, Nat.reduceLT, Nat.reduceLeDiff, Int.reduceEq, Int.reduceNeg, IntKind.bits, Nat.reduceAdd, Nat.reduceMul, Nat.reducePow, Int.reducePow, ini, fwh, lk, cellsAt, tagOf, spotOf, rdN, spl, fillL, zr, fwi, F_dyn_table_wholer0_W, F_dyn_table_wholer1_W, F_dyn_table_wholer2_W, F_dyn_table_wholer3_W, F_dyn_table_wholer4_W, F_dyn_table_wholer5_W, F_dyn_table_wholer6_W, F_dyn_table_wholer7_W, F_dyn_table_wholel0_W, F_dyn_table_wholer8_W, F_dyn_table_wholer8_g2, F_dyn_table_wholer8_g6, F_dyn_table_wholer8_g14, F_dyn_table_wholer8_g19, F_dyn_table_wholer8_g23, F_dyn_table_wholer9_W, F_dyn_table_wholer10_W, F_dyn_table_wholer11_W, F_dyn_table_wholer12_W, F_dyn_table_wholer13_W, F_dyn_table_wholer14_g8, F_dyn_table_wholer14_g14, F_dyn_table_wholer14_g18, F_dyn_table_wholer14_W, F_dyn_table_wholer14_len, F_dyn_table_wholer14_i4, F_dyn_table_wholer15_W, F_dyn_table_wholer16_W, F_dyn_table_wholer16_g6, F_dyn_table_wholer17_W, F_dyn_table_wholer17_g5, F_dyn_table_wholer18_W, F_dyn_table_wholer19_W, F_dyn_table_wholer19_g2, F_dyn_table_wholer19_g6, F_dyn_table_wholer19_g10, F_dyn_table_wholec_W, e0, e1, e5, e6, ch, c1, c2, c3, c4, bne_tt, bne_tf, bne_ft, bne_ff] <;>
    first | exact ⟨trivial, .inl ⟨trivial, trivial⟩⟩ | exact ⟨trivial, .inr ⟨trivial, ⟨e0, e1, e5, e6⟩⟩⟩
theorem stF (h1 : T 68 = some F_dyn_table_fixed) : W T (.seq (.reg F_dyn_table_wholer19) .ret) env h fun x e h' => h' = h ∧ x = .ret ∧ ∃ b, e 4 = .bool b := by
  obtain ⟨e0, e1, e5, e6⟩ := he
  have ch : ∀ k v (K : Value → Heap → Prop), Ev T 68 [ptrT L, .int .u64 k, .int .u64 v] h K ↔ K (.bool (fixM m k v)) h := fun k v K => Ev_det (ev_fixed (T := T) w.tb h0 h1 k v)
  cases c1 : fixM m 11 24 with
  | false =>
    simp only [fws, cond_true, cond_false, if_true, if_false, unV, isNil, optI, iV, stepI, evalR, reduceIte, reduceCtorEq, Nat.reduceEqDiff, Int.reduceLT, Int.reduceLE, Int.reduceToNat, Nat.reduceLT, Nat.reduceLeDiff, Int.reduceEq, Int.reduceNeg, IntKind.bits, Nat.reduceAdd, Nat.reduceMul, Nat.reducePow, Int.reducePow, ini, fwh, lk, cellsAt, tagOf, spotOf, rdN, spl, fillL, zr, fwi, F_dyn_table_wholer0_W, F_dyn_table_wholer1_W, F_dyn_table_wholer2_W, F_dyn_table_wholer3_W, F_dyn_table_wholer4_W, F_dyn_table_wholer5_W, F_dyn_table_wholer6_W, F_dyn_table_wholer7_W, F_dyn_table_wholel0_W, F_dyn_table_wholer8_W, F_dyn_table_wholer8_g2, F_dyn_table_wholer8_g6, F_dyn_table_wholer8_g14, F_dyn_table_wholer8_g19, F_dyn_table_wholer8_g23, F_dyn_table_wholer9_W, F_dyn_table_wholer10_W, F_dyn_table_wholer11_W, F_dyn_table_wholer12_W, F_dyn_table_wholer13_W, F_dyn_table_wholer14_g8, F_dyn_table_wholer14_g14, F_dyn_table_wholer14_g18, F_dyn_table_wholer14_W, F_dyn_table_wholer14_len, F_dyn_table_wholer14_i4, F_dyn_table_wholer15_W, F_dyn_table_wholer16_W, F_dyn_table_wholer16_g6, F_dyn_table_wholer17_W, F_dyn_table_wholer17_g5, F_dyn_table_wholer18_W, F_dyn_table_wholer19_W, F_dyn_table_wholer19_g2, F_dyn_table_wholer19_g6, F_dyn_table_wholer19_g10, F_dyn_table_wholec_W, e0, e1, e5, e6, ch, c1]
    exact ⟨trivial, trivial, _, rfl⟩
  | true =>
    cases c2 : fixM m 9 24 with
    | false =>
      simp only [fws, cond_true, cond_false, if_true, if_false, unV, isNil, optI, iV, stepI, evalR, reduceIte, reduceCtorEq, Nat.reduceEqDiff, Int.reduceLT, Int.reduceLE, Int.reduceToNat, Nat.reduceLT, Nat.reduceLeDiff, Int.reduceEq, Int.reduceNeg, IntKind.bits, Nat.reduceAdd, Nat.reduceMul, Nat.reducePow, Int.reducePow, ini, fwh, lk, cellsAt, tagOf, spotOf, rdN, spl, fillL, zr, fwi, F_dyn_table_wholer0_W, F_dyn_table_wholer1_W, F_dyn_table_wholer2_W, F_dyn_table_wholer3_W, F_dyn_table_wholer4_W, F_dyn_table_wholer5_W, F_dyn_table_wholer6_W, F_dyn_table_wholer7_W, F_dyn_table_wholel0_W, F_dyn_table_wholer8_W, F_dyn_table_wholer8_g2, F_dyn_table_wholer8_g6, F_dyn_table_wholer8_g14, F_dyn_table_wholer8_g19, F_dyn_table_wholer8_g23, F_dyn_table_wholer9_W, F_dyn_table_wholer10_W, F_dyn_table_wholer11_W, F_dyn_table_wholer12_W, F_dyn_table_wholer13_W, F_dyn_table_wholer14_g8, F_dyn_table_wholer14_g14, F_dyn_table_wholer14_g18, F_dyn_table_wholer14_W, F_dyn_table_wholer14_len, F_dyn_table_wholer14_i4, F_dyn_table_wholer15_W, F_dyn_table_wholer16_W, F_dyn_table_wholer16_g6, F_dyn_table_wholer17_W, F_dyn_table_wholer17_g5, F_dyn_table_wholer18_W, F_dyn_table_wholer19_W, F_dyn_table_wholer19_g2, F_dyn_table_wholer19_g6, F_dyn_table_wholer19_g10, F_dyn_table_wholec_W, e0, e1, e5, e6, ch, c1, c2]
      exact ⟨trivial, trivial, _, rfl⟩
    | true =>
      cases c3 : fixM m 19 16 with
      | false =>
        simp only [fws, cond_true, cond_false, if_true, if_false, unV, isNil, optI, iV, stepI, evalR, reduceIte, reduceCtorEq, Nat.reduceEqDiff, Int.reduceLT, Int.reduceLE, Int.reduceToNat, Nat.reduceLT, Nat.reduceLeDiff, Int.reduceEq, Int.reduceNeg, IntKind.bits, Nat.reduceAdd, Nat.reduceMul, Nat.reducePow, Int.reducePow, ini, fwh, lk, cellsAt, tagOf, spotOf, rdN, spl, fillL, zr, fwi, F_dyn_table_wholer0_W, F_dyn_table_wholer1_W, F_dyn_table_wholer2_W, F_dyn_table_wholer3_W, F_dyn_table_wholer4_W, F_dyn_table_wholer5_W, F_dyn_table_wholer6_W, F_dyn_table_wholer7_W, F_dyn_table_wholel0_W, F_dyn_table_wholer8_W, F_dyn_table_wholer8_g2, F_dyn_table_wholer8_g6, F_dyn_table_wholer8_g14, F_dyn_table_wholer8_g19, F_dyn_table_wholer8_g23, F_dyn_table_wholer9_W, F_dyn_table_wholer10_W, F_dyn_table_wholer11_W, F_dyn_table_wholer12_W, F_dyn_table_wholer13_W, F_dyn_table_wholer14_g8, F_dyn_table_wholer14_g14, F_dyn_table_wholer14_g18, F_dyn_table_wholer14_W, F_dyn_table_wholer14_len, F_dyn_table_wholer14_i4, F_dyn_table_wholer15_W, F_dyn_table_wholer16_W, F_dyn_table_wholer16_g6, F_dyn_table_wholer17_W, F_dyn_table_wholer17_g5, F_dyn_table_wholer18_W, F_dyn_table_wholer19_W, F_dyn_table_wholer19_g2, F_dyn_table_wholer19_g6, F_dyn_table_wholer19_g10, F_dyn_table_wholec_W, e0, e1, e5, e6, ch, c1, c2, c3]
        exact ⟨trivial, trivial, _, rfl⟩
      | true =>
        simp only [fws, cond_true, cond_false, if_true, if_false, unV, isNil, optI, iV, stepI, evalR, reduceIte, reduceCtorEq, Nat.reduceEqDiff, Int.reduceLT, Int.reduceLE, Int.reduceToNat, Nat.reduceLT, Nat.reduceLeDiff, Int.reduceEq, Int.reduceNeg, IntKind.bits, Nat.reduceAdd, Nat.reduceMul, Nat.reducePow, Int.reducePow, ini, fwh, lk, cellsAt, tagOf, spotOf, rdN, spl, fillL, zr, fwi, F_dyn_table_wholer0_W, F_dyn_table_wholer1_W, F_dyn_table_wholer2_W, F_dyn_table_wholer3_W, F_dyn_table_wholer4_W, F_dyn_table_wholer5_W, F_dyn_table_wholer6_W, F_dyn_table_wholer7_W, F_dyn_table_wholel0_W, F_dyn_table_wholer8_W, F_dyn_table_wholer8_g2, F_dyn_table_wholer8_g6, F_dyn_table_wholer8_g14, F_dyn_table_wholer8_g19, F_dyn_table_wholer8_g23, F_dyn_table_wholer9_W, F_dyn_table_wholer10_W, F_dyn_table_wholer11_W, F_dyn_table_wholer12_W, F_dyn_table_wholer13_W, F_dyn_table_wholer14_g8, F_dyn_table_wholer14_g14, F_dyn_table_wholer14_g18, F_dyn_table_wholer14_W, F_dyn_table_wholer14_len, F_dyn_table_wholer14_i4, F_dyn_table_wholer15_W, F_dyn_table_wholer16_W, F_dyn_table_wholer16_g6, F_dyn_table_wholer17_W, F_dyn_table_wholer17_g5, F_dyn_table_wholer18_W, F_dyn_table_wholer19_W, F_dyn_table_wholer19_g2, F_dyn_table_wholer19_g6, F_dyn_table_wholer19_g10, F_dyn_table_wholec_W, e0, e1, e5, e6, ch, c1, c2, c3]
        exact ⟨trivial, trivial, _, rfl⟩
end
end Go.Proofs.Ytdkdifjjpbfohaa
/- The tags that belong together: the whole. -/
namespace Go.Proofs.Ytdkdifjjpbfohaa
open Go Fw
set_option linter.unusedSimpArgs false
set_option linter.unusedVariables false
set_option linter.unusedSectionVars false

structure WD (m : List (Int × Int)) (pa : List Value) (pr pk : Bool) : Prop where
  strs : hasM m 5 = true
  pairs : pairs m
  pr : hasM m 23 = false → pr = false
  pa : (hasM m 1610612753 = true ∧ pk = true ∧ pa = arC m 1610612753 1610612754) ∨ (pk = false ∧ pa = arC m 1610612751 1610612752)
theorem wL_29 {m : List (Int × Int)} {a0 a1 a2 : Value} {at_ size : Int} {pr pk b : Bool} : spl (spl (wL m [a0, a1, a2] pr pk) 29 (arC m at_ size)) 33 [.bool b] = wL m (arC m at_ size) pr b := by
  simp only [wL, wD, arC, spl, List.cons_append, List.nil_append, List.set_cons_succ, List.set_cons_zero]
theorem wL_29' {m : List (Int × Int)} {a0 a1 a2 : Value} {at_ size : Int} {pr pk : Bool} : spl (wL m [a0, a1, a2] pr pk) 29 (arC m at_ size) = wL m (arC m at_ size) pr pk := by
  simp only [wL, wD, arC, spl, List.cons_append, List.nil_append, List.set_cons_succ, List.set_cons_zero]
theorem wL_32 {m : List (Int × Int)} {a0 a1 a2 : Value} {pr pk b : Bool} : spl (wL m [a0, a1, a2] pr pk) 32 [.bool b] = wL m [a0, a1, a2] b pk := by
  simp only [wL, wD, arC, spl, List.cons_append, List.nil_append, List.set_cons_succ, List.set_cons_zero]
theorem wL_len {m : List (Int × Int)} {a0 a1 a2 : Value} {pr pk : Bool} : (wL m [a0, a1, a2] pr pk).length = 40 := by
  simp only [wL, wD, arC, List.cons_append, List.nil_append, List.length_cons, List.length_nil]
theorem wL_23 {m : List (Int × Int)} {a0 a1 a2 : Value} {pr pk : Bool} : ∃ tl, (wL m [a0, a1, a2] pr pk).drop 23 = .bool (hasM m 23) :: tl := by
  simp only [wL, wD, arC, List.cons_append, List.nil_append, List.drop_succ_cons, List.drop_zero]
  exact ⟨_, rfl⟩
section
variable {T : Tab} {L kd : Nat} {m : List (Int × Int)} {nd : Value} {H : Heap} {env : Env}
theorem st_r0 (e0 : env 0 = ptrT L) (e1 : env 1 = ptrA kd 0) : W T (.reg F_dyn_table_wholer0) env H fun x e h' => h' = H ∧ x = .normal ∧ e 0 = ptrT L ∧ e 1 = ptrA kd 0 := by
  simp only [fws, cond_true, cond_false, if_true, if_false, unV, isNil, optI, iV, stepI, evalR, reduceIte, reduceCtorEq, Nat.reduceEqDiff, Int.reduceLT, Int.reduceLE, Int.reduceToNat, Nat.reduceLT, Nat.reduceLeDiff, Int.reduceEq, Int.reduceNeg, IntKind.bits, Nat.reduceAdd, Nat.reduceMul, Nat.reducePow, Int.reducePow, ini, fwh, lk, cellsAt, tagOf, spotOf, rdN, spl, fillL, zr, fwi, F_dyn_table_wholer0_W, F_dyn_table_wholer1_W, F_dyn_table_wholer2_W, F_dyn_table_wholer3_W, F_dyn_table_wholer4_W, F_dyn_table_wholer5_W, F_dyn_table_wholer6_W, F_dyn_table_wholer7_W, F_dyn_table_wholel0_W, F_dyn_table_wholer8_W, F_dyn_table_wholer8_g2, F_dyn_table_wholer8_g6, F_dyn_table_wholer8_g14, F_dyn_table_wholer8_g19, F_dyn_table_wholer8_g23, F_dyn_table_wholer9_W, F_dyn_table_wholer10_W, F_dyn_table_wholer11_W, F_dyn_table_wholer12_W, F_dyn_table_wholer13_W, F_dyn_table_wholer14_g8, F_dyn_table_wholer14_g14, F_dyn_table_wholer14_g18, F_dyn_table_wholer14_W, F_dyn_table_wholer14_len, F_dyn_table_wholer14_i4, F_dyn_table_wholer15_W, F_dyn_table_wholer16_W, F_dyn_table_wholer16_g6, F_dyn_table_wholer17_W, F_dyn_table_wholer17_g5, F_dyn_table_wholer18_W, F_dyn_table_wholer19_W, F_dyn_table_wholer19_g2, F_dyn_table_wholer19_g6, F_dyn_table_wholer19_g10, F_dyn_table_wholec_W]
  exact ⟨trivial, trivial, e0, e1⟩
theorem st_r1 (e0 : env 0 = ptrT L) (e1 : env 1 = ptrA kd 0) : W T (.reg F_dyn_table_wholer1) env H fun x e h' => h' = H ++ [blk 3 ar0, blk 3 ar0] ∧ x = .normal ∧ WV e L kd H.length := by
  have s1 : (H ++ [blk 3 ar0] ++ [blk 3 ar0])[H.length]? = some (blk 3 ar0) := by rw [List.append_assoc, List.getElem?_append_right (Nat.le_refl _), Nat.sub_self]; rfl
  have s2 : (H ++ [blk 3 ar0] ++ [blk 3 ar0])[H.length + 1]? = some (blk 3 ar0) := by rw [List.append_assoc, List.getElem?_append_right (by omega), Nat.add_sub_cancel_left]; rfl
  simp only [fws, cond_true, cond_false, if_true, if_false, unV, isNil, optI, iV, stepI, evalR, reduceIte, reduceCtorEq, Nat.reduceEqDiff, Int.reduceLT, Int.reduceLE, Int.reduceToNat, Nat.reduceLT, Nat.reduceLeDiff, Int.reduceEq, Int.reduceNeg, IntKind.bits, Nat.reduceAdd, Nat.reduceMul, Nat.reducePow, Int.reducePow, ini, fwh, lk, cellsAt, tagOf, spotOf, rdN, spl, fillL, zr, fwi, F_dyn_table_wholer0_W, F_dyn_table_wholer1_W, F_dyn_table_wholer2_W, F_dyn_table_wholer3_W, F_dyn_table_wholer4_W, F_dyn_table_wholer5_W, F_dyn_table_wholer6_W, F_dyn_table_wholer7_W, F_dyn_table_wholel0_W, F_dyn_table_wholer8_W, F_dyn_table_wholer8_g2, F_dyn_table_wholer8_g6, F_dyn_table_wholer8_g14, F_dyn_table_wholer8_g19, F_dyn_table_wholer8_g23, F_dyn_table_wholer9_W, F_dyn_table_wholer10_W, F_dyn_table_wholer11_W, F_dyn_table_wholer12_W, F_dyn_table_wholer13_W, F_dyn_table_wholer14_g8, F_dyn_table_wholer14_g14, F_dyn_table_wholer14_g18, F_dyn_table_wholer14_W, F_dyn_table_wholer14_len, F_dyn_table_wholer14_i4, F_dyn_table_wholer15_W, F_dyn_table_wholer16_W, F_dyn_table_wholer16_g6, F_dyn_table_wholer17_W, F_dyn_table_wholer17_g5, F_dyn_table_wholer18_W, F_dyn_table_wholer19_W, F_dyn_table_wholer19_g2, F_dyn_table_wholer19_g6, F_dyn_table_wholer19_g10, F_dyn_table_wholec_W, s1, s2]
  exact ⟨trivial, trivial, ⟨e0, e1, rfl, rfl⟩⟩
theorem st_loop (h0 : T 58 = some F_dyn_table_has) (h1 : T 67 = some F_dyn_table_area) (he : WV env L kd H.length) (hT : TB H L m nd) (hd : H[kd]? = some (blk 40 wZ)) (k1 : kd ≠ L) (k2 : kd ≠ L + 1) :
    W T (.seq (.dreg F_dyn_table_wholer2 []) (.block 0 (.loop F_dyn_table_wholel0))) env (H ++ [blk 3 ar0, blk 3 ar0]) fun x e h' => (∀ q, q < H.length → q ≠ kd → h'[q]? = H[q]?) ∧ H.length ≤ h'.length ∧ ((x = .ret ∧ e 4 = bF) ∨ (x = .normal ∧ WV e L kd H.length ∧ pairs m ∧ WI H h' L kd m nd (wL m ar0 false false) (arC m 1610612751 1610612752) (arC m 1610612753 1610612754))) := by
  have hk : kd < H.length := (List.getElem?_eq_some_iff.1 hd).1
  have hL : L + 1 < H.length := (List.getElem?_eq_some_iff.1 hT.tbl).1
  have w0 : WI H (H ++ [blk 3 ar0, blk 3 ar0]) L kd m nd wZ ar0 ar0 := by
    refine ⟨hT.app _, ?_, ?_, ?_, rfl, rfl, rfl, by rw [List.length_append]; exact Nat.le_refl _, fun q hq _ => List.getElem?_append_left hq⟩
    · rw [List.getElem?_append_left hk]; exact hd
    · rw [List.getElem?_append_right (Nat.le_refl _), Nat.sub_self]; rfl
    · rw [List.getElem?_append_right (by omega), Nat.add_sub_cancel_left]; rfl
  obtain ⟨e0, e1, e5, e6⟩ := he
  have hln : ∀ G, lenI G 1 (wW kd H.length) = some (.int .i64 9, G) := fun _ => rfl
  unfold wW at hln
  simp only [fws, cond_true, cond_false, if_true, if_false, unV, isNil, optI, iV, stepI, evalR, reduceIte, reduceCtorEq, Nat.reduceEqDiff, Int.reduceLT, Int.reduceLE, Int.reduceToNat, Nat.reduceLT, Nat.reduceLeDiff, Int.reduceEq, Int.reduceNeg, IntKind.bits, Nat.reduceAdd, Nat.reduceMul, Nat.reducePow, Int.reducePow, ini, fwh, lk, cellsAt, tagOf, spotOf, rdN, spl, fillL, zr, fwi, F_dyn_table_wholer0_W, F_dyn_table_wholer1_W, F_dyn_table_wholer2_W, F_dyn_table_wholer3_W, F_dyn_table_wholer4_W, F_dyn_table_wholer5_W, F_dyn_table_wholer6_W, F_dyn_table_wholer7_W, F_dyn_table_wholer8_W, F_dyn_table_wholer8_g2, F_dyn_table_wholer8_g6, F_dyn_table_wholer8_g14, F_dyn_table_wholer8_g19, F_dyn_table_wholer8_g23, F_dyn_table_wholer9_W, F_dyn_table_wholer10_W, F_dyn_table_wholer11_W, F_dyn_table_wholer12_W, F_dyn_table_wholer13_W, F_dyn_table_wholer14_g8, F_dyn_table_wholer14_g14, F_dyn_table_wholer14_g18, F_dyn_table_wholer14_W, F_dyn_table_wholer14_len, F_dyn_table_wholer14_i4, F_dyn_table_wholer15_W, F_dyn_table_wholer16_W, F_dyn_table_wholer16_g6, F_dyn_table_wholer17_W, F_dyn_table_wholer17_g5, F_dyn_table_wholer18_W, F_dyn_table_wholer19_W, F_dyn_table_wholer19_g2, F_dyn_table_wholer19_g6, F_dyn_table_wholer19_g10, F_dyn_table_wholec_W, e0, e1, e5, e6, hln]
  refine W.mono (whole_loop h0 h1 hL hk k1 k2 w0 ⟨?_, ?_, ?_, ?_, ?_, ?_, ?_⟩) fun x e h' ⟨a1, a2, a3⟩ => ?_
  all_goals try (first | assumption | rfl)
  · rcases a3 with ⟨rfl, a4⟩ | ⟨rfl, b1, b2, b3⟩
    · simp only [fws, cond_true, cond_false, if_true, if_false, unV, isNil, optI, iV, stepI, evalR, reduceIte, reduceCtorEq, Nat.reduceEqDiff, Int.reduceLT, Int.reduceLE, Int.reduceToNat, Nat.reduceLT, Nat.reduceLeDiff, Int.reduceEq, Int.reduceNeg, IntKind.bits, Nat.reduceAdd, Nat.reduceMul, Nat.reducePow, Int.reducePow, ini]
      exact ⟨a1, a2, .inl ⟨trivial, a4⟩⟩
    · simp only [fws, cond_true, cond_false, if_true, if_false, unV, isNil, optI, iV, stepI, evalR, reduceIte, reduceCtorEq, Nat.reduceEqDiff, Int.reduceLT, Int.reduceLE, Int.reduceToNat, Nat.reduceLT, Nat.reduceLeDiff, Int.reduceEq, Int.reduceNeg, IntKind.bits, Nat.reduceAdd, Nat.reduceMul, Nat.reducePow, Int.reducePow, ini]
      exact ⟨a1, a2, .inr ⟨trivial, ⟨b1.e0, b1.e1, b1.e5, b1.e6⟩, b2, b3⟩⟩
theorem fr_set {H h h' : Heap} {kd : Nat} {X : Entry} (a1 : ∀ q, q < H.length → q ≠ kd → h[q]? = H[q]?) (he : h' = h.set kd X) : ∀ q, q < H.length → q ≠ kd → h'[q]? = H[q]? := fun q h1 h2 => by
  rw [he, List.getElem?_set_ne (fun e => h2 e.symm)]; exact a1 q h1 h2
theorem ev_whole (h0 : T 58 = some F_dyn_table_has) (h1 : T 67 = some F_dyn_table_area) (h2 : T 68 = some F_dyn_table_fixed) (h3 : T 57 = some F_dyn_table_whole)
    (hT : TB H L m nd) (hd : H[kd]? = some (blk 40 wZ)) (k1 : kd ≠ L) (k2 : kd ≠ L + 1) :
    Ev T 57 [ptrT L, ptrA kd 0] H fun v h' => (∀ q, q < H.length → q ≠ kd → h'[q]? = H[q]?) ∧ H.length ≤ h'.length ∧ (v = bF ∨ ∃ b, v = .bool b ∧ ∃ pa pr pk, WD m pa pr pk ∧ h'[kd]? = some (blk 40 (wL m pa pr pk))) := by
  have hk : kd < H.length := (List.getElem?_eq_some_iff.1 hd).1
  have hL : L + 1 < H.length := (List.getElem?_eq_some_iff.1 hT.tbl).1
  rw [Ev_fn h3 rfl]
  show W T F_dyn_table_wholec _ _ (retQ [.tmp 4] _)
  unfold F_dyn_table_wholec
  rw [w_seq]
  refine W.mono (st_r0 (L := L) (kd := kd) rfl rfl) fun x e h ⟨q1, q2, q3, q4⟩ => ?_
  subst h q2
  rw [seqQ_normal, w_seq]
  refine W.mono (st_r1 q3 q4) fun x e h' ⟨q1, q2, q5⟩ => ?_
  subst q1 q2
  rw [seqQ_normal, w_seq]
  refine W.mono (st_loop h0 h1 q5 hT hd k1 k2) fun x e h' ⟨a1, a2, a3⟩ => ?_
  rcases a3 with ⟨rfl, a4⟩ | ⟨rfl, b1, b2, b3⟩
  · simp only [fws, cond_true, cond_false, if_true, if_false, unV, isNil, optI, iV, stepI, evalR, reduceIte, reduceCtorEq, Nat.reduceEqDiff, Int.reduceLT, Int.reduceLE, Int.reduceToNat, Nat.reduceLT, Nat.reduceLeDiff, Int.reduceEq, Int.reduceNeg, IntKind.bits, Nat.reduceAdd, Nat.reduceMul, Nat.reducePow, Int.reducePow, ini, a4]
    exact ⟨a1, a2, .inl trivial⟩
  have w : WS h' L kd H.length m nd (wL m ar0 false false) := ⟨b3.tb, b3.d, b3.p, b3.o, k1, k2, by omega, by omega⟩
  rw [seqQ_normal, w_seq]
  refine W.mono (stA h0 b1 w) fun x e h ⟨q1, q2⟩ => ?_
  subst h
  rcases q2 with ⟨rfl, a4⟩ | ⟨rfl, b1, s5⟩
  · simp only [fws, cond_true, cond_false, if_true, if_false, unV, isNil, optI, iV, stepI, evalR, reduceIte, reduceCtorEq, Nat.reduceEqDiff, Int.reduceLT, Int.reduceLE, Int.reduceToNat, Nat.reduceLT, Nat.reduceLeDiff, Int.reduceEq, Int.reduceNeg, IntKind.bits, Nat.reduceAdd, Nat.reduceMul, Nat.reducePow, Int.reducePow, ini, a4]
    exact ⟨a1, a2, .inl trivial⟩
  rw [seqQ_normal, w_seq]
  refine W.mono (stB1 b1 w b3.dl) fun x e h1 ⟨q1, q2, b1⟩ => ?_
  subst q2
  have w := w.set (spl (spl (wL m ar0 false false) 29 (arC m 1610612751 1610612752)) 33 [.bool (hasM m 1610612753)])
  rw [← q1] at w
  have a1 := fr_set a1 q1
  have a2 : H.length ≤ h1.length := by rw [q1, List.length_set]; exact a2
  clear q1
  have r1 : spl (spl (wL m ar0 false false) 29 (arC m 1610612751 1610612752)) 33 [.bool (hasM m 1610612753)] = wL m (arC m 1610612751 1610612752) false (hasM m 1610612753) := wL_29
  rw [r1] at w
  rw [seqQ_normal, w_seq]
  refine W.mono (stB2 b1 w wL_len) fun x e g2 ⟨q1, q2, b1⟩ => ?_
  subst q2
  have r2 : spl (wL m (arC m 1610612751 1610612752) false (hasM m 1610612753)) 29 (arC m 1610612753 1610612754) = wL m (arC m 1610612753 1610612754) false (hasM m 1610612753) := wL_29'
  have key : ∃ pa, ∃ pk, ((hasM m 1610612753 = true ∧ pk = true ∧ pa = arC m 1610612753 1610612754) ∨ (pk = false ∧ pa = arC m 1610612751 1610612752)) ∧ WS g2 L kd H.length m nd (wL m pa false pk) ∧ (∀ q, q < H.length → q ≠ kd → g2[q]? = H[q]?) ∧ H.length ≤ g2.length := by
    cases b : hasM m 1610612753 with
    | true =>
      rw [b, if_pos rfl] at q1
      have w := w.set (spl (wL m (arC m 1610612751 1610612752) false (hasM m 1610612753)) 29 (arC m 1610612753 1610612754))
      rw [b, ← q1, ← b, r2, b] at w
      exact ⟨_, _, .inl ⟨rfl, rfl, rfl⟩, w, fr_set a1 q1, by rw [q1, List.length_set]; exact a2⟩
    | false =>
      rw [b] at q1 w
      rw [if_neg Bool.false_ne_true] at q1
      subst q1
      exact ⟨_, _, .inr ⟨rfl, rfl⟩, w, a1, a2⟩
  clear q1 r2 w a1 a2
  obtain ⟨pa, pk, c1, w, a1, a2⟩ := key
  have hp3 : ∃ a0 a1 a2, pa = [a0, a1, a2] := by
    rcases c1 with ⟨_, _, c⟩ | ⟨_, c⟩ <;> exact ⟨_, _, _, c⟩
  have ln : ∀ {pr pk}, (wL m pa pr pk).length = 40 := by obtain ⟨x0, x1, x2, rfl⟩ := hp3; exact wL_len
  obtain ⟨tl, h23⟩ : ∃ tl, (wL m pa false pk).drop 23 = .bool (hasM m 23) :: tl := by obtain ⟨x0, x1, x2, rfl⟩ := hp3; exact wL_23
  rw [seqQ_normal, w_seq]
  refine W.mono (stC0 b1 w ln) fun x e h3 ⟨q1, q2, b1, e9⟩ => ?_
  subst q2 h3
  rw [seqQ_normal, w_seq]
  refine W.mono (stC h0 b1 w ln h23 e9) fun x e h3 ⟨q1, q2⟩ => ?_
  subst h3
  rcases q2 with ⟨rfl, a4⟩ | ⟨rfl, b1, e9⟩
  · simp only [fws, cond_true, cond_false, if_true, if_false, unV, isNil, optI, iV, stepI, evalR, reduceIte, reduceCtorEq, Nat.reduceEqDiff, Int.reduceLT, Int.reduceLE, Int.reduceToNat, Nat.reduceLT, Nat.reduceLeDiff, Int.reduceEq, Int.reduceNeg, IntKind.bits, Nat.reduceAdd, Nat.reduceMul, Nat.reducePow, Int.reducePow, ini, a4]
    exact ⟨a1, a2, .inl trivial⟩
  rw [seqQ_normal, w_seq]
  refine W.mono (stD b1 w ln h23 e9) fun x e h3 ⟨q1, q2, b1⟩ => ?_
  subst q2
  have w := w.set (spl (wL m pa false pk) 32 [.bool (hasM m 23 && decide (valM m 20 = 7))])
  rw [← q1] at w
  have a1 := fr_set a1 q1
  have a2 : H.length ≤ h3.length := by rw [q1, List.length_set]; exact a2
  clear q1
  have r3 : spl (wL m pa false pk) 32 [.bool (hasM m 23 && decide (valM m 20 = 7))] = wL m pa (hasM m 23 && decide (valM m 20 = 7)) pk := by obtain ⟨x0, x1, x2, rfl⟩ := hp3; exact wL_32
  rw [r3] at w
  have fin : WD m pa (hasM m 23 && decide (valM m 20 = 7)) pk := ⟨s5, b2, fun h => by rw [h]; rfl, c1⟩
  rw [seqQ_normal, w_seq]
  refine W.mono (stE h0 b1 w ln) fun x e h4 ⟨q1, q2⟩ => ?_
  subst h4
  rcases q2 with ⟨rfl, a4⟩ | ⟨rfl, b1⟩
  · simp only [fws, cond_true, cond_false, if_true, if_false, unV, isNil, optI, iV, stepI, evalR, reduceIte, reduceCtorEq, Nat.reduceEqDiff, Int.reduceLT, Int.reduceLE, Int.reduceToNat, Nat.reduceLT, Nat.reduceLeDiff, Int.reduceEq, Int.reduceNeg, IntKind.bits, Nat.reduceAdd, Nat.reduceMul, Nat.reducePow, Int.reducePow, ini, a4]
    exact ⟨a1, a2, .inl trivial⟩
  rw [seqQ_normal]
  refine W.mono (stF h0 b1 w ln h2) fun x e h4 ⟨q1, q2, b, q3⟩ => ?_
  subst q2 h4
  simp only [fws, cond_true, cond_false, if_true, if_false, unV, isNil, optI, iV, stepI, evalR, reduceIte, reduceCtorEq, Nat.reduceEqDiff, Int.reduceLT, Int.reduceLE, Int.reduceToNat, Nat.reduceLT, Nat.reduceLeDiff, Int.reduceEq, Int.reduceNeg, IntKind.bits, Nat.reduceAdd, Nat.reduceMul, Nat.reducePow, Int.reducePow, ini, q3]
  exact ⟨a1, a2, .inr ⟨b, rfl, _, _, _, fin, w.d⟩⟩
end
end Go.Proofs.Ytdkdifjjpbfohaa
/- The names in a library's strings. -/
namespace Go.Proofs.Ytdkdifjjpbfohaa
open Go Fw
set_option linter.unusedSimpArgs false
set_option linter.unusedVariables false
set_option linter.unusedSectionVars false

theorem immN_sl (l : List UInt8) : ∃ o, lst o = l ∧ immN byteE l = slV byteE o := by
  cases l with
  | nil => exact ⟨none, rfl, rfl⟩
  | cons x l => exact ⟨some (x :: l), rfl, rfl⟩
theorem txt_cases (l : List UInt8) (a : Nat) : (∃ s, plain s = true ∧ txt l a = .tuple #[strV s, .int .i64 0]) ∨ (∃ e, e ≠ 0 ∧ txt l a = .tuple #[.string ⟨#[]⟩, .int .i64 e]) := by
  unfold txt
  split
  · split
    · rename_i h
      exact .inl ⟨_, h, rfl⟩
    · exact .inr ⟨21, by decide, rfl⟩
  · exact .inr ⟨20, by decide, rfl⟩
section
variable {T : Tab} (h0 : T 76 = some F_num_Sub) (h1 : T 74 = some F_num_Inside) (h2 : T 64 = some F_head_Off) (h3 : T 65 = some F_le_Part) (h4 : T 55 = some F_head_Part) (d : Hd) (hd : d.wf) (o : Option (List UInt8)) (hl : (lst o).length ≤ 100000000)
include h0 h1 h2 h3 h4 hd hl
theorem f_dyn_Strings (h : T 69 = some F_dyn_Strings) {D t7 t8 : List Value} {a s : Int} (hD : D.length = 40) (hp : D.all (pureV 5) = true) (hO : D.all oneC = true) (h7 : D.drop 7 = .int .u64 a :: t7) (h8 : D.drop 8 = .int .u64 s :: t8) (ha : isU64 a) (hs : isU64 s) :
    FnV T 69 [slV byteE o, d.v, .agg D.toArray] (partV (partF (lst o) d a s)) := by
  refine FnV_of (by simp [d.pure, pure_sl (E := byteE) (o := o) (k := 6) rfl, pure_agg, hp]) ?_
  rw [Ev_fn h rfl]
  have c1 := f_head_Part h0 h1 h2 h3 d hd o hl h4 ha hs
  have g1 : oneAll (.agg D.toArray) = true := by simp [oneAll, cells_agg, hO]
  simp only [Hd.v, Hd.cs] at c1
  cases hp : partF (lst o) d a s with
  | none =>
    rw [hp] at c1
    simp only [partV] at c1
    simp only [F_dyn_Strings, Hd.v, Hd.cs, fws, cond_true, cond_false, if_true, if_false, unV, isNil, optI, iV, stepI, evalR, reduceIte, reduceCtorEq, Nat.reduceEqDiff, Int.reduceLT, Int.reduceLE, Int.reduceToNat, Nat.reduceLT, Nat.reduceLeDiff, Int.reduceEq, Int.reduceNeg, IntKind.bits, Nat.reduceAdd, Nat.reduceMul, Nat.reducePow, Int.reducePow, ini, fwh, lk, cellsAt, tagOf, spotOf, rdN, spl, fillL, zr, fwi, F_dyn_Stringsr0_W, F_dyn_Stringsr1_W, F_dyn_Stringsc_W, oneC_sl, g1, h7, h8, CC_of c1, partV]
    rfl
  | some l =>
    rw [hp] at c1
    simp only [partV] at c1
    simp only [F_dyn_Strings, Hd.v, Hd.cs, fws, cond_true, cond_false, if_true, if_false, unV, isNil, optI, iV, stepI, evalR, reduceIte, reduceCtorEq, Nat.reduceEqDiff, Int.reduceLT, Int.reduceLE, Int.reduceToNat, Nat.reduceLT, Nat.reduceLeDiff, Int.reduceEq, Int.reduceNeg, IntKind.bits, Nat.reduceAdd, Nat.reduceMul, Nat.reducePow, Int.reducePow, ini, fwh, lk, cellsAt, tagOf, spotOf, rdN, spl, fillL, zr, fwi, F_dyn_Stringsr0_W, F_dyn_Stringsr1_W, F_dyn_Stringsc_W, oneC_sl, g1, h7, h8, CC_of c1, partV]
    exact frz_pure (pure_tup.trans (by simp [pure_bool, pure_immN (E := byteE) (l := l) (k := 7) rfl]))
end
/-- What is there before the texts. -/
structure XS (H0 h : Heap) (L kd : Nat) (m : List (Int × Int)) (nd : Value) (ns : List Int) (D : List Value) : Prop where
  tb : TB h L m nd
  d : h[kd]? = some (blk 40 D)
  dl : D.length = 40
  own : Own U64E h nd ns
  k1 : kd ≠ L
  k2 : kd ≠ L + 1
  nb : blkV nd ≠ some kd
  hl : H0.length ≤ h.length
  L1 : L + 1 < H0.length
  kl : kd < H0.length
  nl : ∀ b, blkV nd = some b → b < H0.length
  old : ∀ q, q < H0.length → q ≠ kd → h[q]? = H0[q]?
section
variable {H0 h : Heap} {L kd : Nat} {m : List (Int × Int)} {nd : Value} {ns : List Int} {D : List Value}
theorem XS.app (x : XS H0 h L kd m nd ns D) (g : Heap) : XS H0 (h ++ g) L kd m nd ns D := by
  have := x.hl
  have := x.kl
  exact ⟨x.tb.app g, by rw [List.getElem?_append_left (by omega)]; exact x.d, x.dl, x.own.mono g, x.k1, x.k2, x.nb, by rw [List.length_append]; omega, x.L1, x.kl, x.nl, fun q h1 h2 => by rw [List.getElem?_append_left (by omega)]; exact x.old q h1 h2⟩
theorem XS.setD (x : XS H0 h L kd m nd ns D) (c : Nat) (v : Value) : XS H0 (h.set kd (blk 40 (D.set c v))) L kd m nd ns (D.set c v) := by
  have := x.hl
  have := x.kl
  exact ⟨x.tb.set x.k1 x.k2 _, List.getElem?_set_self (by omega), by rw [List.length_set]; exact x.dl, x.own.keep fun b hb => List.getElem?_set_ne (fun e => x.nb (by rw [hb, e])), x.k1, x.k2, x.nb, by rw [List.length_set]; omega, x.L1, x.kl, x.nl, fun q h1 h2 => by rw [List.getElem?_set_ne (fun e => h2 e.symm)]; exact x.old q h1 h2⟩
end
/-- What the loop over the two names keeps. -/
structure WT (e : Env) (L kd : Nat) (so : Option (List UInt8)) : Prop where
  e0 : e 0 = ptrT L
  e3 : e 3 = ptrA kd 0
  e9 : e 9 = slV byteE so
structure WU (e : Env) (L kd : Nat) (so : Option (List UInt8)) (w : Value) (j : Nat) : Prop where
  t : WT e L kd so
  e38 : e 38 = w
  e39 : e 39 = .int .i64 2
  e40 : e 40 = .int .i64 j
theorem texts_step {T : Tab} (h0 : T 58 = some F_dyn_table_has) (h1 : T 75 = some F_le_Plain) (h2 : T 70 = some F_le_Text) {H0 h : Heap} {L kd : Nat} {m : List (Int × Int)} {nd : Value} {ns : List Int} {D : List Value} {so : Option (List UInt8)} (hso : (lst so).length ≤ 100000000) (hm : wfM m) {w p : Value} {tag : Int} {c j : Nat} {env : Env} {Q : Post}
    (he : WU env L kd so w j) (hj : j < 2) (x : XS H0 h L kd m nd ns D) (hc : c + 1 ≤ 40)
    (hx : ∀ H, ixaI H 2 w (.int .i64 j) = some (p, H)) (hld : ∀ H, loadNI H 2 p = some (.agg #[.int .u64 tag, ptrA kd c], H))
    (hF : ∀ e h', XS H0 h' L kd m nd ns D → e 8 = .int .i64 91 → Q .ret e h')
    (hN : ∀ e h' D', WU e L kd so w (j + 1) → XS H0 h' L kd m nd ns D' → (D' = D ∨ ∃ s, plain s = true ∧ D' = D.set c (strV s)) → W T (.loop F_dyn_table_textsl0) e h' Q) :
    W T (.loop F_dyn_table_textsl0) env h Q := by
  obtain ⟨⟨e0, e3, e9⟩, e38, e39, e40⟩ := he
  have x1 := x.app [blk 2 [.int .u64 tag, ptrA kd c]]
  have g1 : (h ++ [blk 2 [.int .u64 tag, ptrA kd c]])[h.length]? = some (blk 2 [.int .u64 tag, ptrA kd c]) := by rw [List.getElem?_append_right (Nat.le_refl _), Nat.sub_self]; rfl
  have q1 : ((j : Int) < 2) := by omega
  have w2 : IntKind.i64.wrap ((j : Int) + 1) = ((j + 1 : Nat) : Int) := by rw [wrapI64 (by omega) (by omega)]; rfl
  have c1 := ev_has (T := T) x1.tb h0 tag
  have hd := x1.d
  have b1 : decide (c + 1 ≤ D.length) = true := by rw [x.dl]; exact decide_eq_true hc
  have m1 := x1.tb.map
  have m2 := x1.tb.tbl
  have m3 := fun ok k => lkuI_M m1 ok k
  rw [w_loop]
  cases hh : hasM m tag with
  | false =>
    rw [hh] at c1
    simp only [fws, cond_true, cond_false, if_true, if_false, unV, isNil, optI, iV, stepI, evalR, reduceIte, reduceCtorEq, Nat.reduceEqDiff, Int.reduceLT, Int.reduceLE, Int.reduceToNat, Nat.reduceLT, Nat.reduceLeDiff, Int.reduceEq, Int.reduceNeg, IntKind.bits, Nat.reduceAdd, Nat.reduceMul, Nat.reducePow, Int.reducePow, ini, fwh, lk, cellsAt, tagOf, spotOf, rdN, spl, fillL, zr, fwi, F_dyn_table_textsr0_W, F_dyn_table_textsr1_W, F_dyn_table_textsr2_W, F_dyn_table_textsr3_W, F_dyn_table_textsr4_W, F_dyn_table_textsr5_W, F_dyn_table_textsr6_W, F_dyn_table_textsr7_W, F_dyn_table_textsr8_W, F_dyn_table_textsr9_W, F_dyn_table_textsr10_W, F_dyn_table_textsr11_W, F_dyn_table_textsr12_W, F_dyn_table_textsl0_W, F_dyn_table_textsr13_W, F_dyn_table_textsr14_W, F_dyn_table_textsr15_W, F_dyn_table_textsr16_W, F_dyn_table_textsr17_W, F_dyn_table_textsr18_W, F_dyn_table_textsr19_W, F_dyn_table_textsr20_W, F_dyn_table_textsr21_W, F_dyn_table_textsr22_W, F_dyn_table_textsr23_W, F_dyn_table_textsr24_W, F_dyn_table_textsl1_W, F_dyn_table_textsr25_W, F_dyn_table_textsc_W, e0, e3, e9, e38, e39, e40, q1, hx, hld, g1, Ev_det c1, w2]
    refine hN _ _ D ⟨⟨?_, ?_, ?_⟩, ?_, ?_, ?_⟩ x1 (.inl rfl)
    all_goals (first | assumption | rfl)
  | true =>
    rw [hh] at c1
    have hv := valM_u64 hm tag
    have c2 := f_le_Text (T := T) h1 h2 so hso (valM m tag).toNat (by unfold isU64 at hv; omega)
    have hvt : ((valM m tag).toNat : Int) = valM m tag := Int.toNat_of_nonneg hv.1
    rw [hvt] at c2
    rcases txt_cases (lst so) (valM m tag).toNat with ⟨s, hs, ht⟩ | ⟨er, hne, ht⟩
    · rw [ht] at c2
      simp only [fws, cond_true, cond_false, if_true, if_false, unV, isNil, optI, iV, stepI, evalR, reduceIte, reduceCtorEq, Nat.reduceEqDiff, Int.reduceLT, Int.reduceLE, Int.reduceToNat, Nat.reduceLT, Nat.reduceLeDiff, Int.reduceEq, Int.reduceNeg, IntKind.bits, Nat.reduceAdd, Nat.reduceMul, Nat.reducePow, Int.reducePow, ini, fwh, lk, cellsAt, tagOf, spotOf, rdN, spl, fillL, zr, fwi, F_dyn_table_textsr0_W, F_dyn_table_textsr1_W, F_dyn_table_textsr2_W, F_dyn_table_textsr3_W, F_dyn_table_textsr4_W, F_dyn_table_textsr5_W, F_dyn_table_textsr6_W, F_dyn_table_textsr7_W, F_dyn_table_textsr8_W, F_dyn_table_textsr9_W, F_dyn_table_textsr10_W, F_dyn_table_textsr11_W, F_dyn_table_textsr12_W, F_dyn_table_textsl0_W, F_dyn_table_textsr13_W, F_dyn_table_textsr14_W, F_dyn_table_textsr15_W, F_dyn_table_textsr16_W, F_dyn_table_textsr17_W, F_dyn_table_textsr18_W, F_dyn_table_textsr19_W, F_dyn_table_textsr20_W, F_dyn_table_textsr21_W, F_dyn_table_textsr22_W, F_dyn_table_textsr23_W, F_dyn_table_textsr24_W, F_dyn_table_textsl1_W, F_dyn_table_textsr25_W, F_dyn_table_textsc_W, e0, e3, e9, e38, e39, e40, q1, hx, hld, g1, Ev_det c1, w2, m2, m3, okV, CC_of c2, hd, b1]
      refine hN _ _ (D.set c (strV s)) ⟨⟨?_, ?_, ?_⟩, ?_, ?_, ?_⟩ (x1.setD c (strV s)) (.inr ⟨s, hs, rfl⟩)
      all_goals (first | assumption | rfl)
    · rw [ht] at c2
      simp only [fws, cond_true, cond_false, if_true, if_false, unV, isNil, optI, iV, stepI, evalR, reduceIte, reduceCtorEq, Nat.reduceEqDiff, Int.reduceLT, Int.reduceLE, Int.reduceToNat, Nat.reduceLT, Nat.reduceLeDiff, Int.reduceEq, Int.reduceNeg, IntKind.bits, Nat.reduceAdd, Nat.reduceMul, Nat.reducePow, Int.reducePow, ini, fwh, lk, cellsAt, tagOf, spotOf, rdN, spl, fillL, zr, fwi, F_dyn_table_textsr0_W, F_dyn_table_textsr1_W, F_dyn_table_textsr2_W, F_dyn_table_textsr3_W, F_dyn_table_textsr4_W, F_dyn_table_textsr5_W, F_dyn_table_textsr6_W, F_dyn_table_textsr7_W, F_dyn_table_textsr8_W, F_dyn_table_textsr9_W, F_dyn_table_textsr10_W, F_dyn_table_textsr11_W, F_dyn_table_textsr12_W, F_dyn_table_textsl0_W, F_dyn_table_textsr13_W, F_dyn_table_textsr14_W, F_dyn_table_textsr15_W, F_dyn_table_textsr16_W, F_dyn_table_textsr17_W, F_dyn_table_textsr18_W, F_dyn_table_textsr19_W, F_dyn_table_textsr20_W, F_dyn_table_textsr21_W, F_dyn_table_textsr22_W, F_dyn_table_textsr23_W, F_dyn_table_textsr24_W, F_dyn_table_textsl1_W, F_dyn_table_textsr25_W, F_dyn_table_textsc_W, e0, e3, e9, e38, e39, e40, q1, hx, hld, g1, Ev_det c1, w2, m2, m3, okV, CC_of c2, hne]
      exact hF _ _ x1 rfl
end Go.Proofs.Ytdkdifjjpbfohaa
/- What a library needs. -/
namespace Go.Proofs.Ytdkdifjjpbfohaa
open Go Fw
set_option linter.unusedSimpArgs false
set_option linter.unusedVariables false
set_option linter.unusedSectionVars false

def FR (H0 h : Heap) (kd : Nat) : Prop := H0.length ≤ h.length ∧ ∀ q, q < H0.length → q ≠ kd → h[q]? = H0[q]?
def good (s : List UInt8) : Prop := plain s = true ∧ s ≠ []
structure YS (H0 h : Heap) (L kd : Nat) (m : List (Int × Int)) (nd : Value) (ns : List Int) (D : List Value) (nv : Value) (ss : List (List UInt8)) : Prop where
  xs : XS H0 h L kd m nd ns (D.set 2 nv)
  own : Own strE h nv ss
  nb : blkV nv = none ∨ ∃ b, blkV nv = some b ∧ H0.length ≤ b
section
variable {H0 h : Heap} {L kd : Nat} {m : List (Int × Int)} {nd nv : Value} {ns : List Int} {D : List Value} {ss : List (List UInt8)}
theorem XS.fr {D : List Value} (x : XS H0 h L kd m nd ns D) : FR H0 h kd := ⟨x.hl, x.old⟩
theorem XS.same {D : List Value} (x : XS H0 h L kd m nd ns D) {h' : Heap} (hl : h.length ≤ h'.length) (hs : ∀ q, q < H0.length → h'[q]? = h[q]?) : XS H0 h' L kd m nd ns D := by
  have := x.hl
  have := x.kl
  have := x.L1
  exact ⟨x.tb.of_same (hs _ (by omega)) (hs _ (by omega)), by rw [hs _ x.kl]; exact x.d, x.dl, x.own.keep fun b hb => hs _ (x.nl b hb), x.k1, x.k2, x.nb, by omega, x.L1, x.kl, x.nl, fun q h1 h2 => by rw [hs q h1]; exact x.old q h1 h2⟩
theorem YS.push (y : YS H0 h L kd m nd ns D nv ss) (hb : ss.length ≤ 16) (s : List UInt8) :
    ∃ nv' h', appV 1 16 h nv [strV s] 1 = some (nv', h') ∧ nv'.cells = #[nv'] ∧ oneAll nv' = true ∧ h'[kd]? = some (blk 40 (D.set 2 nv)) ∧ YS H0 (h'.set kd (blk 40 (D.set 2 nv'))) L kd m nd ns D nv' (ss ++ [s]) := by
  obtain ⟨nv', h', a1, a2, a3⟩ := y.own.app (m := [s]) (n := 1) (eb := 16) (k := 1) rfl rfl (by simp; omega)
  have hkl := y.xs.kl
  have hhl := y.xs.hl
  have hsame : ∀ q, q < H0.length → h'[q]? = h[q]? := fun q hq => by
    refine a3.same q (by omega) fun e => ?_
    rcases y.nb with n | ⟨b, n, n1⟩
    · rw [n] at e; cases e
    · rw [n] at e; cases e; omega
  have x1 := y.xs.same a3.len hsame
  have nb' : blkV nv' = none ∨ ∃ b, blkV nv' = some b ∧ H0.length ≤ b := by
    rcases a3.blk with e | ⟨_, b, e, e1⟩
    · rw [e]; exact y.nb
    · exact .inr ⟨b, e, by omega⟩
  have x2 := x1.setD 2 nv'
  rw [List.set_set] at x2
  refine ⟨nv', h', a1, ?_, ?_, x1.d, ⟨x2, a2.keep fun b hb => List.getElem?_set_ne fun e => ?_, nb'⟩⟩
  · rcases a2 with ⟨_, rfl⟩ | ⟨b, t, rfl, _⟩ <;> rfl
  · rcases a2 with ⟨_, rfl⟩ | ⟨b, t, rfl, _⟩ <;> exact oneAll_slice
  · rcases nb' with n | ⟨b', n, n1⟩
    · rw [n] at hb; cases hb
    · rw [n] at hb; cases hb; omega
theorem loop_texts1 {T : Tab} (h1 : T 75 = some F_le_Plain) (h2 : T 70 = some F_le_Text) {so : Option (List UInt8)} (hso : (lst so).length ≤ 100000000) (hn : ∀ n ∈ ns, isU64 n) (hnl : ns.length ≤ 16) (hD : D.length = 40) :
    ∀ (k i : Nat) (h : Heap) (env : Env) (nv : Value) (ss : List (List UInt8)), i + k = ns.length → ss.length = i → (∀ s ∈ ss, good s) → env 3 = ptrA kd 0 → env 9 = slV byteE so → env 77 = nd → env 78 = .int .i64 ns.length → env 79 = .int .i64 i → YS H0 h L kd m nd ns D nv ss →
    W T (.loop F_dyn_table_textsl1) env h fun x e h' => FR H0 h' kd ∧ ((x = .ret ∧ ∃ er, er ≠ 0 ∧ e 8 = .int .i64 er) ∨ (x = .exit 2 ∧ ∃ nv ss, YS H0 h' L kd m nd ns D nv ss ∧ ss.length = ns.length ∧ ∀ s ∈ ss, good s)) := by
  intro k
  induction k with
  | zero =>
    intro i h env nv ss hi hs hg e3 e9 e77 e78 e79 y
    have q : ¬ ((i : Int) < ns.length) := by omega
    rw [w_loop]
    simp only [fws, cond_true, cond_false, if_true, if_false, unV, isNil, optI, iV, stepI, evalR, reduceIte, reduceCtorEq, Nat.reduceEqDiff, Int.reduceLT, Int.reduceLE, Int.reduceToNat, Nat.reduceLT, Nat.reduceLeDiff, Int.reduceEq, Int.reduceNeg, IntKind.bits, Nat.reduceAdd, Nat.reduceMul, Nat.reducePow, Int.reducePow, ini, fwi, F_dyn_table_textsr0_W, F_dyn_table_textsr1_W, F_dyn_table_textsr2_W, F_dyn_table_textsr3_W, F_dyn_table_textsr4_W, F_dyn_table_textsr5_W, F_dyn_table_textsr6_W, F_dyn_table_textsr7_W, F_dyn_table_textsr8_W, F_dyn_table_textsr9_W, F_dyn_table_textsr10_W, F_dyn_table_textsr11_W, F_dyn_table_textsr12_W, F_dyn_table_textsl0_W, F_dyn_table_textsr13_W, F_dyn_table_textsr14_W, F_dyn_table_textsr15_W, F_dyn_table_textsr16_W, F_dyn_table_textsr17_W, F_dyn_table_textsr18_W, F_dyn_table_textsr19_W, F_dyn_table_textsr20_W, F_dyn_table_textsr21_W, F_dyn_table_textsr22_W, F_dyn_table_textsr23_W, F_dyn_table_textsr24_W, F_dyn_table_textsl1_W, F_dyn_table_textsr25_W, F_dyn_table_textsc_W, e78, e79, q]
    exact ⟨y.xs.fr, .inr ⟨trivial, nv, ss, y, by omega, hg⟩⟩
  | succ k ih =>
    intro i h env nv ss hi hs hg e3 e9 e77 e78 e79 y
    have q : ((i : Int) < ns.length) := by omega
    have hix : i < ns.length := by omega
    obtain ⟨p, hx, hld⟩ : ∃ p, ixaI h 1 nd (.int .i64 i) = some (p, h) ∧ loadI h p = some (.int .u64 ns[i], h) := by
      obtain ⟨a, t, cs, b, g1, g2, g3, _⟩ := y.xs.own.ix1 rfl hix .i64 (f := fun n => .int .u64 n) (fun _ => rfl)
      exact ⟨_, g2, g3⟩
    have hv := hn _ (List.getElem_mem hix)
    have c2 := f_le_Text (T := T) h1 h2 so hso ns[i].toNat (by unfold isU64 at hv; omega)
    have hvt : (ns[i].toNat : Int) = ns[i] := Int.toNat_of_nonneg hv.1
    rw [hvt] at c2
    have w2 : IntKind.i64.wrap ((i : Int) + 1) = ((i + 1 : Nat) : Int) := by rw [wrapI64 (by omega) (by omega)]; rfl
    rw [w_loop]
    rcases txt_cases (lst so) ns[i].toNat with ⟨s, hps, ht⟩ | ⟨er, hne, ht⟩
    · rw [ht] at c2
      by_cases hse : s = []
      · subst hse
        have b0 : strEq ⟨([] : List UInt8).toArray⟩ ⟨#[]⟩ = true := rfl
        simp only [fws, cond_true, cond_false, if_true, if_false, unV, isNil, optI, iV, stepI, evalR, reduceIte, reduceCtorEq, Nat.reduceEqDiff, Int.reduceLT, Int.reduceLE, Int.reduceToNat, Nat.reduceLT, Nat.reduceLeDiff, Int.reduceEq, Int.reduceNeg, IntKind.bits, Nat.reduceAdd, Nat.reduceMul, Nat.reducePow, Int.reducePow, ini, fwh, lk, cellsAt, tagOf, spotOf, rdN, spl, fillL, zr, fwi, F_dyn_table_textsr0_W, F_dyn_table_textsr1_W, F_dyn_table_textsr2_W, F_dyn_table_textsr3_W, F_dyn_table_textsr4_W, F_dyn_table_textsr5_W, F_dyn_table_textsr6_W, F_dyn_table_textsr7_W, F_dyn_table_textsr8_W, F_dyn_table_textsr9_W, F_dyn_table_textsr10_W, F_dyn_table_textsr11_W, F_dyn_table_textsr12_W, F_dyn_table_textsl0_W, F_dyn_table_textsr13_W, F_dyn_table_textsr14_W, F_dyn_table_textsr15_W, F_dyn_table_textsr16_W, F_dyn_table_textsr17_W, F_dyn_table_textsr18_W, F_dyn_table_textsr19_W, F_dyn_table_textsr20_W, F_dyn_table_textsr21_W, F_dyn_table_textsr22_W, F_dyn_table_textsr23_W, F_dyn_table_textsr24_W, F_dyn_table_textsl1_W, F_dyn_table_textsr25_W, F_dyn_table_textsc_W, e3, e9, e77, e78, e79, q, hx, hld, w2, CC_of c2, b0]
        exact ⟨y.xs.fr, .inl ⟨trivial, _, by decide, rfl⟩⟩
      · obtain ⟨nv', h', a1, a2, a3, a4, a5⟩ := y.push (by omega) s
        have b0 : strEq ⟨s.toArray⟩ ⟨#[]⟩ = false := by
          show strEq ⟨s.toArray⟩ ⟨([] : List UInt8).toArray⟩ = false
          rw [strEq_str]; exact decide_eq_false hse
        have hd := y.xs.d
        have hdr : (D.set 2 nv).drop 2 = nv :: D.drop 3 := by
          rw [List.drop_set, List.drop_eq_getElem_cons (i := 2) (by omega)]; rfl
        have bd : decide (2 + 1 ≤ D.length) = true := by rw [hD]; rfl
        have hsrc : srcOf h 1 (immV 1 [.string ⟨s.toArray⟩]) = some ([strV s], 1) := rfl
        simp only [fws, cond_true, cond_false, if_true, if_false, unV, isNil, optI, iV, stepI, evalR, reduceIte, reduceCtorEq, Nat.reduceEqDiff, Int.reduceLT, Int.reduceLE, Int.reduceToNat, Nat.reduceLT, Nat.reduceLeDiff, Int.reduceEq, Int.reduceNeg, IntKind.bits, Nat.reduceAdd, Nat.reduceMul, Nat.reducePow, Int.reducePow, ini, fwh, lk, cellsAt, tagOf, spotOf, rdN, spl, fillL, zr, fwi, F_dyn_table_textsr0_W, F_dyn_table_textsr1_W, F_dyn_table_textsr2_W, F_dyn_table_textsr3_W, F_dyn_table_textsr4_W, F_dyn_table_textsr5_W, F_dyn_table_textsr6_W, F_dyn_table_textsr7_W, F_dyn_table_textsr8_W, F_dyn_table_textsr9_W, F_dyn_table_textsr10_W, F_dyn_table_textsr11_W, F_dyn_table_textsr12_W, F_dyn_table_textsl0_W, F_dyn_table_textsr13_W, F_dyn_table_textsr14_W, F_dyn_table_textsr15_W, F_dyn_table_textsr16_W, F_dyn_table_textsr17_W, F_dyn_table_textsr18_W, F_dyn_table_textsr19_W, F_dyn_table_textsr20_W, F_dyn_table_textsr21_W, F_dyn_table_textsr22_W, F_dyn_table_textsr23_W, F_dyn_table_textsr24_W, F_dyn_table_textsl1_W, F_dyn_table_textsr25_W, F_dyn_table_textsc_W, e3, e9, e77, e78, e79, q, hx, hld, w2, CC_of c2, b0, hd, hdr, hsrc, a1, a2, a3, a4, List.length_set, List.set_set, bd]
        refine ih (i + 1) _ _ nv' (ss ++ [s]) (by omega) (by rw [List.length_append]; simp [hs]) (fun t ht => ?_) ?_ ?_ ?_ ?_ ?_ a5
        · rcases List.mem_append.1 ht with ht | ht
          · exact hg t ht
          · rw [List.mem_singleton] at ht
            rw [ht]; exact ⟨hps, hse⟩
        all_goals (first | assumption | rfl)
    · rw [ht] at c2
      simp only [fws, cond_true, cond_false, if_true, if_false, unV, isNil, optI, iV, stepI, evalR, reduceIte, reduceCtorEq, Nat.reduceEqDiff, Int.reduceLT, Int.reduceLE, Int.reduceToNat, Nat.reduceLT, Nat.reduceLeDiff, Int.reduceEq, Int.reduceNeg, IntKind.bits, Nat.reduceAdd, Nat.reduceMul, Nat.reducePow, Int.reducePow, ini, fwh, lk, cellsAt, tagOf, spotOf, rdN, spl, fillL, zr, fwi, F_dyn_table_textsr0_W, F_dyn_table_textsr1_W, F_dyn_table_textsr2_W, F_dyn_table_textsr3_W, F_dyn_table_textsr4_W, F_dyn_table_textsr5_W, F_dyn_table_textsr6_W, F_dyn_table_textsr7_W, F_dyn_table_textsr8_W, F_dyn_table_textsr9_W, F_dyn_table_textsr10_W, F_dyn_table_textsr11_W, F_dyn_table_textsr12_W, F_dyn_table_textsl0_W, F_dyn_table_textsr13_W, F_dyn_table_textsr14_W, F_dyn_table_textsr15_W, F_dyn_table_textsr16_W, F_dyn_table_textsr17_W, F_dyn_table_textsr18_W, F_dyn_table_textsr19_W, F_dyn_table_textsr20_W, F_dyn_table_textsr21_W, F_dyn_table_textsr22_W, F_dyn_table_textsr23_W, F_dyn_table_textsr24_W, F_dyn_table_textsl1_W, F_dyn_table_textsr25_W, F_dyn_table_textsc_W, e3, e9, e77, e78, e79, q, hx, hld, w2, CC_of c2, hne]
      exact ⟨y.xs.fr, .inl ⟨trivial, _, by decide, rfl⟩⟩
end
end Go.Proofs.Ytdkdifjjpbfohaa
/- The texts of a dynamic section. -/
namespace Go.Proofs.Ytdkdifjjpbfohaa
open Go Fw
set_option linter.unusedSimpArgs false
set_option linter.unusedVariables false
set_option linter.unusedSectionVars false

section
variable {T : Tab} (h0 : T 76 = some F_num_Sub) (h1 : T 74 = some F_num_Inside) (h2 : T 64 = some F_head_Off) (h3 : T 65 = some F_le_Part) (h4 : T 55 = some F_head_Part) (h5 : T 69 = some F_dyn_Strings) (d : Hd) (hd : d.wf) (o : Option (List UInt8)) (hl : (lst o).length ≤ 100000000)
variable {L kd : Nat} {h : Heap} {env : Env} {D : List Value}
theorem tx_r0 (e0 : env 0 = ptrT L) (e1 : env 1 = slV byteE o) (e2 : env 2 = d.v) (e3 : env 3 = ptrA kd 0) : W T (.reg F_dyn_table_textsr0) env h fun x e h' => h' = h ++ [blk 16 d.cs] ∧ x = .normal ∧ e 0 = ptrT L ∧ e 1 = slV byteE o ∧ e 3 = ptrA kd 0 ∧ e 6 = ptrA h.length 0 := by
  unfold Hd.v Hd.cs at e2
  unfold Hd.cs
  simp only [fws, cond_true, cond_false, if_true, if_false, unV, isNil, optI, iV, stepI, evalR, reduceIte, reduceCtorEq, Nat.reduceEqDiff, Int.reduceLT, Int.reduceLE, Int.reduceToNat, Nat.reduceLT, Nat.reduceLeDiff, Int.reduceEq, Int.reduceNeg, IntKind.bits, Nat.reduceAdd, Nat.reduceMul, Nat.reducePow, Int.reducePow, ini, fwh, lk, cellsAt, tagOf, spotOf, rdN, spl, fillL, zr, fwi, F_dyn_table_textsr0_W, F_dyn_table_textsr1_W, F_dyn_table_textsr2_W, F_dyn_table_textsr3_W, F_dyn_table_textsr4_W, F_dyn_table_textsr5_W, F_dyn_table_textsr6_W, F_dyn_table_textsr7_W, F_dyn_table_textsr8_W, F_dyn_table_textsr9_W, F_dyn_table_textsr10_W, F_dyn_table_textsr11_W, F_dyn_table_textsr12_W, F_dyn_table_textsl0_W, F_dyn_table_textsr13_W, F_dyn_table_textsr14_W, F_dyn_table_textsr15_W, F_dyn_table_textsr16_W, F_dyn_table_textsr17_W, F_dyn_table_textsr18_W, F_dyn_table_textsr19_W, F_dyn_table_textsr20_W, F_dyn_table_textsr21_W, F_dyn_table_textsr22_W, F_dyn_table_textsr23_W, F_dyn_table_textsr24_W, F_dyn_table_textsl1_W, F_dyn_table_textsr25_W, F_dyn_table_textsc_W, e2, oneC_sl]
  exact ⟨trivial, trivial, e0, e1, e3, trivial⟩
include h0 h1 h2 h3 h4 h5 hd hl
theorem tx_r1 (e0 : env 0 = ptrT L) (e1 : env 1 = slV byteE o) (e3 : env 3 = ptrA kd 0) {kb : Nat} (e6 : env 6 = ptrA kb 0) (g1 : h[kb]? = some (blk 16 d.cs)) (g2 : h[kd]? = some (blk 40 D))
    {t7 t8 : List Value} {a s : Int} (hD : D.length = 40) (hp : D.all (pureV 5) = true) (hO : D.all oneC = true) (h7 : D.drop 7 = .int .u64 a :: t7) (h8 : D.drop 8 = .int .u64 s :: t8) (ha : isU64 a) (hs : isU64 s) :
    W T (.dreg F_dyn_table_textsr1 []) env h fun x e h' => h' = h ∧ x = .normal ∧ (e 10 = bF ∨ (e 10 = .bool true ∧ ∃ so, (lst so).length ≤ 100000000 ∧ WT e L kd so)) := by
  have c1 := f_dyn_Strings h0 h1 h2 h3 h4 d hd o hl h5 hD hp hO h7 h8 ha hs
  have hrd : rdN D 40 = some D := rdN_all D hD.symm
  unfold Hd.v Hd.cs at c1
  unfold Hd.cs at g1
  cases hpf : partF (lst o) d a s with
  | none =>
    rw [hpf] at c1
    simp only [partV] at c1
    simp only [fws, cond_true, cond_false, if_true, if_false, unV, isNil, optI, iV, stepI, evalR, reduceIte, reduceCtorEq, Nat.reduceEqDiff, Int.reduceLT, Int.reduceLE, Int.reduceToNat, Nat.reduceLT, Nat.reduceLeDiff, Int.reduceEq, Int.reduceNeg, IntKind.bits, Nat.reduceAdd, Nat.reduceMul, Nat.reducePow, Int.reducePow, ini, fwh, lk, cellsAt, tagOf, spotOf, rdN, spl, fillL, zr, fwi, F_dyn_table_textsr0_W, F_dyn_table_textsr1_W, F_dyn_table_textsr2_W, F_dyn_table_textsr3_W, F_dyn_table_textsr4_W, F_dyn_table_textsr5_W, F_dyn_table_textsr6_W, F_dyn_table_textsr7_W, F_dyn_table_textsr8_W, F_dyn_table_textsr9_W, F_dyn_table_textsr10_W, F_dyn_table_textsr11_W, F_dyn_table_textsr12_W, F_dyn_table_textsl0_W, F_dyn_table_textsr13_W, F_dyn_table_textsr14_W, F_dyn_table_textsr15_W, F_dyn_table_textsr16_W, F_dyn_table_textsr17_W, F_dyn_table_textsr18_W, F_dyn_table_textsr19_W, F_dyn_table_textsr20_W, F_dyn_table_textsr21_W, F_dyn_table_textsr22_W, F_dyn_table_textsr23_W, F_dyn_table_textsr24_W, F_dyn_table_textsl1_W, F_dyn_table_textsr25_W, F_dyn_table_textsc_W, e0, e1, e3, e6, g1, g2, hrd, CC_of c1]
    exact ⟨trivial, trivial, .inl trivial⟩
  | some l =>
    rw [hpf] at c1
    simp only [partV] at c1
    obtain ⟨so, hso, hsl⟩ := immN_sl l
    have := partF_len hpf
    rw [hsl] at c1
    simp only [fws, cond_true, cond_false, if_true, if_false, unV, isNil, optI, iV, stepI, evalR, reduceIte, reduceCtorEq, Nat.reduceEqDiff, Int.reduceLT, Int.reduceLE, Int.reduceToNat, Nat.reduceLT, Nat.reduceLeDiff, Int.reduceEq, Int.reduceNeg, IntKind.bits, Nat.reduceAdd, Nat.reduceMul, Nat.reducePow, Int.reducePow, ini, fwh, lk, cellsAt, tagOf, spotOf, rdN, spl, fillL, zr, fwi, F_dyn_table_textsr0_W, F_dyn_table_textsr1_W, F_dyn_table_textsr2_W, F_dyn_table_textsr3_W, F_dyn_table_textsr4_W, F_dyn_table_textsr5_W, F_dyn_table_textsr6_W, F_dyn_table_textsr7_W, F_dyn_table_textsr8_W, F_dyn_table_textsr9_W, F_dyn_table_textsr10_W, F_dyn_table_textsr11_W, F_dyn_table_textsr12_W, F_dyn_table_textsl0_W, F_dyn_table_textsr13_W, F_dyn_table_textsr14_W, F_dyn_table_textsr15_W, F_dyn_table_textsr16_W, F_dyn_table_textsr17_W, F_dyn_table_textsr18_W, F_dyn_table_textsr19_W, F_dyn_table_textsr20_W, F_dyn_table_textsr21_W, F_dyn_table_textsr22_W, F_dyn_table_textsr23_W, F_dyn_table_textsr24_W, F_dyn_table_textsl1_W, F_dyn_table_textsr25_W, F_dyn_table_textsc_W, e0, e1, e3, e6, g1, g2, hrd, CC_of c1]
    exact ⟨trivial, trivial, .inr ⟨trivial, so, by rw [hso]; omega, ⟨e0, e3, rfl⟩⟩⟩
end
section
variable {T : Tab} {H0 h : Heap} {L kd : Nat} {m : List (Int × Int)} {nd : Value} {ns : List Int} {D : List Value} {so : Option (List UInt8)} {env : Env}
def wT (kd : Nat) : Value := immV 2 [.int .u64 14, ptrA kd 0, .int .u64 29, ptrA kd 1]
theorem texts_end {w : Value} (he : WU env L kd so w 2) (x : XS H0 h L kd m nd ns D) : W T (.loop F_dyn_table_textsl0) env h fun y e h' => h' = h ∧ y = .exit 0 ∧ WT e L kd so := by
  have q : ¬ ((2 : Int) < 2) := by decide
  obtain ⟨⟨e0, e3, e9⟩, e38, e39, e40⟩ := he
  have e40' : env 40 = .int .i64 2 := e40
  rw [w_loop]
  simp only [fws, cond_true, cond_false, if_true, if_false, unV, isNil, optI, iV, stepI, evalR, reduceIte, reduceCtorEq, Nat.reduceEqDiff, Int.reduceLT, Int.reduceLE, Int.reduceToNat, Nat.reduceLT, Nat.reduceLeDiff, Int.reduceEq, Int.reduceNeg, IntKind.bits, Nat.reduceAdd, Nat.reduceMul, Nat.reducePow, Int.reducePow, ini, fwh, lk, cellsAt, tagOf, spotOf, rdN, spl, fillL, zr, fwi, F_dyn_table_textsr0_W, F_dyn_table_textsr1_W, F_dyn_table_textsr2_W, F_dyn_table_textsr3_W, F_dyn_table_textsr4_W, F_dyn_table_textsr5_W, F_dyn_table_textsr6_W, F_dyn_table_textsr7_W, F_dyn_table_textsr8_W, F_dyn_table_textsr9_W, F_dyn_table_textsr10_W, F_dyn_table_textsr11_W, F_dyn_table_textsr12_W, F_dyn_table_textsl0_W, F_dyn_table_textsr13_W, F_dyn_table_textsr14_W, F_dyn_table_textsr15_W, F_dyn_table_textsr16_W, F_dyn_table_textsr17_W, F_dyn_table_textsr18_W, F_dyn_table_textsr19_W, F_dyn_table_textsr20_W, F_dyn_table_textsr21_W, F_dyn_table_textsr22_W, F_dyn_table_textsr23_W, F_dyn_table_textsr24_W, F_dyn_table_textsl1_W, F_dyn_table_textsr25_W, F_dyn_table_textsc_W, e39, e40', q]
  exact ⟨trivial, trivial, ⟨e0, e3, e9⟩⟩
theorem tx_l0 (h0 : T 58 = some F_dyn_table_has) (h1 : T 75 = some F_le_Plain) (h2 : T 70 = some F_le_Text) (hso : (lst so).length ≤ 100000000) (hm : wfM m) (he : WT env L kd so) (x : XS H0 h L kd m nd ns (strV [] :: strV [] :: D)) :
    W T (.seq (.dreg F_dyn_table_textsr4 []) (.block 0 (.loop F_dyn_table_textsl0))) env h fun y e h' => FR H0 h' kd ∧ ((y = .ret ∧ e 8 = .int .i64 91) ∨ (y = .normal ∧ WT e L kd so ∧ ∃ s0 s1, plain s0 = true ∧ plain s1 = true ∧ XS H0 h' L kd m nd ns (strV s0 :: strV s1 :: D))) := by
  obtain ⟨e0, e3, e9⟩ := he
  have hln : ∀ G, lenI G 1 (wT kd) = some (.int .i64 2, G) := fun _ => rfl
  unfold wT at hln
  simp only [fws, cond_true, cond_false, if_true, if_false, unV, isNil, optI, iV, stepI, evalR, reduceIte, reduceCtorEq, Nat.reduceEqDiff, Int.reduceLT, Int.reduceLE, Int.reduceToNat, Nat.reduceLT, Nat.reduceLeDiff, Int.reduceEq, Int.reduceNeg, IntKind.bits, Nat.reduceAdd, Nat.reduceMul, Nat.reducePow, Int.reducePow, ini, fwh, lk, cellsAt, tagOf, spotOf, rdN, spl, fillL, zr, fwi, F_dyn_table_textsr0_W, F_dyn_table_textsr1_W, F_dyn_table_textsr2_W, F_dyn_table_textsr3_W, F_dyn_table_textsr4_W, F_dyn_table_textsr5_W, F_dyn_table_textsr6_W, F_dyn_table_textsr7_W, F_dyn_table_textsr8_W, F_dyn_table_textsr9_W, F_dyn_table_textsr10_W, F_dyn_table_textsr11_W, F_dyn_table_textsr12_W, F_dyn_table_textsr13_W, F_dyn_table_textsr14_W, F_dyn_table_textsr15_W, F_dyn_table_textsr16_W, F_dyn_table_textsr17_W, F_dyn_table_textsr18_W, F_dyn_table_textsr19_W, F_dyn_table_textsr20_W, F_dyn_table_textsr21_W, F_dyn_table_textsr22_W, F_dyn_table_textsr23_W, F_dyn_table_textsr24_W, F_dyn_table_textsl1_W, F_dyn_table_textsr25_W, F_dyn_table_textsc_W, e0, e3, e9, hln]
  refine texts_step (w := wT kd) (j := 0) h0 h1 h2 hso hm ⟨⟨?_, ?_, ?_⟩, ?_, ?_, ?_⟩ (by decide) x (by decide) (fun _ => rfl) (fun _ => rfl) (fun e h' x' h8 => ?_) fun e h' D' he' x' hD' => ?_
  all_goals try (first | assumption | rfl)
  · simp only [fws, cond_true, cond_false, if_true, if_false, unV, isNil, optI, iV, stepI, evalR, reduceIte, reduceCtorEq, Nat.reduceEqDiff, Int.reduceLT, Int.reduceLE, Int.reduceToNat, Nat.reduceLT, Nat.reduceLeDiff, Int.reduceEq, Int.reduceNeg, IntKind.bits, Nat.reduceAdd, Nat.reduceMul, Nat.reducePow, Int.reducePow, ini]
    exact ⟨x'.fr, .inl ⟨trivial, h8⟩⟩
  have hD1 : ∃ s0, plain s0 = true ∧ D' = strV s0 :: strV [] :: D := by
    rcases hD' with rfl | ⟨s, hs, rfl⟩
    · exact ⟨[], rfl, rfl⟩
    · exact ⟨s, hs, rfl⟩
  obtain ⟨s0, hs0, rfl⟩ := hD1
  refine texts_step (w := wT kd) (j := 1) h0 h1 h2 hso hm he' (by decide) x' (by decide) (fun _ => rfl) (fun _ => rfl) (fun e h' x' h8 => ?_) fun e h' D' he' x' hD' => ?_
  · simp only [fws, cond_true, cond_false, if_true, if_false, unV, isNil, optI, iV, stepI, evalR, reduceIte, reduceCtorEq, Nat.reduceEqDiff, Int.reduceLT, Int.reduceLE, Int.reduceToNat, Nat.reduceLT, Nat.reduceLeDiff, Int.reduceEq, Int.reduceNeg, IntKind.bits, Nat.reduceAdd, Nat.reduceMul, Nat.reducePow, Int.reducePow, ini]
    exact ⟨x'.fr, .inl ⟨trivial, h8⟩⟩
  have hD1 : ∃ s1, plain s1 = true ∧ D' = strV s0 :: strV s1 :: D := by
    rcases hD' with rfl | ⟨s, hs, rfl⟩
    · exact ⟨[], rfl, rfl⟩
    · exact ⟨s, hs, rfl⟩
  obtain ⟨s1, hs1, rfl⟩ := hD1
  refine W.mono (texts_end he' x') fun y e h'' ⟨g1, g2, g3⟩ => ?_
  subst g1 g2
  simp only [fws, cond_true, cond_false, if_true, if_false, unV, isNil, optI, iV, stepI, evalR, reduceIte, reduceCtorEq, Nat.reduceEqDiff, Int.reduceLT, Int.reduceLE, Int.reduceToNat, Nat.reduceLT, Nat.reduceLeDiff, Int.reduceEq, Int.reduceNeg, IntKind.bits, Nat.reduceAdd, Nat.reduceMul, Nat.reducePow, Int.reducePow, ini]
  exact ⟨x'.fr, .inr ⟨trivial, g3, s0, s1, hs0, hs1, x'⟩⟩
theorem tx_l1 (h1 : T 75 = some F_le_Plain) (h2 : T 70 = some F_le_Text) (hso : (lst so).length ≤ 100000000) (hn : ∀ n ∈ ns, isU64 n) (hnl : ns.length ≤ 16) (he : WT env L kd so) (hD : D.length = 40) (x : XS H0 h L kd m nd ns (D.set 2 (.slice none 0 0))) :
    W T (.seq (.reg F_dyn_table_textsr15) (.block 2 (.loop F_dyn_table_textsl1))) env h fun y e h' => FR H0 h' kd ∧ ((y = .ret ∧ ∃ er, er ≠ 0 ∧ e 8 = .int .i64 er) ∨ (y = .normal ∧ ∃ nv ss, YS H0 h' L kd m nd ns D nv ss ∧ ss.length = ns.length ∧ ∀ s ∈ ss, good s)) := by
  obtain ⟨e0, e3, e9⟩ := he
  have hln := x.own.len
  have m2 := x.tb.tbl
  simp only [fws, cond_true, cond_false, if_true, if_false, unV, isNil, optI, iV, stepI, evalR, reduceIte, reduceCtorEq, Nat.reduceEqDiff, Int.reduceLT, Int.reduceLE, Int.reduceToNat, Nat.reduceLT, Nat.reduceLeDiff, Int.reduceEq, Int.reduceNeg, IntKind.bits, Nat.reduceAdd, Nat.reduceMul, Nat.reducePow, Int.reducePow, ini, fwh, lk, cellsAt, tagOf, spotOf, rdN, spl, fillL, zr, fwi, F_dyn_table_textsr0_W, F_dyn_table_textsr1_W, F_dyn_table_textsr2_W, F_dyn_table_textsr3_W, F_dyn_table_textsr4_W, F_dyn_table_textsr5_W, F_dyn_table_textsr6_W, F_dyn_table_textsr7_W, F_dyn_table_textsr8_W, F_dyn_table_textsr9_W, F_dyn_table_textsr10_W, F_dyn_table_textsr11_W, F_dyn_table_textsr12_W, F_dyn_table_textsl0_W, F_dyn_table_textsr13_W, F_dyn_table_textsr14_W, F_dyn_table_textsr15_W, F_dyn_table_textsr16_W, F_dyn_table_textsr17_W, F_dyn_table_textsr18_W, F_dyn_table_textsr19_W, F_dyn_table_textsr20_W, F_dyn_table_textsr21_W, F_dyn_table_textsr22_W, F_dyn_table_textsr23_W, F_dyn_table_textsr24_W, F_dyn_table_textsr25_W, F_dyn_table_textsc_W, e0, e3, e9, hln, m2]
  refine W.mono (loop_texts1 h1 h2 hso hn hnl hD ns.length 0 h _ (.slice none 0 0) [] (Nat.zero_add _) rfl (fun _ h => nomatch h) ?_ ?_ ?_ ?_ ?_ ⟨x, Own.nil, .inl rfl⟩) fun y e h' ⟨a1, a2⟩ => ?_
  all_goals try (first | assumption | rfl)
  rcases a2 with ⟨rfl, a3⟩ | ⟨rfl, a3⟩
  · simp only [fws, cond_true, cond_false, if_true, if_false, unV, isNil, optI, iV, stepI, evalR, reduceIte, reduceCtorEq, Nat.reduceEqDiff, Int.reduceLT, Int.reduceLE, Int.reduceToNat, Nat.reduceLT, Nat.reduceLeDiff, Int.reduceEq, Int.reduceNeg, IntKind.bits, Nat.reduceAdd, Nat.reduceMul, Nat.reducePow, Int.reducePow, ini]
    exact ⟨a1, .inl ⟨trivial, a3⟩⟩
  · simp only [fws, cond_true, cond_false, if_true, if_false, unV, isNil, optI, iV, stepI, evalR, reduceIte, reduceCtorEq, Nat.reduceEqDiff, Int.reduceLT, Int.reduceLE, Int.reduceToNat, Nat.reduceLT, Nat.reduceLeDiff, Int.reduceEq, Int.reduceNeg, IntKind.bits, Nat.reduceAdd, Nat.reduceMul, Nat.reducePow, Int.reducePow, ini]
    exact ⟨a1, .inr ⟨trivial, a3⟩⟩
end
end Go.Proofs.Ytdkdifjjpbfohaa
/- The texts of a dynamic section, joined. -/
namespace Go.Proofs.Ytdkdifjjpbfohaa
open Go Fw
set_option linter.unusedSimpArgs false
set_option linter.unusedVariables false
set_option linter.unusedSectionVars false

section
variable {T : Tab} (h0 : T 76 = some F_num_Sub) (h1 : T 74 = some F_num_Inside) (h2 : T 64 = some F_head_Off) (h3 : T 65 = some F_le_Part) (h4 : T 55 = some F_head_Part) (h5 : T 69 = some F_dyn_Strings)
variable (h6 : T 58 = some F_dyn_table_has) (h7 : T 75 = some F_le_Plain) (h8 : T 70 = some F_le_Text) (d : Hd) (hd : d.wf) (o : Option (List UInt8)) (hl : (lst o).length ≤ 100000000)
variable {H : Heap} {L kd : Nat} {m : List (Int × Int)} {nd : Value} {ns : List Int} {R : List Value}
abbrev D3 (a b c : Value) (R : List Value) : List Value := a :: b :: c :: R
include h0 h1 h2 h3 h4 h5 h6 h7 h8 hd hl
theorem ev_texts (h9 : T 59 = some F_dyn_table_texts) (hm : wfM m) (hn : ∀ n ∈ ns, isU64 n) (x : XS H H L kd m nd ns (D3 (strV []) (strV []) (.slice none 0 0) R))
    {t7 t8 : List Value} {a s : Int} (hp : R.all (pureV 5) = true) (hO : R.all oneC = true) (d4 : R.drop 4 = .int .u64 a :: t7) (d5 : R.drop 5 = .int .u64 s :: t8) (ha : isU64 a) (hs : isU64 s) :
    Ev T 59 [ptrT L, slV byteE o, d.v, ptrA kd 0] H fun v h' => FR H h' kd ∧ ((∃ er, er ≠ 0 ∧ v = .int .i64 er) ∨ (v = .int .i64 0 ∧ ∃ s0 s1 nv ss, plain s0 = true ∧ plain s1 = true ∧ (∀ s ∈ ss, good s) ∧ ss.length ≤ 16 ∧ Own strE h' nv ss ∧ (blkV nv = none ∨ ∃ b, blkV nv = some b ∧ H.length ≤ b) ∧ h'[kd]? = some (blk 40 (D3 (strV s0) (strV s1) nv R)))) := by
  rw [Ev_fn h9 rfl]
  show W T F_dyn_table_textsc _ _ (retQ [.tmp 8] _)
  unfold F_dyn_table_textsc
  rw [w_seq]
  refine W.mono (tx_r0 (L := L) (kd := kd) d o rfl rfl rfl rfl) fun y e h ⟨q1, q2, e0, e1, e3, e6⟩ => ?_
  subst q2
  have x1 := x.app [blk 16 d.cs]
  rw [← q1] at x1
  have gb : h[H.length]? = some (blk 16 d.cs) := by rw [q1, List.getElem?_append_right (Nat.le_refl _), Nat.sub_self]; rfl
  clear q1
  rw [seqQ_normal, w_seq]
  refine W.mono (tx_r1 h0 h1 h2 h3 h4 h5 d hd o hl e0 e1 e3 e6 gb x1.d x1.dl (by rw [List.all_cons, List.all_cons, List.all_cons, hp]; rfl) (by rw [List.all_cons, List.all_cons, List.all_cons, hO]; rfl) d4 d5 ha hs) fun y e h' ⟨q1, q2, q3⟩ => ?_
  subst h' q2
  rw [seqQ_normal]
  rcases q3 with e10 | ⟨e10, so, hso, he⟩
  · simp only [fws, cond_true, cond_false, if_true, if_false, unV, isNil, optI, iV, stepI, evalR, reduceIte, reduceCtorEq, Nat.reduceEqDiff, Int.reduceLT, Int.reduceLE, Int.reduceToNat, Nat.reduceLT, Nat.reduceLeDiff, Int.reduceEq, Int.reduceNeg, IntKind.bits, Nat.reduceAdd, Nat.reduceMul, Nat.reducePow, Int.reducePow, ini, fwh, lk, cellsAt, tagOf, spotOf, rdN, spl, fillL, zr, fwi, F_dyn_table_textsr0_W, F_dyn_table_textsr1_W, F_dyn_table_textsr2_W, F_dyn_table_textsr3_W, F_dyn_table_textsr4_W, F_dyn_table_textsr5_W, F_dyn_table_textsr6_W, F_dyn_table_textsr7_W, F_dyn_table_textsr8_W, F_dyn_table_textsr9_W, F_dyn_table_textsr10_W, F_dyn_table_textsr11_W, F_dyn_table_textsr12_W, F_dyn_table_textsl0_W, F_dyn_table_textsr13_W, F_dyn_table_textsr14_W, F_dyn_table_textsr15_W, F_dyn_table_textsr16_W, F_dyn_table_textsr17_W, F_dyn_table_textsr18_W, F_dyn_table_textsr19_W, F_dyn_table_textsr20_W, F_dyn_table_textsr21_W, F_dyn_table_textsr22_W, F_dyn_table_textsr23_W, F_dyn_table_textsr24_W, F_dyn_table_textsl1_W, F_dyn_table_textsr25_W, F_dyn_table_textsc_W, e10]
    exact ⟨x1.fr, .inl ⟨91, by decide, rfl⟩⟩
  have key : W T (.seq (.reg F_dyn_table_textsr2) (.cond (.t 29) (.seq (.reg F_dyn_table_textsr3) .ret) .skip)) e h fun y e h' => h' = h ∧ y = .normal ∧ WT e L kd so := by
    obtain ⟨e0, e3, e9⟩ := he
    simp only [fws, cond_true, cond_false, if_true, if_false, unV, isNil, optI, iV, stepI, evalR, reduceIte, reduceCtorEq, Nat.reduceEqDiff, Int.reduceLT, Int.reduceLE, Int.reduceToNat, Nat.reduceLT, Nat.reduceLeDiff, Int.reduceEq, Int.reduceNeg, IntKind.bits, Nat.reduceAdd, Nat.reduceMul, Nat.reducePow, Int.reducePow, ini, fwh, lk, cellsAt, tagOf, spotOf, rdN, spl, fillL, zr, fwi, F_dyn_table_textsr0_W, F_dyn_table_textsr1_W, F_dyn_table_textsr2_W, F_dyn_table_textsr3_W, F_dyn_table_textsr4_W, F_dyn_table_textsr5_W, F_dyn_table_textsr6_W, F_dyn_table_textsr7_W, F_dyn_table_textsr8_W, F_dyn_table_textsr9_W, F_dyn_table_textsr10_W, F_dyn_table_textsr11_W, F_dyn_table_textsr12_W, F_dyn_table_textsl0_W, F_dyn_table_textsr13_W, F_dyn_table_textsr14_W, F_dyn_table_textsr15_W, F_dyn_table_textsr16_W, F_dyn_table_textsr17_W, F_dyn_table_textsr18_W, F_dyn_table_textsr19_W, F_dyn_table_textsr20_W, F_dyn_table_textsr21_W, F_dyn_table_textsr22_W, F_dyn_table_textsr23_W, F_dyn_table_textsr24_W, F_dyn_table_textsl1_W, F_dyn_table_textsr25_W, F_dyn_table_textsc_W, e10]
    exact ⟨trivial, trivial, ⟨e0, e3, e9⟩⟩
  rw [w_seq]
  refine W.mono key fun y e h' ⟨q1, q2, he⟩ => ?_
  subst h' q2
  rw [seqQ_normal, w_seq]
  refine W.mono (tx_l0 h6 h7 h8 hso hm he x1) fun y e h2 ⟨f1, q2⟩ => ?_
  rcases q2 with ⟨rfl, q3⟩ | ⟨rfl, he, s0, s1, p0, p1, x2⟩
  · simp only [fws, cond_true, cond_false, if_true, if_false, unV, isNil, optI, iV, stepI, evalR, reduceIte, reduceCtorEq, Nat.reduceEqDiff, Int.reduceLT, Int.reduceLE, Int.reduceToNat, Nat.reduceLT, Nat.reduceLeDiff, Int.reduceEq, Int.reduceNeg, IntKind.bits, Nat.reduceAdd, Nat.reduceMul, Nat.reducePow, Int.reducePow, ini, q3]
    exact ⟨f1, .inl ⟨91, by decide, rfl⟩⟩
  rw [seqQ_normal, w_seq]
  have m2 := x2.tb.tbl
  have hln := x2.own.len
  by_cases hns : 16 < ns.length
  · have q : ((16 : Int) < ns.length) := by omega
    obtain ⟨e0, e3, e9⟩ := he
    simp only [fws, cond_true, cond_false, if_true, if_false, unV, isNil, optI, iV, stepI, evalR, reduceIte, reduceCtorEq, Nat.reduceEqDiff, Int.reduceLT, Int.reduceLE, Int.reduceToNat, Nat.reduceLT, Nat.reduceLeDiff, Int.reduceEq, Int.reduceNeg, IntKind.bits, Nat.reduceAdd, Nat.reduceMul, Nat.reducePow, Int.reducePow, ini, fwh, lk, cellsAt, tagOf, spotOf, rdN, spl, fillL, zr, fwi, F_dyn_table_textsr0_W, F_dyn_table_textsr1_W, F_dyn_table_textsr2_W, F_dyn_table_textsr3_W, F_dyn_table_textsr4_W, F_dyn_table_textsr5_W, F_dyn_table_textsr6_W, F_dyn_table_textsr7_W, F_dyn_table_textsr8_W, F_dyn_table_textsr9_W, F_dyn_table_textsr10_W, F_dyn_table_textsr11_W, F_dyn_table_textsr12_W, F_dyn_table_textsl0_W, F_dyn_table_textsr13_W, F_dyn_table_textsr14_W, F_dyn_table_textsr15_W, F_dyn_table_textsr16_W, F_dyn_table_textsr17_W, F_dyn_table_textsr18_W, F_dyn_table_textsr19_W, F_dyn_table_textsr20_W, F_dyn_table_textsr21_W, F_dyn_table_textsr22_W, F_dyn_table_textsr23_W, F_dyn_table_textsr24_W, F_dyn_table_textsl1_W, F_dyn_table_textsr25_W, F_dyn_table_textsc_W, e0, m2, hln, q]
    exact ⟨f1, .inl ⟨92, by decide, rfl⟩⟩
  have key : W T (.seq (.reg F_dyn_table_textsr13) (.cond (.t 73) (.seq (.reg F_dyn_table_textsr14) .ret) .skip)) e h2 fun y e h' => h' = h2 ∧ y = .normal ∧ WT e L kd so := by
    have q : ¬ ((16 : Int) < ns.length) := by omega
    obtain ⟨e0, e3, e9⟩ := he
    simp only [fws, cond_true, cond_false, if_true, if_false, unV, isNil, optI, iV, stepI, evalR, reduceIte, reduceCtorEq, Nat.reduceEqDiff, Int.reduceLT, Int.reduceLE, Int.reduceToNat, Nat.reduceLT, Nat.reduceLeDiff, Int.reduceEq, Int.reduceNeg, IntKind.bits, Nat.reduceAdd, Nat.reduceMul, Nat.reducePow, Int.reducePow, ini, fwh, lk, cellsAt, tagOf, spotOf, rdN, spl, fillL, zr, fwi, F_dyn_table_textsr0_W, F_dyn_table_textsr1_W, F_dyn_table_textsr2_W, F_dyn_table_textsr3_W, F_dyn_table_textsr4_W, F_dyn_table_textsr5_W, F_dyn_table_textsr6_W, F_dyn_table_textsr7_W, F_dyn_table_textsr8_W, F_dyn_table_textsr9_W, F_dyn_table_textsr10_W, F_dyn_table_textsr11_W, F_dyn_table_textsr12_W, F_dyn_table_textsl0_W, F_dyn_table_textsr13_W, F_dyn_table_textsr14_W, F_dyn_table_textsr15_W, F_dyn_table_textsr16_W, F_dyn_table_textsr17_W, F_dyn_table_textsr18_W, F_dyn_table_textsr19_W, F_dyn_table_textsr20_W, F_dyn_table_textsr21_W, F_dyn_table_textsr22_W, F_dyn_table_textsr23_W, F_dyn_table_textsr24_W, F_dyn_table_textsl1_W, F_dyn_table_textsr25_W, F_dyn_table_textsc_W, e0, m2, hln, q]
    exact ⟨trivial, trivial, ⟨e0, e3, e9⟩⟩
  refine W.mono key fun y e h' ⟨q1, q2, he⟩ => ?_
  subst h' q2
  rw [seqQ_normal, w_seq]
  refine W.mono (tx_l1 h7 h8 hso hn (by omega) he x2.dl (D := D3 (strV s0) (strV s1) (.slice none 0 0) R) x2) fun y e h3 ⟨f1, q2⟩ => ?_
  rcases q2 with ⟨rfl, er, hne, q3⟩ | ⟨rfl, nv, ss, y, yl, yg⟩
  · simp only [fws, cond_true, cond_false, if_true, if_false, unV, isNil, optI, iV, stepI, evalR, reduceIte, reduceCtorEq, Nat.reduceEqDiff, Int.reduceLT, Int.reduceLE, Int.reduceToNat, Nat.reduceLT, Nat.reduceLeDiff, Int.reduceEq, Int.reduceNeg, IntKind.bits, Nat.reduceAdd, Nat.reduceMul, Nat.reducePow, Int.reducePow, ini, q3]
    exact ⟨f1, .inl ⟨er, hne, rfl⟩⟩
  · rw [seqQ_normal]
    simp only [fws, cond_true, cond_false, if_true, if_false, unV, isNil, optI, iV, stepI, evalR, reduceIte, reduceCtorEq, Nat.reduceEqDiff, Int.reduceLT, Int.reduceLE, Int.reduceToNat, Nat.reduceLT, Nat.reduceLeDiff, Int.reduceEq, Int.reduceNeg, IntKind.bits, Nat.reduceAdd, Nat.reduceMul, Nat.reducePow, Int.reducePow, ini, fwh, lk, cellsAt, tagOf, spotOf, rdN, spl, fillL, zr, fwi, F_dyn_table_textsr0_W, F_dyn_table_textsr1_W, F_dyn_table_textsr2_W, F_dyn_table_textsr3_W, F_dyn_table_textsr4_W, F_dyn_table_textsr5_W, F_dyn_table_textsr6_W, F_dyn_table_textsr7_W, F_dyn_table_textsr8_W, F_dyn_table_textsr9_W, F_dyn_table_textsr10_W, F_dyn_table_textsr11_W, F_dyn_table_textsr12_W, F_dyn_table_textsl0_W, F_dyn_table_textsr13_W, F_dyn_table_textsr14_W, F_dyn_table_textsr15_W, F_dyn_table_textsr16_W, F_dyn_table_textsr17_W, F_dyn_table_textsr18_W, F_dyn_table_textsr19_W, F_dyn_table_textsr20_W, F_dyn_table_textsr21_W, F_dyn_table_textsr22_W, F_dyn_table_textsr23_W, F_dyn_table_textsr24_W, F_dyn_table_textsl1_W, F_dyn_table_textsr25_W, F_dyn_table_textsc_W]
    exact ⟨f1, .inr ⟨trivial, s0, s1, nv, ss, p0, p1, yg, by omega, y.own, y.nb, y.xs.d⟩⟩
end
end Go.Proofs.Ytdkdifjjpbfohaa
