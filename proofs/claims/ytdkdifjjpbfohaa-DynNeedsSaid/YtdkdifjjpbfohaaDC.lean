/- What the dynamic section says: the ways out, and the first steps. -/
import Derived.Test.YtdkdifjjpbfohaaDB
namespace Go.Proofs.Ytdkdifjjpbfohaa
open Go Fw
set_option linter.unusedSimpArgs false
set_option linter.unusedVariables false
set_option linter.unusedSectionVars false

/-- A library of which nothing is known. -/
abbrev Zc : List Value := [.string ⟨#[]⟩, .string ⟨#[]⟩, .slice none 0 0, .bool false, .bool false, .bool false, .bool false, .int .u64 0, .int .u64 0, .int .u64 0, .int .u64 0, .int .u64 0, .int .u64 0, .int .u64 0, .int .u64 0, .int .u64 0, .int .u64 0, .bool false, .int .u64 0, .int .u64 0, .bool false, .int .u64 0, .int .u64 0, .bool false, .int .u64 0, .int .u64 0, .bool false, .int .u64 0, .int .u64 0, .bool false, .int .u64 0, .int .u64 0, .bool false, .bool false, .bool false, .int .u64 0, .int .u64 0, .bool false, .int .u64 0, .int .u64 0]
theorem Zc_spl : spl Zc 0 Zc = Zc := rfl
theorem Zc_rd : rdN Zc 40 = some Zc := rfl
theorem Zc_w : Zc = wZ := rfl
/-- The parts behind the texts. -/
def wR (b3 b4 b5 : Bool) (i0 i1 i2 i3 i4 i5 i6 i7 : Int) (m : List (Int × Int)) (pa : List Value) (pr pk : Bool) : List Value :=
  [.bool b3, .bool b4, .bool b5] ++ arC m 5 10 ++ [.int .u64 i0, .int .u64 i1, .int .u64 i2, .int .u64 i3, .int .u64 i4, .int .u64 i5, .int .u64 i6, .int .u64 i7] ++ arC m 17 18 ++ arC m 7 8 ++ arC m 23 2 ++ arC m 36 35 ++ pa ++ [.bool pr, .bool pk] ++ arC m 25 27 ++ arC m 26 28
/-- What a library says, if it is right. -/
structure PD where
  s0 : List UInt8
  s1 : List UInt8
  on : Option (List (List UInt8))
  b3 : Bool
  b4 : Bool
  b5 : Bool
  i0 : Int
  i1 : Int
  i2 : Int
  i3 : Int
  i4 : Int
  i5 : Int
  i6 : Int
  i7 : Int
  m : List (Int × Int)
  pa : List Value
  pr : Bool
  pk : Bool
structure PD.ok (p : PD) : Prop where
  p0 : plain p.s0 = true
  p1 : plain p.s1 = true
  gd : ∀ s ∈ lst p.on, good s
  ln : (lst p.on).length ≤ 16
  wd : WD p.m p.pa p.pr p.pk
def PD.cs (p : PD) : List Value := D3 (strV p.s0) (strV p.s1) (slV strE p.on) (wR p.b3 p.b4 p.b5 p.i0 p.i1 p.i2 p.i3 p.i4 p.i5 p.i6 p.i7 p.m p.pa p.pr p.pk)
inductive PR where
  | err (e : Int)
  | ok (p : PD)
def PR.good : PR → Prop
  | err e => e ≠ 0
  | ok p => p.ok
def PR.v : PR → Value
  | err e => .tuple #[.agg Zc.toArray, .int .i64 e]
  | ok p => .tuple #[.agg p.cs.toArray, .int .i64 0]
def KP (u : Value) (h : Heap) : Prop := ∃ x : PR, x.good ∧ frz 8 h u = some x.v
theorem KP_err {e : Int} (he : e ≠ 0) {h : Heap} : KP (.tuple #[.agg Zc.toArray, .int .i64 e]) h := ⟨.err e, he, frz_pure rfl⟩
section
variable {T : Tab} {h : Heap} {env : Env} (e4 : env 4 = ptrA 1 0) (g : h[1]? = some (blk 40 Zc))
include e4 g
theorem er3 : W T (.seq (.reg F_dyn_Parser3) .ret) env h fun x e h => x = .ret ∧ retQ [.cell 4 (some 40), .tmp 5] KP .ret e h := by
  have hs := fun X => List.getElem?_set_self (a := X) (List.getElem?_eq_some_iff.1 g).1
  simp only [fws, cond_true, cond_false, if_true, if_false, unV, isNil, optI, iV, stepI, evalR, reduceIte, reduceCtorEq, Nat.reduceEqDiff, Int.reduceLT, Int.reduceLE, Int.reduceToNat, Nat.reduceLT, Nat.reduceLeDiff, Int.reduceEq, Int.reduceNeg, IntKind.bits, Nat.reduceAdd, Nat.reduceMul, Nat.reducePow, Int.reducePow, ini, fwh, lk, cellsAt, tagOf, spotOf, fillL, zr, fwi, F_dyn_Parser0_W, F_dyn_Parser1_W, F_dyn_Parser2_W, F_dyn_Parser3_W, F_dyn_Parser4_W, F_dyn_Parser5_W, F_dyn_Parser6_W, F_dyn_Parser7_W, F_dyn_Parser8_W, F_dyn_Parser9_W, F_dyn_Parser10_W, F_dyn_Parser11_W, F_dyn_Parser12_W, F_dyn_Parser13_W, F_dyn_Parser14_W, F_dyn_Parser15_W, F_dyn_Parser15_g2, F_dyn_Parser16_W, F_dyn_Parser17_W, F_dyn_Parser18_W, F_dyn_Parser19_W, F_dyn_Parser20_W, F_dyn_Parsec_W, e4, g, hs, Zc_spl, Zc_rd]
  exact ⟨trivial, KP_err (by decide)⟩
theorem er6 {er : Int} (hne : er ≠ 0) (e9 : env 9 = .int .i64 er) : W T (.seq (.reg F_dyn_Parser6) .ret) env h fun x e h => x = .ret ∧ retQ [.cell 4 (some 40), .tmp 5] KP .ret e h := by
  have hs := fun X => List.getElem?_set_self (a := X) (List.getElem?_eq_some_iff.1 g).1
  simp only [fws, cond_true, cond_false, if_true, if_false, unV, isNil, optI, iV, stepI, evalR, reduceIte, reduceCtorEq, Nat.reduceEqDiff, Int.reduceLT, Int.reduceLE, Int.reduceToNat, Nat.reduceLT, Nat.reduceLeDiff, Int.reduceEq, Int.reduceNeg, IntKind.bits, Nat.reduceAdd, Nat.reduceMul, Nat.reducePow, Int.reducePow, ini, fwh, lk, cellsAt, tagOf, spotOf, fillL, zr, fwi, F_dyn_Parser0_W, F_dyn_Parser1_W, F_dyn_Parser2_W, F_dyn_Parser3_W, F_dyn_Parser4_W, F_dyn_Parser5_W, F_dyn_Parser6_W, F_dyn_Parser7_W, F_dyn_Parser8_W, F_dyn_Parser9_W, F_dyn_Parser10_W, F_dyn_Parser11_W, F_dyn_Parser12_W, F_dyn_Parser13_W, F_dyn_Parser14_W, F_dyn_Parser15_W, F_dyn_Parser15_g2, F_dyn_Parser16_W, F_dyn_Parser17_W, F_dyn_Parser18_W, F_dyn_Parser19_W, F_dyn_Parser20_W, F_dyn_Parsec_W, e4, g, hs, Zc_spl, Zc_rd, e9]
  exact ⟨trivial, KP_err hne⟩
theorem er9 {er : Int} (hne : er ≠ 0) (e9 : env 9 = .int .i64 er) : W T (.seq (.reg F_dyn_Parser9) .ret) env h fun x e h => x = .ret ∧ retQ [.cell 4 (some 40), .tmp 5] KP .ret e h := by
  have hs := fun X => List.getElem?_set_self (a := X) (List.getElem?_eq_some_iff.1 g).1
  simp only [fws, cond_true, cond_false, if_true, if_false, unV, isNil, optI, iV, stepI, evalR, reduceIte, reduceCtorEq, Nat.reduceEqDiff, Int.reduceLT, Int.reduceLE, Int.reduceToNat, Nat.reduceLT, Nat.reduceLeDiff, Int.reduceEq, Int.reduceNeg, IntKind.bits, Nat.reduceAdd, Nat.reduceMul, Nat.reducePow, Int.reducePow, ini, fwh, lk, cellsAt, tagOf, spotOf, fillL, zr, fwi, F_dyn_Parser0_W, F_dyn_Parser1_W, F_dyn_Parser2_W, F_dyn_Parser3_W, F_dyn_Parser4_W, F_dyn_Parser5_W, F_dyn_Parser6_W, F_dyn_Parser7_W, F_dyn_Parser8_W, F_dyn_Parser9_W, F_dyn_Parser10_W, F_dyn_Parser11_W, F_dyn_Parser12_W, F_dyn_Parser13_W, F_dyn_Parser14_W, F_dyn_Parser15_W, F_dyn_Parser15_g2, F_dyn_Parser16_W, F_dyn_Parser17_W, F_dyn_Parser18_W, F_dyn_Parser19_W, F_dyn_Parser20_W, F_dyn_Parsec_W, e4, g, hs, Zc_spl, Zc_rd, e9]
  exact ⟨trivial, KP_err hne⟩
theorem er12 : W T (.seq (.reg F_dyn_Parser12) .ret) env h fun x e h => x = .ret ∧ retQ [.cell 4 (some 40), .tmp 5] KP .ret e h := by
  have hs := fun X => List.getElem?_set_self (a := X) (List.getElem?_eq_some_iff.1 g).1
  simp only [fws, cond_true, cond_false, if_true, if_false, unV, isNil, optI, iV, stepI, evalR, reduceIte, reduceCtorEq, Nat.reduceEqDiff, Int.reduceLT, Int.reduceLE, Int.reduceToNat, Nat.reduceLT, Nat.reduceLeDiff, Int.reduceEq, Int.reduceNeg, IntKind.bits, Nat.reduceAdd, Nat.reduceMul, Nat.reducePow, Int.reducePow, ini, fwh, lk, cellsAt, tagOf, spotOf, fillL, zr, fwi, F_dyn_Parser0_W, F_dyn_Parser1_W, F_dyn_Parser2_W, F_dyn_Parser3_W, F_dyn_Parser4_W, F_dyn_Parser5_W, F_dyn_Parser6_W, F_dyn_Parser7_W, F_dyn_Parser8_W, F_dyn_Parser9_W, F_dyn_Parser10_W, F_dyn_Parser11_W, F_dyn_Parser12_W, F_dyn_Parser13_W, F_dyn_Parser14_W, F_dyn_Parser15_W, F_dyn_Parser15_g2, F_dyn_Parser16_W, F_dyn_Parser17_W, F_dyn_Parser18_W, F_dyn_Parser19_W, F_dyn_Parser20_W, F_dyn_Parsec_W, e4, g, hs, Zc_spl, Zc_rd]
  exact ⟨trivial, KP_err (by decide)⟩
theorem er19 {er : Int} (hne : er ≠ 0) (e12 : env 12 = .int .i64 er) : W T (.seq (.reg F_dyn_Parser19) .ret) env h fun x e h => x = .ret ∧ retQ [.cell 4 (some 40), .tmp 5] KP .ret e h := by
  have hs := fun X => List.getElem?_set_self (a := X) (List.getElem?_eq_some_iff.1 g).1
  simp only [fws, cond_true, cond_false, if_true, if_false, unV, isNil, optI, iV, stepI, evalR, reduceIte, reduceCtorEq, Nat.reduceEqDiff, Int.reduceLT, Int.reduceLE, Int.reduceToNat, Nat.reduceLT, Nat.reduceLeDiff, Int.reduceEq, Int.reduceNeg, IntKind.bits, Nat.reduceAdd, Nat.reduceMul, Nat.reducePow, Int.reducePow, ini, fwh, lk, cellsAt, tagOf, spotOf, fillL, zr, fwi, F_dyn_Parser0_W, F_dyn_Parser1_W, F_dyn_Parser2_W, F_dyn_Parser3_W, F_dyn_Parser4_W, F_dyn_Parser5_W, F_dyn_Parser6_W, F_dyn_Parser7_W, F_dyn_Parser8_W, F_dyn_Parser9_W, F_dyn_Parser10_W, F_dyn_Parser11_W, F_dyn_Parser12_W, F_dyn_Parser13_W, F_dyn_Parser14_W, F_dyn_Parser15_W, F_dyn_Parser15_g2, F_dyn_Parser16_W, F_dyn_Parser17_W, F_dyn_Parser18_W, F_dyn_Parser19_W, F_dyn_Parser20_W, F_dyn_Parsec_W, e4, g, hs, Zc_spl, Zc_rd, e12]
  exact ⟨trivial, KP_err hne⟩
end
structure WP (e : Env) (o : Option (List UInt8)) : Prop where
  e0 : e 0 = slV byteE o
  e3 : e 3 = ptrA 0 0
  e4 : e 4 = ptrA 1 0
section
variable {T : Tab} (h0 : T 76 = some F_num_Sub) (h1 : T 74 = some F_num_Inside) (h2 : T 64 = some F_head_Off) (h3 : T 65 = some F_le_Part) (h4 : T 55 = some F_head_Part) (d : Hd) (hd : d.wf) (o : Option (List UInt8)) (hl : (lst o).length ≤ 100000000)
variable {h : Heap} {env : Env}
theorem pa0 (e0 : env 0 = slV byteE o) (e1 : env 1 = d.v) : W T (.reg F_dyn_Parser0) env [] fun x e h' => h' = [blk 16 d.cs, blk 40 Zc] ∧ x = .normal ∧ WP e o := by
  unfold Hd.v Hd.cs at e1
  unfold Hd.cs
  simp only [fws, cond_true, cond_false, if_true, if_false, unV, isNil, optI, iV, stepI, evalR, reduceIte, reduceCtorEq, Nat.reduceEqDiff, Int.reduceLT, Int.reduceLE, Int.reduceToNat, Nat.reduceLT, Nat.reduceLeDiff, Int.reduceEq, Int.reduceNeg, IntKind.bits, Nat.reduceAdd, Nat.reduceMul, Nat.reducePow, Int.reducePow, ini, fwh, lk, cellsAt, tagOf, spotOf, rdN, spl, fillL, zr, fwi, F_dyn_Parser0_W, F_dyn_Parser1_W, F_dyn_Parser2_W, F_dyn_Parser3_W, F_dyn_Parser4_W, F_dyn_Parser5_W, F_dyn_Parser6_W, F_dyn_Parser7_W, F_dyn_Parser8_W, F_dyn_Parser9_W, F_dyn_Parser10_W, F_dyn_Parser11_W, F_dyn_Parser12_W, F_dyn_Parser13_W, F_dyn_Parser14_W, F_dyn_Parser15_W, F_dyn_Parser15_g2, F_dyn_Parser16_W, F_dyn_Parser17_W, F_dyn_Parser18_W, F_dyn_Parser19_W, F_dyn_Parser20_W, F_dyn_Parsec_W, e1, oneC_sl]
  exact ⟨trivial, trivial, ⟨e0, rfl, rfl⟩⟩
include h0 h1 h2 h3 h4 hd hl
theorem pa1 (he : WP env o) (g0 : h[0]? = some (blk 16 d.cs)) : W T (.reg F_dyn_Parser1) env h fun x e h' => h' = h ∧ x = .normal ∧ WP e o ∧ (e 7 = bF ∨ (e 7 = .bool true ∧ ∃ xo, (lst xo).length ≤ 100000000 ∧ e 6 = slV byteE xo)) := by
  obtain ⟨e0, e3, e4⟩ := he
  have hw := hd.2.1
  obtain ⟨w1, w2, w3, w4, w5, w6, w7⟩ := hw
  simp only [u64_iff] at w4 w5
  have c1 := f_head_Part h0 h1 h2 h3 d hd o hl h4 w4 w5
  unfold Hd.v Hd.cs at c1
  unfold Hd.cs at g0
  cases hpf : partF (lst o) d d.dy.Vaddr d.dy.Filesz with
  | none =>
    rw [hpf] at c1
    simp only [partV] at c1
    simp only [fws, cond_true, cond_false, if_true, if_false, unV, isNil, optI, iV, stepI, evalR, reduceIte, reduceCtorEq, Nat.reduceEqDiff, Int.reduceLT, Int.reduceLE, Int.reduceToNat, Nat.reduceLT, Nat.reduceLeDiff, Int.reduceEq, Int.reduceNeg, IntKind.bits, Nat.reduceAdd, Nat.reduceMul, Nat.reducePow, Int.reducePow, ini, fwh, lk, cellsAt, tagOf, spotOf, rdN, spl, fillL, zr, fwi, F_dyn_Parser0_W, F_dyn_Parser1_W, F_dyn_Parser2_W, F_dyn_Parser3_W, F_dyn_Parser4_W, F_dyn_Parser5_W, F_dyn_Parser6_W, F_dyn_Parser7_W, F_dyn_Parser8_W, F_dyn_Parser9_W, F_dyn_Parser10_W, F_dyn_Parser11_W, F_dyn_Parser12_W, F_dyn_Parser13_W, F_dyn_Parser14_W, F_dyn_Parser15_W, F_dyn_Parser15_g2, F_dyn_Parser16_W, F_dyn_Parser17_W, F_dyn_Parser18_W, F_dyn_Parser19_W, F_dyn_Parser20_W, F_dyn_Parsec_W, e0, e3, e4, g0, CC_of c1]
    exact ⟨trivial, trivial, ⟨e0, e3, e4⟩, .inl trivial⟩
  | some l =>
    rw [hpf] at c1
    simp only [partV] at c1
    obtain ⟨so, hso, hsl⟩ := immN_sl l
    have := partF_len hpf
    rw [hsl] at c1
    simp only [fws, cond_true, cond_false, if_true, if_false, unV, isNil, optI, iV, stepI, evalR, reduceIte, reduceCtorEq, Nat.reduceEqDiff, Int.reduceLT, Int.reduceLE, Int.reduceToNat, Nat.reduceLT, Nat.reduceLeDiff, Int.reduceEq, Int.reduceNeg, IntKind.bits, Nat.reduceAdd, Nat.reduceMul, Nat.reducePow, Int.reducePow, ini, fwh, lk, cellsAt, tagOf, spotOf, rdN, spl, fillL, zr, fwi, F_dyn_Parser0_W, F_dyn_Parser1_W, F_dyn_Parser2_W, F_dyn_Parser3_W, F_dyn_Parser4_W, F_dyn_Parser5_W, F_dyn_Parser6_W, F_dyn_Parser7_W, F_dyn_Parser8_W, F_dyn_Parser9_W, F_dyn_Parser10_W, F_dyn_Parser11_W, F_dyn_Parser12_W, F_dyn_Parser13_W, F_dyn_Parser14_W, F_dyn_Parser15_W, F_dyn_Parser15_g2, F_dyn_Parser16_W, F_dyn_Parser17_W, F_dyn_Parser18_W, F_dyn_Parser19_W, F_dyn_Parser20_W, F_dyn_Parsec_W, e0, e3, e4, g0, CC_of c1]
    exact ⟨trivial, trivial, ⟨e0, e3, e4⟩, .inr ⟨trivial, so, by rw [hso]; omega, rfl⟩⟩
omit h2 h3 h4 hd hl in
theorem pa4 (h5 : T 73 = some F_le_get) (h6 : T 63 = some F_le_U64) (h7 : T 53 = some F_dyn_Entries) (he : WP env o) {xo : Option (List UInt8)} (hx : (lst xo).length ≤ 100000000) (e6 : env 6 = slV byteE xo) :
    W T (.reg F_dyn_Parser4) env h fun x e h' => h' = h ∧ x = .normal ∧ WP e o ∧ ∃ p : Option (List S_dyn_Entry) × Int, okE (lst p.1) ∧ (p.2 = 0 ∨ p.2 = 90) ∧ e 8 = slV EnE p.1 ∧ e 9 = .int .i64 p.2 := by
  obtain ⟨e0, e3, e4⟩ := he
  obtain ⟨p, ⟨p1, p2⟩, c1⟩ := f_dyn_Entries h0 h1 h5 h6 (lst xo) (slV byteE xo) Src_sl (pure_sl rfl) hx h7
  simp only [fws, cond_true, cond_false, if_true, if_false, unV, isNil, optI, iV, stepI, evalR, reduceIte, reduceCtorEq, Nat.reduceEqDiff, Int.reduceLT, Int.reduceLE, Int.reduceToNat, Nat.reduceLT, Nat.reduceLeDiff, Int.reduceEq, Int.reduceNeg, IntKind.bits, Nat.reduceAdd, Nat.reduceMul, Nat.reducePow, Int.reducePow, ini, fwh, lk, cellsAt, tagOf, spotOf, rdN, spl, fillL, zr, fwi, F_dyn_Parser0_W, F_dyn_Parser1_W, F_dyn_Parser2_W, F_dyn_Parser3_W, F_dyn_Parser4_W, F_dyn_Parser5_W, F_dyn_Parser6_W, F_dyn_Parser7_W, F_dyn_Parser8_W, F_dyn_Parser9_W, F_dyn_Parser10_W, F_dyn_Parser11_W, F_dyn_Parser12_W, F_dyn_Parser13_W, F_dyn_Parser14_W, F_dyn_Parser15_W, F_dyn_Parser15_g2, F_dyn_Parser16_W, F_dyn_Parser17_W, F_dyn_Parser18_W, F_dyn_Parser19_W, F_dyn_Parser20_W, F_dyn_Parsec_W, e6, CC_of c1]
  exact ⟨trivial, trivial, ⟨e0, e3, e4⟩, p, p1, p2, rfl, rfl⟩
omit h0 h1 h2 h3 h4 hd hl in
theorem pa7 (h5 : T 66 = some F_dyn_known) (h6 : T 56 = some F_dyn_gather) (he : WP env o) {xo : Option (List S_dyn_Entry)} (hx : okE (lst xo)) (e8 : env 8 = slV EnE xo) :
    W T (.reg F_dyn_Parser7) env h fun x e h' => (∀ q, q < h.length → h'[q]? = h[q]?) ∧ h.length ≤ h'.length ∧ x = .normal ∧ WP e o ∧ (e 9 = .int .i64 90 ∨ (e 9 = .int .i64 0 ∧ e 10 = ptrT h.length ∧ ∃ m nd ns, Tbl h' h.length m nd ns ∧ ∀ b, blkV nd = some b → h.length ≤ b)) := by
  obtain ⟨e0, e3, e4⟩ := he
  simp only [fws, cond_true, cond_false, if_true, if_false, unV, isNil, optI, iV, stepI, evalR, reduceIte, reduceCtorEq, Nat.reduceEqDiff, Int.reduceLT, Int.reduceLE, Int.reduceToNat, Nat.reduceLT, Nat.reduceLeDiff, Int.reduceEq, Int.reduceNeg, IntKind.bits, Nat.reduceAdd, Nat.reduceMul, Nat.reducePow, Int.reducePow, ini, fwh, lk, cellsAt, tagOf, spotOf, rdN, spl, fillL, zr, fwi, F_dyn_Parser0_W, F_dyn_Parser1_W, F_dyn_Parser2_W, F_dyn_Parser3_W, F_dyn_Parser4_W, F_dyn_Parser5_W, F_dyn_Parser6_W, F_dyn_Parser7_W, F_dyn_Parser9_W, F_dyn_Parser10_W, F_dyn_Parser11_W, F_dyn_Parser12_W, F_dyn_Parser13_W, F_dyn_Parser14_W, F_dyn_Parser15_W, F_dyn_Parser15_g2, F_dyn_Parser16_W, F_dyn_Parser17_W, F_dyn_Parser18_W, F_dyn_Parser19_W, F_dyn_Parser20_W, F_dyn_Parsec_W, e8]
  refine (ev_dyn_gather h5 xo hx h h6).mono fun v h' ⟨q1, q2, q3⟩ => ?_
  rcases q3 with rfl | ⟨rfl, q4⟩
  · simp only [fws, cond_true, cond_false, if_true, if_false, unV, isNil, optI, iV, stepI, evalR, reduceIte, reduceCtorEq, Nat.reduceEqDiff, Int.reduceLT, Int.reduceLE, Int.reduceToNat, Nat.reduceLT, Nat.reduceLeDiff, Int.reduceEq, Int.reduceNeg, IntKind.bits, Nat.reduceAdd, Nat.reduceMul, Nat.reducePow, Int.reducePow, ini, fwh, lk, cellsAt, tagOf, spotOf, rdN, spl, fillL, zr, fwi, F_dyn_Parser0_W, F_dyn_Parser1_W, F_dyn_Parser2_W, F_dyn_Parser3_W, F_dyn_Parser4_W, F_dyn_Parser5_W, F_dyn_Parser6_W, F_dyn_Parser7_W, F_dyn_Parser8_W, F_dyn_Parser9_W, F_dyn_Parser10_W, F_dyn_Parser11_W, F_dyn_Parser12_W, F_dyn_Parser13_W, F_dyn_Parser14_W, F_dyn_Parser15_W, F_dyn_Parser15_g2, F_dyn_Parser16_W, F_dyn_Parser17_W, F_dyn_Parser18_W, F_dyn_Parser19_W, F_dyn_Parser20_W, F_dyn_Parsec_W]
    exact ⟨q1, q2, trivial, ⟨e0, e3, e4⟩, .inl trivial⟩
  · simp only [fws, cond_true, cond_false, if_true, if_false, unV, isNil, optI, iV, stepI, evalR, reduceIte, reduceCtorEq, Nat.reduceEqDiff, Int.reduceLT, Int.reduceLE, Int.reduceToNat, Nat.reduceLT, Nat.reduceLeDiff, Int.reduceEq, Int.reduceNeg, IntKind.bits, Nat.reduceAdd, Nat.reduceMul, Nat.reducePow, Int.reducePow, ini, fwh, lk, cellsAt, tagOf, spotOf, rdN, spl, fillL, zr, fwi, F_dyn_Parser0_W, F_dyn_Parser1_W, F_dyn_Parser2_W, F_dyn_Parser3_W, F_dyn_Parser4_W, F_dyn_Parser5_W, F_dyn_Parser6_W, F_dyn_Parser7_W, F_dyn_Parser8_W, F_dyn_Parser9_W, F_dyn_Parser10_W, F_dyn_Parser11_W, F_dyn_Parser12_W, F_dyn_Parser13_W, F_dyn_Parser14_W, F_dyn_Parser15_W, F_dyn_Parser15_g2, F_dyn_Parser16_W, F_dyn_Parser17_W, F_dyn_Parser18_W, F_dyn_Parser19_W, F_dyn_Parser20_W, F_dyn_Parsec_W]
    exact ⟨q1, q2, trivial, ⟨e0, e3, e4⟩, .inr ⟨trivial, trivial, q4⟩⟩
end
end Go.Proofs.Ytdkdifjjpbfohaa
/- What the dynamic section says: the steps behind. -/
namespace Go.Proofs.Ytdkdifjjpbfohaa
open Go Fw
set_option linter.unusedSimpArgs false
set_option linter.unusedVariables false
set_option linter.unusedSectionVars false

section
variable {H0 h : Heap} {L kd : Nat} {m : List (Int × Int)} {nd : Value} {ns : List Int} {D : List Value}
theorem XS.setA (x : XS H0 h L kd m nd ns D) {D' : List Value} (hl : D'.length = 40) : XS H0 (h.set kd (blk 40 D')) L kd m nd ns D' := by
  have := x.hl
  have := x.kl
  exact ⟨x.tb.set x.k1 x.k2 _, List.getElem?_set_self (by omega), hl, x.own.keep fun b hb => List.getElem?_set_ne (fun e => x.nb (by rw [hb, e])), x.k1, x.k2, x.nb, by rw [List.length_set]; omega, x.L1, x.kl, x.nl, fun q h1 h2 => by rw [List.getElem?_set_ne (fun e => h2 e.symm)]; exact x.old q h1 h2⟩
theorem XS.self (x : XS H0 h L kd m nd ns D) : XS h h L kd m nd ns D := by
  have := x.hl
  have := x.kl
  have := x.L1
  exact ⟨x.tb, x.d, x.dl, x.own, x.k1, x.k2, x.nb, Nat.le_refl _, by omega, by omega, fun b hb => x.own.lt hb, fun _ _ _ => rfl⟩
/-- Another heap in which all but one block is as before. -/
theorem XS.fr' (x : XS H0 h L kd m nd ns D) {h' : Heap} {D' : List Value} (hf : FR h h' kd) (hd : h'[kd]? = some (blk 40 D')) (hl : D'.length = 40) : XS H0 h' L kd m nd ns D' := by
  have := x.hl
  have := x.kl
  have := x.L1
  obtain ⟨f1, f2⟩ := hf
  exact ⟨x.tb.of_same (f2 _ (by omega) (fun e => x.k1 e.symm)) (f2 _ (by omega) (fun e => x.k2 e.symm)), hd, hl, x.own.keep fun b hb => f2 _ (x.own.lt hb) (fun e => x.nb (by rw [hb, e])), x.k1, x.k2, x.nb, by omega, x.L1, x.kl, x.nl, fun q h1 h2 => by rw [f2 q (by omega) h2]; exact x.old q h1 h2⟩
end
structure WQ (e : Env) (o : Option (List UInt8)) (L kd : Nat) : Prop where
  p : WP e o
  e10 : e 10 = ptrT L
  e11 : e 11 = ptrA kd 0
section
variable {T : Tab} {o : Option (List UInt8)} {H0 h : Heap} {env : Env} {L kd : Nat} {m : List (Int × Int)} {nd : Value} {ns : List Int} {D : List Value}
theorem pa10 (he : WP env o) (e10 : env 10 = ptrT L) : W T (.reg F_dyn_Parser10) env h fun x e h' => h' = h ++ [blk 40 Zc] ∧ x = .normal ∧ WQ e o L h.length := by
  obtain ⟨e0, e3, e4⟩ := he
  simp only [fws, cond_true, cond_false, if_true, if_false, unV, isNil, optI, iV, stepI, evalR, reduceIte, reduceCtorEq, Nat.reduceEqDiff, Int.reduceLT, Int.reduceLE, Int.reduceToNat, Nat.reduceLT, Nat.reduceLeDiff, Int.reduceEq, Int.reduceNeg, IntKind.bits, Nat.reduceAdd, Nat.reduceMul, Nat.reducePow, Int.reducePow, ini, fwh, lk, cellsAt, tagOf, spotOf, fillL, zr, fwi, F_dyn_Parser0_W, F_dyn_Parser1_W, F_dyn_Parser2_W, F_dyn_Parser3_W, F_dyn_Parser4_W, F_dyn_Parser5_W, F_dyn_Parser6_W, F_dyn_Parser7_W, F_dyn_Parser8_W, F_dyn_Parser9_W, F_dyn_Parser10_W, F_dyn_Parser11_W, F_dyn_Parser12_W, F_dyn_Parser13_W, F_dyn_Parser14_W, F_dyn_Parser15_W, F_dyn_Parser15_g2, F_dyn_Parser16_W, F_dyn_Parser17_W, F_dyn_Parser18_W, F_dyn_Parser19_W, F_dyn_Parser20_W, F_dyn_Parsec_W, Zc_spl]
  exact ⟨trivial, trivial, ⟨⟨e0, e3, e4⟩, e10, rfl⟩⟩
theorem pa11 (h0 : T 58 = some F_dyn_table_has) (h1 : T 67 = some F_dyn_table_area) (h2 : T 68 = some F_dyn_table_fixed) (h3 : T 57 = some F_dyn_table_whole)
    (he : WQ env o L kd) (x : XS H0 h L kd m nd ns Zc) : W T (.reg F_dyn_Parser11) env h fun y e h' => FR h h' kd ∧ y = .normal ∧ WQ e o L kd ∧ (e 49 = .bool true ∨ (e 49 = .bool false ∧ ∃ pa pr pk, WD m pa pr pk ∧ h'[kd]? = some (blk 40 (wL m pa pr pk)))) := by
  obtain ⟨⟨e0, e3, e4⟩, e10, e11⟩ := he
  simp only [fws, cond_true, cond_false, if_true, if_false, unV, isNil, optI, iV, stepI, evalR, reduceIte, reduceCtorEq, Nat.reduceEqDiff, Int.reduceLT, Int.reduceLE, Int.reduceToNat, Nat.reduceLT, Nat.reduceLeDiff, Int.reduceEq, Int.reduceNeg, IntKind.bits, Nat.reduceAdd, Nat.reduceMul, Nat.reducePow, Int.reducePow, ini, fwh, lk, cellsAt, tagOf, spotOf, rdN, spl, fillL, zr, fwi, F_dyn_Parser0_W, F_dyn_Parser1_W, F_dyn_Parser2_W, F_dyn_Parser3_W, F_dyn_Parser4_W, F_dyn_Parser5_W, F_dyn_Parser6_W, F_dyn_Parser7_W, F_dyn_Parser8_W, F_dyn_Parser9_W, F_dyn_Parser10_W, F_dyn_Parser11_W, F_dyn_Parser13_W, F_dyn_Parser14_W, F_dyn_Parser15_W, F_dyn_Parser15_g2, F_dyn_Parser16_W, F_dyn_Parser17_W, F_dyn_Parser18_W, F_dyn_Parser19_W, F_dyn_Parser20_W, F_dyn_Parsec_W, e10, e11]
  refine (ev_whole h0 h1 h2 h3 x.tb x.d x.k1 x.k2).mono fun v h' ⟨q1, q2, q3⟩ => ?_
  rcases q3 with rfl | ⟨b, rfl, q4⟩
  · simp only [fws, cond_true, cond_false, if_true, if_false, unV, isNil, optI, iV, stepI, evalR, reduceIte, reduceCtorEq, Nat.reduceEqDiff, Int.reduceLT, Int.reduceLE, Int.reduceToNat, Nat.reduceLT, Nat.reduceLeDiff, Int.reduceEq, Int.reduceNeg, IntKind.bits, Nat.reduceAdd, Nat.reduceMul, Nat.reducePow, Int.reducePow, ini, fwh, lk, cellsAt, tagOf, spotOf, rdN, spl, fillL, zr, fwi, F_dyn_Parser0_W, F_dyn_Parser1_W, F_dyn_Parser2_W, F_dyn_Parser3_W, F_dyn_Parser4_W, F_dyn_Parser5_W, F_dyn_Parser6_W, F_dyn_Parser7_W, F_dyn_Parser8_W, F_dyn_Parser9_W, F_dyn_Parser10_W, F_dyn_Parser11_W, F_dyn_Parser12_W, F_dyn_Parser13_W, F_dyn_Parser14_W, F_dyn_Parser15_W, F_dyn_Parser15_g2, F_dyn_Parser16_W, F_dyn_Parser17_W, F_dyn_Parser18_W, F_dyn_Parser19_W, F_dyn_Parser20_W, F_dyn_Parsec_W]
    exact ⟨⟨q2, q1⟩, trivial, ⟨⟨e0, e3, e4⟩, e10, e11⟩, .inl trivial⟩
  · cases b with
    | true =>
      simp only [fws, cond_true, cond_false, if_true, if_false, unV, isNil, optI, iV, stepI, evalR, reduceIte, reduceCtorEq, Nat.reduceEqDiff, Int.reduceLT, Int.reduceLE, Int.reduceToNat, Nat.reduceLT, Nat.reduceLeDiff, Int.reduceEq, Int.reduceNeg, IntKind.bits, Nat.reduceAdd, Nat.reduceMul, Nat.reducePow, Int.reducePow, ini, fwh, lk, cellsAt, tagOf, spotOf, rdN, spl, fillL, zr, fwi, F_dyn_Parser0_W, F_dyn_Parser1_W, F_dyn_Parser2_W, F_dyn_Parser3_W, F_dyn_Parser4_W, F_dyn_Parser5_W, F_dyn_Parser6_W, F_dyn_Parser7_W, F_dyn_Parser8_W, F_dyn_Parser9_W, F_dyn_Parser10_W, F_dyn_Parser11_W, F_dyn_Parser12_W, F_dyn_Parser13_W, F_dyn_Parser14_W, F_dyn_Parser15_W, F_dyn_Parser15_g2, F_dyn_Parser16_W, F_dyn_Parser17_W, F_dyn_Parser18_W, F_dyn_Parser19_W, F_dyn_Parser20_W, F_dyn_Parsec_W]
      exact ⟨⟨q2, q1⟩, trivial, ⟨⟨e0, e3, e4⟩, e10, e11⟩, .inr ⟨trivial, q4⟩⟩
    | false =>
      simp only [fws, cond_true, cond_false, if_true, if_false, unV, isNil, optI, iV, stepI, evalR, reduceIte, reduceCtorEq, Nat.reduceEqDiff, Int.reduceLT, Int.reduceLE, Int.reduceToNat, Nat.reduceLT, Nat.reduceLeDiff, Int.reduceEq, Int.reduceNeg, IntKind.bits, Nat.reduceAdd, Nat.reduceMul, Nat.reducePow, Int.reducePow, ini, fwh, lk, cellsAt, tagOf, spotOf, rdN, spl, fillL, zr, fwi, F_dyn_Parser0_W, F_dyn_Parser1_W, F_dyn_Parser2_W, F_dyn_Parser3_W, F_dyn_Parser4_W, F_dyn_Parser5_W, F_dyn_Parser6_W, F_dyn_Parser7_W, F_dyn_Parser8_W, F_dyn_Parser9_W, F_dyn_Parser10_W, F_dyn_Parser11_W, F_dyn_Parser12_W, F_dyn_Parser13_W, F_dyn_Parser14_W, F_dyn_Parser15_W, F_dyn_Parser15_g2, F_dyn_Parser16_W, F_dyn_Parser17_W, F_dyn_Parser18_W, F_dyn_Parser19_W, F_dyn_Parser20_W, F_dyn_Parsec_W]
      exact ⟨⟨q2, q1⟩, trivial, ⟨⟨e0, e3, e4⟩, e10, e11⟩, .inl trivial⟩
theorem pa13 (he : WQ env o L kd) (x : XS H0 h L kd m nd ns D) : W T (.dreg F_dyn_Parser13 []) env h fun y e h' => (∃ i0 i1 i2 i3, h' = h.set kd (blk 40 ((((D.set 9 (.int .u64 i0)).set 10 (.int .u64 i1)).set 11 (.int .u64 i2)).set 12 (.int .u64 i3)))) ∧ y = .normal ∧ WQ e o L kd := by
  obtain ⟨⟨e0, e3, e4⟩, e10, e11⟩ := he
  have m1 := x.tb.map
  have m2 := x.tb.tbl
  have m3 := fun ok k => lkuI_M m1 ok k
  have hd := x.d
  have hs := fun X => List.getElem?_set_self (a := X) (List.getElem?_eq_some_iff.1 hd).1
  have b1 : decide (9 + 1 ≤ D.length) = true := by rw [x.dl]; rfl
  have b2 : decide (10 + 1 ≤ D.length) = true := by rw [x.dl]; rfl
  have b3 : decide (11 + 1 ≤ D.length) = true := by rw [x.dl]; rfl
  have b4 : decide (12 + 1 ≤ D.length) = true := by rw [x.dl]; rfl
  simp only [fws, cond_true, cond_false, if_true, if_false, unV, isNil, optI, iV, stepI, evalR, reduceIte, reduceCtorEq, Nat.reduceEqDiff, Int.reduceLT, Int.reduceLE, Int.reduceToNat, Nat.reduceLT, Nat.reduceLeDiff, Int.reduceEq, Int.reduceNeg, IntKind.bits, Nat.reduceAdd, Nat.reduceMul, Nat.reducePow, Int.reducePow, ini, fwh, lk, cellsAt, tagOf, spotOf, rdN, spl, fillL, zr, fwi, F_dyn_Parser0_W, F_dyn_Parser1_W, F_dyn_Parser2_W, F_dyn_Parser3_W, F_dyn_Parser4_W, F_dyn_Parser5_W, F_dyn_Parser6_W, F_dyn_Parser7_W, F_dyn_Parser8_W, F_dyn_Parser9_W, F_dyn_Parser10_W, F_dyn_Parser11_W, F_dyn_Parser12_W, F_dyn_Parser13_W, F_dyn_Parser14_W, F_dyn_Parser15_W, F_dyn_Parser15_g2, F_dyn_Parser16_W, F_dyn_Parser17_W, F_dyn_Parser18_W, F_dyn_Parser19_W, F_dyn_Parser20_W, F_dyn_Parsec_W, e10, e11, m2, m3, okV, hd, hs, b1, b2, b3, b4, List.set_set, List.length_set]
  exact ⟨⟨_, _, _, _, rfl⟩, trivial, ⟨⟨e0, e3, e4⟩, e10, e11⟩⟩
theorem pa14 (he : WQ env o L kd) (x : XS H0 h L kd m nd ns D) : W T (.dreg F_dyn_Parser14 []) env h fun y e h' => (∃ i0 i1 i2 i3, h' = h.set kd (blk 40 ((((D.set 13 (.int .u64 i0)).set 15 (.int .u64 i1)).set 14 (.int .u64 i2)).set 16 (.int .u64 i3)))) ∧ y = .normal ∧ WQ e o L kd := by
  obtain ⟨⟨e0, e3, e4⟩, e10, e11⟩ := he
  have m1 := x.tb.map
  have m2 := x.tb.tbl
  have m3 := fun ok k => lkuI_M m1 ok k
  have hd := x.d
  have hs := fun X => List.getElem?_set_self (a := X) (List.getElem?_eq_some_iff.1 hd).1
  have b1 : decide (13 + 1 ≤ D.length) = true := by rw [x.dl]; rfl
  have b2 : decide (14 + 1 ≤ D.length) = true := by rw [x.dl]; rfl
  have b3 : decide (15 + 1 ≤ D.length) = true := by rw [x.dl]; rfl
  have b4 : decide (16 + 1 ≤ D.length) = true := by rw [x.dl]; rfl
  simp only [fws, cond_true, cond_false, if_true, if_false, unV, isNil, optI, iV, stepI, evalR, reduceIte, reduceCtorEq, Nat.reduceEqDiff, Int.reduceLT, Int.reduceLE, Int.reduceToNat, Nat.reduceLT, Nat.reduceLeDiff, Int.reduceEq, Int.reduceNeg, IntKind.bits, Nat.reduceAdd, Nat.reduceMul, Nat.reducePow, Int.reducePow, ini, fwh, lk, cellsAt, tagOf, spotOf, rdN, spl, fillL, zr, fwi, F_dyn_Parser0_W, F_dyn_Parser1_W, F_dyn_Parser2_W, F_dyn_Parser3_W, F_dyn_Parser4_W, F_dyn_Parser5_W, F_dyn_Parser6_W, F_dyn_Parser7_W, F_dyn_Parser8_W, F_dyn_Parser9_W, F_dyn_Parser10_W, F_dyn_Parser11_W, F_dyn_Parser12_W, F_dyn_Parser13_W, F_dyn_Parser14_W, F_dyn_Parser15_W, F_dyn_Parser15_g2, F_dyn_Parser16_W, F_dyn_Parser17_W, F_dyn_Parser18_W, F_dyn_Parser19_W, F_dyn_Parser20_W, F_dyn_Parsec_W, e10, e11, m2, m3, okV, hd, hs, b1, b2, b3, b4, List.set_set, List.length_set]
  exact ⟨⟨_, _, _, _, rfl⟩, trivial, ⟨⟨e0, e3, e4⟩, e10, e11⟩⟩
theorem pa15 (h0 : T 58 = some F_dyn_table_has) (he : WQ env o L kd) (x : XS H0 h L kd m nd ns D) : W T (.reg F_dyn_Parser15) env h fun y e h' => (∃ b, h' = h.set kd (blk 40 (D.set 3 (.bool b)))) ∧ y = .normal ∧ WQ e o L kd := by
  obtain ⟨⟨e0, e3, e4⟩, e10, e11⟩ := he
  have m1 := x.tb.map
  have m2 := x.tb.tbl
  have m3 := fun ok k => lkuI_M m1 ok k
  have hd := x.d
  have b1 : decide (3 + 1 ≤ D.length) = true := by rw [x.dl]; rfl
  have c1 := ev_has (T := T) x.tb h0 16
  cases hh : hasM m 16 with
  | true =>
    rw [hh] at c1
    simp only [fws, cond_true, cond_false, if_true, if_false, unV, isNil, optI, iV, stepI, evalR, reduceIte, reduceCtorEq, Nat.reduceEqDiff, Int.reduceLT, Int.reduceLE, Int.reduceToNat, Nat.reduceLT, Nat.reduceLeDiff, Int.reduceEq, Int.reduceNeg, IntKind.bits, Nat.reduceAdd, Nat.reduceMul, Nat.reducePow, Int.reducePow, ini, fwh, lk, cellsAt, tagOf, spotOf, rdN, spl, fillL, zr, fwi, F_dyn_Parser0_W, F_dyn_Parser1_W, F_dyn_Parser2_W, F_dyn_Parser3_W, F_dyn_Parser4_W, F_dyn_Parser5_W, F_dyn_Parser6_W, F_dyn_Parser7_W, F_dyn_Parser8_W, F_dyn_Parser9_W, F_dyn_Parser10_W, F_dyn_Parser11_W, F_dyn_Parser12_W, F_dyn_Parser13_W, F_dyn_Parser14_W, F_dyn_Parser15_W, F_dyn_Parser15_g2, F_dyn_Parser16_W, F_dyn_Parser17_W, F_dyn_Parser18_W, F_dyn_Parser19_W, F_dyn_Parser20_W, F_dyn_Parsec_W, e10, e11, m2, m3, okV, hd, b1, Ev_det c1]
    exact ⟨⟨_, rfl⟩, trivial, ⟨⟨e0, e3, e4⟩, e10, e11⟩⟩
  | false =>
    rw [hh] at c1
    simp only [fws, cond_true, cond_false, if_true, if_false, unV, isNil, optI, iV, stepI, evalR, reduceIte, reduceCtorEq, Nat.reduceEqDiff, Int.reduceLT, Int.reduceLE, Int.reduceToNat, Nat.reduceLT, Nat.reduceLeDiff, Int.reduceEq, Int.reduceNeg, IntKind.bits, Nat.reduceAdd, Nat.reduceMul, Nat.reducePow, Int.reducePow, ini, fwh, lk, cellsAt, tagOf, spotOf, rdN, spl, fillL, zr, fwi, F_dyn_Parser0_W, F_dyn_Parser1_W, F_dyn_Parser2_W, F_dyn_Parser3_W, F_dyn_Parser4_W, F_dyn_Parser5_W, F_dyn_Parser6_W, F_dyn_Parser7_W, F_dyn_Parser8_W, F_dyn_Parser9_W, F_dyn_Parser10_W, F_dyn_Parser11_W, F_dyn_Parser12_W, F_dyn_Parser13_W, F_dyn_Parser14_W, F_dyn_Parser15_W, F_dyn_Parser15_g2, F_dyn_Parser16_W, F_dyn_Parser17_W, F_dyn_Parser18_W, F_dyn_Parser19_W, F_dyn_Parser20_W, F_dyn_Parsec_W, e10, e11, m2, m3, okV, hd, b1, Ev_det c1]
    exact ⟨⟨_, rfl⟩, trivial, ⟨⟨e0, e3, e4⟩, e10, e11⟩⟩
theorem pa16 (he : WQ env o L kd) (x : XS H0 h L kd m nd ns D) : W T (.dreg F_dyn_Parser16 []) env h fun y e h' => (∃ b b', h' = h.set kd (blk 40 ((D.set 4 (.bool b)).set 5 (.bool b')))) ∧ y = .normal ∧ WQ e o L kd := by
  obtain ⟨⟨e0, e3, e4⟩, e10, e11⟩ := he
  have m1 := x.tb.map
  have m2 := x.tb.tbl
  have m3 := fun ok k => lkuI_M m1 ok k
  have hd := x.d
  have hs := fun X => List.getElem?_set_self (a := X) (List.getElem?_eq_some_iff.1 hd).1
  have b1 : decide (4 + 1 ≤ D.length) = true := by rw [x.dl]; rfl
  have b2 : decide (5 + 1 ≤ D.length) = true := by rw [x.dl]; rfl
  simp only [fws, cond_true, cond_false, if_true, if_false, unV, isNil, optI, iV, stepI, evalR, reduceIte, reduceCtorEq, Nat.reduceEqDiff, Int.reduceLT, Int.reduceLE, Int.reduceToNat, Nat.reduceLT, Nat.reduceLeDiff, Int.reduceEq, Int.reduceNeg, IntKind.bits, Nat.reduceAdd, Nat.reduceMul, Nat.reducePow, Int.reducePow, ini, fwh, lk, cellsAt, tagOf, spotOf, rdN, spl, fillL, zr, fwi, F_dyn_Parser0_W, F_dyn_Parser1_W, F_dyn_Parser2_W, F_dyn_Parser3_W, F_dyn_Parser4_W, F_dyn_Parser5_W, F_dyn_Parser6_W, F_dyn_Parser7_W, F_dyn_Parser8_W, F_dyn_Parser9_W, F_dyn_Parser10_W, F_dyn_Parser11_W, F_dyn_Parser12_W, F_dyn_Parser13_W, F_dyn_Parser14_W, F_dyn_Parser15_W, F_dyn_Parser15_g2, F_dyn_Parser16_W, F_dyn_Parser17_W, F_dyn_Parser18_W, F_dyn_Parser19_W, F_dyn_Parser20_W, F_dyn_Parsec_W, e10, e11, m2, m3, okV, hd, hs, b1, b2, List.set_set, List.length_set]
  exact ⟨⟨_, _, rfl⟩, trivial, ⟨⟨e0, e3, e4⟩, e10, e11⟩⟩
end
end Go.Proofs.Ytdkdifjjpbfohaa
/- What the dynamic section says. -/
namespace Go.Proofs.Ytdkdifjjpbfohaa
open Go Fw
set_option linter.unusedSimpArgs false
set_option linter.unusedVariables false
set_option linter.unusedSectionVars false

section
variable {m : List (Int × Int)} {a0 a1 a2 : Value} {pr pk b3 b4 b5 : Bool} {i0 i1 i2 i3 j0 j1 j2 j3 : Int}
theorem wL_fin : (((((((((((wL m [a0, a1, a2] pr pk).set 9 (.int .u64 i0)).set 10 (.int .u64 i1)).set 11 (.int .u64 i2)).set 12 (.int .u64 i3)).set 13 (.int .u64 j0)).set 15 (.int .u64 j1)).set 14 (.int .u64 j2)).set 16 (.int .u64 j3)).set 3 (.bool b3)).set 4 (.bool b4)).set 5 (.bool b5) =
    D3 (strV []) (strV []) (.slice none 0 0) (wR b3 b4 b5 i0 i1 i2 i3 j0 j2 j1 j3 m [a0, a1, a2] pr pk) := by
  simp only [wL, wD, wR, D3, arC, List.cons_append, List.nil_append, List.set_cons_succ, List.set_cons_zero]
theorem wR_all {f : Value → Bool} (hb : ∀ b, f (.bool b) = true) (hi : ∀ n, f (.int .u64 n) = true) (h0 : f a0 = true) (h1 : f a1 = true) (h2 : f a2 = true) : (wR b3 b4 b5 i0 i1 i2 i3 j0 j1 j2 j3 m [a0, a1, a2] pr pk).all f = true := by
  simp only [wR, arC, List.cons_append, List.nil_append, List.all_cons, List.all_nil, hb, hi, h0, h1, h2, Bool.and_self]
theorem wR_4 : ∃ t, (wR b3 b4 b5 i0 i1 i2 i3 j0 j1 j2 j3 m [a0, a1, a2] pr pk).drop 4 = .int .u64 (valM m 5) :: t := by
  simp only [wR, arC, List.cons_append, List.nil_append, List.drop_succ_cons, List.drop_zero]
  exact ⟨_, rfl⟩
theorem wR_5 : ∃ t, (wR b3 b4 b5 i0 i1 i2 i3 j0 j1 j2 j3 m [a0, a1, a2] pr pk).drop 5 = .int .u64 (valM m 10) :: t := by
  simp only [wR, arC, List.cons_append, List.nil_append, List.drop_succ_cons, List.drop_zero]
  exact ⟨_, rfl⟩
theorem wR_len : (wR b3 b4 b5 i0 i1 i2 i3 j0 j1 j2 j3 m [a0, a1, a2] pr pk).length = 37 := by
  simp only [wR, arC, List.cons_append, List.nil_append, List.length_cons, List.length_nil]
end
theorem frz_at {k : Nat} {H : Heap} {a b c c' : Value} {R : List Value} (ha : pureV k a = true) (hb : pureV k b = true) (hR : R.all (pureV k) = true) (hc : frz k H c = some c') : frz (k + 1) H (.agg (D3 a b c R).toArray) = some (.agg (D3 a b c' R).toArray) := by
  simp only [frz]
  cases hp : pureV (k + 1) (.agg (D3 a b c R).toArray) with
  | true =>
    have h1 : pureV k c = true := by
      rw [pure_agg] at hp
      simp only [List.all_cons, Bool.and_eq_true] at hp
      exact hp.2.2.1
    rw [frz_pure h1] at hc
    cases hc
    rfl
  | false =>
    simp only [cond_false, List.mapM_cons, frz_pure ha, frz_pure hb, hc, mapM_pure hR]
    rfl
section
variable {T : Tab} (h0 : T 76 = some F_num_Sub) (h1 : T 74 = some F_num_Inside) (h2 : T 64 = some F_head_Off) (h3 : T 65 = some F_le_Part) (h4 : T 55 = some F_head_Part) (h5 : T 69 = some F_dyn_Strings)
variable (h6 : T 58 = some F_dyn_table_has) (h7 : T 75 = some F_le_Plain) (h8 : T 70 = some F_le_Text) (d : Hd) (hd : d.wf) (o : Option (List UInt8)) (hl : (lst o).length ≤ 100000000)
variable {H0 h : Heap} {L kd : Nat} {m : List (Int × Int)} {nd : Value} {ns : List Int} {R : List Value} {env : Env}
include h0 h1 h2 h3 h4 h5 h6 h7 h8 hd hl
theorem pa17 (h9 : T 59 = some F_dyn_table_texts) (hm : wfM m) (hn : ∀ n ∈ ns, isU64 n) (he : WQ env o L kd) (g0 : h[0]? = some (blk 16 d.cs)) (x : XS h h L kd m nd ns (D3 (strV []) (strV []) (.slice none 0 0) R))
    {t7 t8 : List Value} {a s : Int} (hp : R.all (pureV 5) = true) (hO : R.all oneC = true) (d4 : R.drop 4 = .int .u64 a :: t7) (d5 : R.drop 5 = .int .u64 s :: t8) (ha : isU64 a) (hs : isU64 s) :
    W T (.reg F_dyn_Parser17) env h fun y e h' => FR h h' kd ∧ y = .normal ∧ WQ e o L kd ∧ ((∃ er, er ≠ 0 ∧ e 12 = .int .i64 er) ∨ (e 12 = .int .i64 0 ∧ ∃ s0 s1 nv ss, plain s0 = true ∧ plain s1 = true ∧ (∀ s ∈ ss, good s) ∧ ss.length ≤ 16 ∧ Own strE h' nv ss ∧ (blkV nv = none ∨ ∃ b, blkV nv = some b ∧ h.length ≤ b) ∧ h'[kd]? = some (blk 40 (D3 (strV s0) (strV s1) nv R)))) := by
  obtain ⟨⟨e0, e3, e4⟩, e10, e11⟩ := he
  have c1 := ev_texts h0 h1 h2 h3 h4 h5 h6 h7 h8 d hd o hl h9 hm hn x hp hO d4 d5 ha hs
  unfold Hd.v Hd.cs at c1
  unfold Hd.cs at g0
  simp only [fws, cond_true, cond_false, if_true, if_false, unV, isNil, optI, iV, stepI, evalR, reduceIte, reduceCtorEq, Nat.reduceEqDiff, Int.reduceLT, Int.reduceLE, Int.reduceToNat, Nat.reduceLT, Nat.reduceLeDiff, Int.reduceEq, Int.reduceNeg, IntKind.bits, Nat.reduceAdd, Nat.reduceMul, Nat.reducePow, Int.reducePow, ini, fwh, lk, cellsAt, tagOf, spotOf, rdN, spl, fillL, zr, fwi, F_dyn_Parser0_W, F_dyn_Parser1_W, F_dyn_Parser2_W, F_dyn_Parser3_W, F_dyn_Parser4_W, F_dyn_Parser5_W, F_dyn_Parser6_W, F_dyn_Parser7_W, F_dyn_Parser8_W, F_dyn_Parser9_W, F_dyn_Parser10_W, F_dyn_Parser11_W, F_dyn_Parser12_W, F_dyn_Parser13_W, F_dyn_Parser14_W, F_dyn_Parser15_W, F_dyn_Parser15_g2, F_dyn_Parser16_W, F_dyn_Parser17_W, F_dyn_Parser19_W, F_dyn_Parser20_W, F_dyn_Parsec_W, e0, e3, e10, e11, g0]
  refine c1.mono fun v h' ⟨q1, q2⟩ => ?_
  rcases q2 with ⟨er, hne, rfl⟩ | ⟨rfl, q3⟩
  · simp only [fws, cond_true, cond_false, if_true, if_false, unV, isNil, optI, iV, stepI, evalR, reduceIte, reduceCtorEq, Nat.reduceEqDiff, Int.reduceLT, Int.reduceLE, Int.reduceToNat, Nat.reduceLT, Nat.reduceLeDiff, Int.reduceEq, Int.reduceNeg, IntKind.bits, Nat.reduceAdd, Nat.reduceMul, Nat.reducePow, Int.reducePow, ini, fwh, lk, cellsAt, tagOf, spotOf, rdN, spl, fillL, zr, fwi, F_dyn_Parser0_W, F_dyn_Parser1_W, F_dyn_Parser2_W, F_dyn_Parser3_W, F_dyn_Parser4_W, F_dyn_Parser5_W, F_dyn_Parser6_W, F_dyn_Parser7_W, F_dyn_Parser8_W, F_dyn_Parser9_W, F_dyn_Parser10_W, F_dyn_Parser11_W, F_dyn_Parser12_W, F_dyn_Parser13_W, F_dyn_Parser14_W, F_dyn_Parser15_W, F_dyn_Parser15_g2, F_dyn_Parser16_W, F_dyn_Parser17_W, F_dyn_Parser18_W, F_dyn_Parser19_W, F_dyn_Parser20_W, F_dyn_Parsec_W]
    exact ⟨q1, trivial, ⟨⟨e0, e3, e4⟩, e10, e11⟩, .inl ⟨er, hne, rfl⟩⟩
  · simp only [fws, cond_true, cond_false, if_true, if_false, unV, isNil, optI, iV, stepI, evalR, reduceIte, reduceCtorEq, Nat.reduceEqDiff, Int.reduceLT, Int.reduceLE, Int.reduceToNat, Nat.reduceLT, Nat.reduceLeDiff, Int.reduceEq, Int.reduceNeg, IntKind.bits, Nat.reduceAdd, Nat.reduceMul, Nat.reducePow, Int.reducePow, ini, fwh, lk, cellsAt, tagOf, spotOf, rdN, spl, fillL, zr, fwi, F_dyn_Parser0_W, F_dyn_Parser1_W, F_dyn_Parser2_W, F_dyn_Parser3_W, F_dyn_Parser4_W, F_dyn_Parser5_W, F_dyn_Parser6_W, F_dyn_Parser7_W, F_dyn_Parser8_W, F_dyn_Parser9_W, F_dyn_Parser10_W, F_dyn_Parser11_W, F_dyn_Parser12_W, F_dyn_Parser13_W, F_dyn_Parser14_W, F_dyn_Parser15_W, F_dyn_Parser15_g2, F_dyn_Parser16_W, F_dyn_Parser17_W, F_dyn_Parser18_W, F_dyn_Parser19_W, F_dyn_Parser20_W, F_dyn_Parsec_W]
    exact ⟨q1, trivial, ⟨⟨e0, e3, e4⟩, e10, e11⟩, .inr ⟨trivial, q3⟩⟩
end
section
variable {T : Tab} {o : Option (List UInt8)} {h : Heap} {L kd : Nat} {R : List Value} {env : Env}
theorem pa20 (he : WQ env o L kd) (g : h[1]? = some (blk 40 Zc)) {s0 s1 : List UInt8} {nv : Value} {ss : List (List UInt8)} (hR : R.all (pureV 6) = true) (hRl : R.length = 37) (hO : oneC nv = true) (hO' : R.all oneC = true) (hn : Own strE h nv ss) (hb : blkV nv ≠ some 1) (gk : h[kd]? = some (blk 40 (D3 (strV s0) (strV s1) nv R)))
    {K : Value → Heap → Prop} (hK : ∀ on h', lst on = ss → frz 8 h' (.tuple #[.agg (D3 (strV s0) (strV s1) nv R).toArray, .int .i64 0]) = some (.tuple #[.agg (D3 (strV s0) (strV s1) (slV strE on) R).toArray, .int .i64 0]) → K (.tuple #[.agg (D3 (strV s0) (strV s1) nv R).toArray, .int .i64 0]) h') :
    W T (.seq (.reg F_dyn_Parser20) .ret) env h (retQ [.cell 4 (some 40), .tmp 5] K) := by
  obtain ⟨⟨e0, e3, e4⟩, e10, e11⟩ := he
  have hs := fun X => List.getElem?_set_self (a := X) (List.getElem?_eq_some_iff.1 g).1
  have z1 : spl Zc 0 (D3 (strV s0) (strV s1) nv R) = D3 (strV s0) (strV s1) nv R := by
    rw [spl_eq _ _ _ (by simp [hRl])]
    simp [hRl]
  have z2 : rdN (D3 (strV s0) (strV s1) nv R) 40 = some (D3 (strV s0) (strV s1) nv R) := rdN_all _ (by simp [hRl])
  have hw : (blkV nv ≠ some 1) → Own strE (h.set 1 (blk 40 (D3 (strV s0) (strV s1) nv R))) nv ss := fun _ => hn.keep fun b hb' => List.getElem?_set_ne fun e => hb (by rw [hb', ← e])
  obtain ⟨on, ho1, ho2⟩ := Own.frzE (hw hb) (k := 5) (by decide)
  have z3 : (D3 (strV s0) (strV s1) nv R).all oneC = true := by simp [hO, hO', oneC_string]
  have z4 : decide ((D3 (strV s0) (strV s1) nv R).length = 40) = true := by simp [hRl]
  have fin := hK on (h.set 1 (blk 40 (D3 (strV s0) (strV s1) nv R))) ho1 (frz_t2 (frz_at pure_string pure_string hR ho2) (frz_pure pure_int))
  generalize hX : D3 (strV s0) (strV s1) nv R = X at *
  simp only [fws, cond_true, cond_false, if_true, if_false, unV, isNil, optI, iV, stepI, evalR, reduceIte, reduceCtorEq, Nat.reduceEqDiff, Int.reduceLT, Int.reduceLE, Int.reduceToNat, Nat.reduceLT, Nat.reduceLeDiff, Int.reduceEq, Int.reduceNeg, IntKind.bits, Nat.reduceAdd, Nat.reduceMul, Nat.reducePow, Int.reducePow, ini, fwh, lk, cellsAt, tagOf, spotOf, fillL, zr, fwi, F_dyn_Parser0_W, F_dyn_Parser1_W, F_dyn_Parser2_W, F_dyn_Parser3_W, F_dyn_Parser4_W, F_dyn_Parser5_W, F_dyn_Parser6_W, F_dyn_Parser7_W, F_dyn_Parser8_W, F_dyn_Parser9_W, F_dyn_Parser10_W, F_dyn_Parser11_W, F_dyn_Parser12_W, F_dyn_Parser13_W, F_dyn_Parser14_W, F_dyn_Parser15_W, F_dyn_Parser15_g2, F_dyn_Parser16_W, F_dyn_Parser17_W, F_dyn_Parser18_W, F_dyn_Parser19_W, F_dyn_Parser20_W, F_dyn_Parsec_W, e4, e11, g, gk, hs, z1, z2, z3, z4]
  exact fin
end
end Go.Proofs.Ytdkdifjjpbfohaa
/- What the dynamic section says, joined. -/
namespace Go.Proofs.Ytdkdifjjpbfohaa
open Go Fw
set_option linter.unusedSimpArgs false
set_option linter.unusedVariables false
set_option linter.unusedSectionVars false

structure PF (T : Tab) : Prop where
  sub : T 76 = some F_num_Sub
  ins : T 74 = some F_num_Inside
  get : T 73 = some F_le_get
  u64 : T 63 = some F_le_U64
  part : T 65 = some F_le_Part
  plain : T 75 = some F_le_Plain
  text : T 70 = some F_le_Text
  hoff : T 64 = some F_head_Off
  hpart : T 55 = some F_head_Part
  strs : T 69 = some F_dyn_Strings
  known : T 66 = some F_dyn_known
  ents : T 53 = some F_dyn_Entries
  gath : T 56 = some F_dyn_gather
  has : T 58 = some F_dyn_table_has
  area : T 67 = some F_dyn_table_area
  fixd : T 68 = some F_dyn_table_fixed
  whole : T 57 = some F_dyn_table_whole
  texts : T 59 = some F_dyn_table_texts
  parse : T 33 = some F_dyn_Parse
theorem wp_pa {m : List (Int × Int)} {pa : List Value} {pr pk : Bool} (w : WD m pa pr pk) : ∃ b n k, pa = [.bool b, .int .u64 n, .int .u64 k] := by
  rcases w.pa with ⟨_, _, c⟩ | ⟨_, c⟩ <;> exact ⟨_, _, _, c⟩
theorem XS.put {H0 h h' : Heap} {L kd : Nat} {m : List (Int × Int)} {nd : Value} {ns : List Int} {D D' : List Value} (x : XS H0 h L kd m nd ns D) (q : h' = h.set kd (blk 40 D')) (hl : D'.length = D.length) : XS H0 h' L kd m nd ns D' := by
  rw [q]; exact x.setA (hl.trans x.dl)
theorem get_put {h h' : Heap} {kd : Nat} {X e : Entry} (q : h' = h.set kd X) {i : Nat} (hi : i < kd) (g : h[i]? = some e) : h'[i]? = some e := by
  rw [q, List.getElem?_set_ne (by omega)]; exact g
section
variable {T : Tab} (t : PF T) (d : Hd) (hd : d.wf) (o : Option (List UInt8)) (hl : (lst o).length ≤ 100000000)
include t hd hl
/-- From the call of whole on. -/
theorem parse_end {h : Heap} {env : Env} {L : Nat} {m : List (Int × Int)} {nd : Value} {ns : List Int} (he : WP env o) (e10 : env 10 = ptrT L) (g0 : h[0]? = some (blk 16 d.cs)) (g1 : h[1]? = some (blk 40 Zc)) (hT : Tbl h L m nd ns) (hL : 2 ≤ L) :
    W T (.seq (.reg F_dyn_Parser10) (.seq (.seq (.reg F_dyn_Parser11) (.cond (.t 49) (.seq (.reg F_dyn_Parser12) .ret) .skip)) (.seq (.dreg F_dyn_Parser13 []) (.seq (.dreg F_dyn_Parser14 []) (.seq (.reg F_dyn_Parser15) (.seq (.dreg F_dyn_Parser16 []) (.seq (.seq (.reg F_dyn_Parser17) (.seq (.reg F_dyn_Parser18) (.cond (.t 132) (.seq (.reg F_dyn_Parser19) .ret) .skip))) (.seq (.reg F_dyn_Parser20) .ret)))))))) env h (retQ [.cell 4 (some 40), .tmp 5] KP) := by
  have hLl : L + 1 < h.length := (List.getElem?_eq_some_iff.1 hT.tbl).1
  rw [w_seq]
  refine W.mono (pa10 he e10) fun y e h1 ⟨q1, q2, he⟩ => ?_
  subst q2
  have x0 : XS h1 h1 L h.length m nd ns Zc := by
    subst q1
    exact ⟨⟨by rw [List.getElem?_append_left (by omega)]; exact hT.map, by rw [List.getElem?_append_left (by omega)]; exact hT.tbl⟩, by rw [List.getElem?_append_right (Nat.le_refl _), Nat.sub_self]; rfl, rfl, hT.own.mono _, by omega, by omega, fun e => by have := hT.own.lt e; omega, Nat.le_refl _, by rw [List.length_append]; omega, by rw [List.length_append]; simp, fun b hb => by have := hT.own.lt hb; rw [List.length_append]; omega, fun _ _ _ => rfl⟩
  have k0 : h1[0]? = some (blk 16 d.cs) := by rw [q1, List.getElem?_append_left (by omega)]; exact g0
  have k1 : h1[1]? = some (blk 40 Zc) := by rw [q1, List.getElem?_append_left (by omega)]; exact g1
  have hkd : 2 ≤ h.length := by omega
  have hh1 : h.length < h1.length := x0.kl
  generalize hkk : h.length = kd at *
  clear q1
  rw [seqQ_normal, w_seq, w_seq]
  refine W.mono (pa11 t.has t.area t.fixd t.whole he x0) fun y e h2 ⟨f1, q2, he, q3⟩ => ?_
  subst q2
  have k0 : h2[0]? = some (blk 16 d.cs) := by rw [f1.2 0 (by omega) (by omega)]; exact k0
  have k1 : h2[1]? = some (blk 40 Zc) := by rw [f1.2 1 (by omega) (by omega)]; exact k1
  rw [seqQ_normal, w_cond]
  rcases q3 with e49 | ⟨e49, pa, pr, pk, wd, g2⟩
  · simp only [ev_t, e49, WC_true]
    refine W.mono (er12 he.p.e4 k1) fun y e h ⟨q1, q2⟩ => ?_
    subst q1
    rw [seqQ_ret]; exact q2
  simp only [ev_t, e49, WC_false]
  obtain ⟨v0, v1, v2, rfl⟩ := wp_pa wd
  have x1 := x0.fr' f1 g2 wL_len
  have hh2 : kd < h2.length := by have := f1.1; omega
  clear f1 g2 x0 hh1
  rw [W_skip, seqQ_normal, w_seq]
  refine W.mono (pa13 he x1) fun y e h3 ⟨⟨i0, i1, i2, i3, q1⟩, q2, he⟩ => ?_
  subst q2
  have x2 := x1.put q1 (by simp only [List.length_set])
  have k0 := get_put q1 (by omega) k0
  have k1 := get_put q1 (by omega) k1
  clear q1 x1
  rw [seqQ_normal, w_seq]
  refine W.mono (pa14 he x2) fun y e h4 ⟨⟨j0, j1, j2, j3, q1⟩, q2, he⟩ => ?_
  subst q2
  have x1 := x2.put q1 (by simp only [List.length_set])
  have k0 := get_put q1 (by omega) k0
  have k1 := get_put q1 (by omega) k1
  clear q1 x2
  rw [seqQ_normal, w_seq]
  refine W.mono (pa15 t.has he x1) fun y e h5 ⟨⟨b3, q1⟩, q2, he⟩ => ?_
  subst q2
  have x2 := x1.put q1 (by simp only [List.length_set])
  have k0 := get_put q1 (by omega) k0
  have k1 := get_put q1 (by omega) k1
  clear q1 x1
  rw [seqQ_normal, w_seq]
  refine W.mono (pa16 he x2) fun y e h6 ⟨⟨b4, b5, q1⟩, q2, he⟩ => ?_
  subst q2
  have x1 := x2.put q1 (by simp only [List.length_set])
  have k0 := get_put q1 (by omega) k0
  have k1 := get_put q1 (by omega) k1
  clear q1 x2
  rw [wL_fin] at x1
  obtain ⟨t7, d4⟩ := wR_4 (m := m) (b3 := b3) (b4 := b4) (b5 := b5) (i0 := i0) (i1 := i1) (i2 := i2) (i3 := i3) (j0 := j0) (j1 := j2) (j2 := j1) (j3 := j3) (a0 := .bool v0) (a1 := .int .u64 v1) (a2 := .int .u64 v2) (pr := pr) (pk := pk)
  obtain ⟨t8, d5⟩ := wR_5 (m := m) (b3 := b3) (b4 := b4) (b5 := b5) (i0 := i0) (i1 := i1) (i2 := i2) (i3 := i3) (j0 := j0) (j1 := j2) (j2 := j1) (j3 := j3) (a0 := .bool v0) (a1 := .int .u64 v1) (a2 := .int .u64 v2) (pr := pr) (pk := pk)
  rw [seqQ_normal, w_seq, w_seq]
  refine W.mono (pa17 t.sub t.ins t.hoff t.part t.hpart t.strs t.has t.plain t.text d hd o hl t.texts hT.wf hT.wfn he k0 x1.self (wR_all (fun _ => pure_bool) (fun _ => pure_int) pure_bool pure_int pure_int) (wR_all (fun _ => oneC_bool) (fun _ => oneC_int) oneC_bool oneC_int oneC_int) d4 d5 (valM_u64 hT.wf 5) (valM_u64 hT.wf 10)) fun y e h7 ⟨f1, q2, he, q3⟩ => ?_
  subst q2
  have k1 : h7[1]? = some (blk 40 Zc) := by rw [f1.2 1 (by have := x1.hl; have := x1.kl; omega) (by omega)]; exact k1
  rw [seqQ_normal]
  rcases q3 with ⟨er, hne, e12⟩ | ⟨e12, s0, s1, nv, ss, ps0, ps1, pg, pl, po, pb, pd⟩
  · simp only [fws, cond_true, cond_false, if_true, if_false, unV, isNil, optI, iV, stepI, evalR, reduceIte, reduceCtorEq, Nat.reduceEqDiff, Int.reduceLT, Int.reduceLE, Int.reduceToNat, Nat.reduceLT, Nat.reduceLeDiff, Int.reduceEq, Int.reduceNeg, IntKind.bits, Nat.reduceAdd, Nat.reduceMul, Nat.reducePow, Int.reducePow, ini, fwh, lk, cellsAt, tagOf, spotOf, rdN, spl, fillL, zr, fwi, F_dyn_Parser0_W, F_dyn_Parser1_W, F_dyn_Parser2_W, F_dyn_Parser3_W, F_dyn_Parser4_W, F_dyn_Parser5_W, F_dyn_Parser6_W, F_dyn_Parser7_W, F_dyn_Parser8_W, F_dyn_Parser9_W, F_dyn_Parser10_W, F_dyn_Parser11_W, F_dyn_Parser12_W, F_dyn_Parser13_W, F_dyn_Parser14_W, F_dyn_Parser15_W, F_dyn_Parser15_g2, F_dyn_Parser16_W, F_dyn_Parser17_W, F_dyn_Parser18_W, F_dyn_Parser20_W, F_dyn_Parsec_W, e12, hne]
    rw [← w_seq]
    refine W.mono (er19 he.p.e4 k1 hne e12) fun y e h ⟨q1, q2⟩ => ?_
    subst q1
    rw [seqQ_ret]; exact q2
  · simp only [fws, cond_true, cond_false, if_true, if_false, unV, isNil, optI, iV, stepI, evalR, reduceIte, reduceCtorEq, Nat.reduceEqDiff, Int.reduceLT, Int.reduceLE, Int.reduceToNat, Nat.reduceLT, Nat.reduceLeDiff, Int.reduceEq, Int.reduceNeg, IntKind.bits, Nat.reduceAdd, Nat.reduceMul, Nat.reducePow, Int.reducePow, ini, fwh, lk, cellsAt, tagOf, spotOf, rdN, spl, fillL, zr, fwi, F_dyn_Parser0_W, F_dyn_Parser1_W, F_dyn_Parser2_W, F_dyn_Parser3_W, F_dyn_Parser4_W, F_dyn_Parser5_W, F_dyn_Parser6_W, F_dyn_Parser7_W, F_dyn_Parser8_W, F_dyn_Parser9_W, F_dyn_Parser10_W, F_dyn_Parser11_W, F_dyn_Parser12_W, F_dyn_Parser13_W, F_dyn_Parser14_W, F_dyn_Parser15_W, F_dyn_Parser15_g2, F_dyn_Parser16_W, F_dyn_Parser17_W, F_dyn_Parser18_W, F_dyn_Parser19_W, F_dyn_Parsec_W, e12]
    rw [← w_seq]
    refine pa20 (o := o) (L := L) (kd := kd) ?_ k1 (wR_all (fun _ => pure_bool) (fun _ => pure_int) pure_bool pure_int pure_int) wR_len ?_ (wR_all (fun _ => oneC_bool) (fun _ => oneC_int) oneC_bool oneC_int oneC_int) po (fun e => ?_) pd fun on h' hon hfz => ?_
    · exact ⟨⟨he.p.e0, he.p.e3, he.p.e4⟩, he.e10, he.e11⟩
    · rcases po with ⟨_, rfl⟩ | ⟨b, t, rfl, _⟩ <;> rfl
    · have := x1.hl
      have := x1.kl
      rcases pb with n | ⟨b, n, n1⟩
      · rw [n] at e; cases e
      · rw [n] at e; cases e; omega
    · exact ⟨.ok ⟨s0, s1, on, b3, b4, b5, i0, i1, i2, i3, j0, j2, j1, j3, m, [.bool v0, .int .u64 v1, .int .u64 v2], pr, pk⟩, ⟨ps0, ps1, by rw [hon]; exact pg, by rw [hon]; exact pl, wd⟩, hfz⟩
/-- The whole. -/
theorem f_dyn_Parse : ∃ x : PR, x.good ∧ FnV T 33 [slV byteE o, d.v] x.v := by
  refine FnV_ex (P := PR.good) (g := PR.v) (by simp [d.pure, pure_sl (E := byteE) (o := o) (k := 6) rfl]) ?_
  rw [Ev_fn t.parse rfl]
  show W T F_dyn_Parsec _ _ (retQ [.cell 4 (some 40), .tmp 5] KP)
  unfold F_dyn_Parsec
  rw [w_seq]
  refine W.mono (pa0 d o rfl rfl) fun y e h ⟨q1, q2, he⟩ => ?_
  subst h q2
  have k0 : ([blk 16 d.cs, blk 40 Zc] : Heap)[0]? = some (blk 16 d.cs) := rfl
  have k1 : ([blk 16 d.cs, blk 40 Zc] : Heap)[1]? = some (blk 40 Zc) := rfl
  have kl : ([blk 16 d.cs, blk 40 Zc] : Heap).length = 2 := rfl
  generalize ([blk 16 d.cs, blk 40 Zc] : Heap) = h at *
  rw [seqQ_normal, w_seq]
  refine W.mono (pa1 t.sub t.ins t.hoff t.part t.hpart d hd o hl he k0) fun y e h' ⟨q1, q2, he, q3⟩ => ?_
  subst h' q2
  rw [seqQ_normal]
  rcases q3 with e7 | ⟨e7, xo, hxl, e6⟩
  · simp only [fws, cond_true, cond_false, if_true, if_false, unV, isNil, optI, iV, stepI, evalR, reduceIte, reduceCtorEq, Nat.reduceEqDiff, Int.reduceLT, Int.reduceLE, Int.reduceToNat, Nat.reduceLT, Nat.reduceLeDiff, Int.reduceEq, Int.reduceNeg, IntKind.bits, Nat.reduceAdd, Nat.reduceMul, Nat.reducePow, Int.reducePow, ini, fwh, lk, cellsAt, tagOf, spotOf, rdN, spl, fillL, zr, fwi, F_dyn_Parser0_W, F_dyn_Parser1_W, F_dyn_Parser2_W, F_dyn_Parser4_W, F_dyn_Parser5_W, F_dyn_Parser6_W, F_dyn_Parser7_W, F_dyn_Parser8_W, F_dyn_Parser9_W, F_dyn_Parser10_W, F_dyn_Parser11_W, F_dyn_Parser12_W, F_dyn_Parser13_W, F_dyn_Parser14_W, F_dyn_Parser15_W, F_dyn_Parser15_g2, F_dyn_Parser16_W, F_dyn_Parser17_W, F_dyn_Parser18_W, F_dyn_Parser19_W, F_dyn_Parser20_W, F_dyn_Parsec_W, e7]
    rw [← w_seq]
    refine W.mono (er3 he.e4 k1) fun y e h ⟨q1, q2⟩ => ?_
    subst q1
    simp only [seqQ_ret]; exact q2
  rw [w_seq]
  have key : W T (.seq (.reg F_dyn_Parser2) (.cond (.t 26) (.seq (.reg F_dyn_Parser3) .ret) .skip)) e h fun y e h' => h' = h ∧ y = .normal ∧ WP e o ∧ e 6 = slV byteE xo := by
    obtain ⟨e0, e3, e4⟩ := he
    simp only [fws, cond_true, cond_false, if_true, if_false, unV, isNil, optI, iV, stepI, evalR, reduceIte, reduceCtorEq, Nat.reduceEqDiff, Int.reduceLT, Int.reduceLE, Int.reduceToNat, Nat.reduceLT, Nat.reduceLeDiff, Int.reduceEq, Int.reduceNeg, IntKind.bits, Nat.reduceAdd, Nat.reduceMul, Nat.reducePow, Int.reducePow, ini, fwh, lk, cellsAt, tagOf, spotOf, rdN, spl, fillL, zr, fwi, F_dyn_Parser0_W, F_dyn_Parser1_W, F_dyn_Parser2_W, F_dyn_Parser4_W, F_dyn_Parser5_W, F_dyn_Parser6_W, F_dyn_Parser7_W, F_dyn_Parser8_W, F_dyn_Parser9_W, F_dyn_Parser10_W, F_dyn_Parser11_W, F_dyn_Parser12_W, F_dyn_Parser13_W, F_dyn_Parser14_W, F_dyn_Parser15_W, F_dyn_Parser15_g2, F_dyn_Parser16_W, F_dyn_Parser17_W, F_dyn_Parser18_W, F_dyn_Parser19_W, F_dyn_Parser20_W, F_dyn_Parsec_W, e7]
    exact ⟨trivial, trivial, ⟨e0, e3, e4⟩, e6⟩
  refine W.mono key fun y e h' ⟨q1, q2, he, e6⟩ => ?_
  subst h' q2
  rw [seqQ_normal, w_seq]
  refine W.mono (pa4 t.sub t.ins o t.get t.u64 t.ents he hxl e6) fun y e h' ⟨q1, q2, he, p, p1, p2, e8, e9⟩ => ?_
  subst h' q2
  rw [seqQ_normal]
  rcases p2 with p2 | p2
  rotate_left
  · rw [p2] at e9
    simp only [fws, cond_true, cond_false, if_true, if_false, unV, isNil, optI, iV, stepI, evalR, reduceIte, reduceCtorEq, Nat.reduceEqDiff, Int.reduceLT, Int.reduceLE, Int.reduceToNat, Nat.reduceLT, Nat.reduceLeDiff, Int.reduceEq, Int.reduceNeg, IntKind.bits, Nat.reduceAdd, Nat.reduceMul, Nat.reducePow, Int.reducePow, ini, fwh, lk, cellsAt, tagOf, spotOf, rdN, spl, fillL, zr, fwi, F_dyn_Parser0_W, F_dyn_Parser1_W, F_dyn_Parser2_W, F_dyn_Parser3_W, F_dyn_Parser4_W, F_dyn_Parser5_W, F_dyn_Parser7_W, F_dyn_Parser8_W, F_dyn_Parser9_W, F_dyn_Parser10_W, F_dyn_Parser11_W, F_dyn_Parser12_W, F_dyn_Parser13_W, F_dyn_Parser14_W, F_dyn_Parser15_W, F_dyn_Parser15_g2, F_dyn_Parser16_W, F_dyn_Parser17_W, F_dyn_Parser18_W, F_dyn_Parser19_W, F_dyn_Parser20_W, F_dyn_Parsec_W, e9]
    rw [← w_seq]
    refine W.mono (er6 he.e4 k1 (er := 90) (by decide) e9) fun y e h ⟨q1, q2⟩ => ?_
    subst q1
    simp only [seqQ_ret]; exact q2
  rw [p2] at e9
  rw [w_seq]
  have key : W T (.seq (.reg F_dyn_Parser5) (.cond (.t 34) (.seq (.reg F_dyn_Parser6) .ret) .skip)) e h fun y e h' => h' = h ∧ y = .normal ∧ WP e o ∧ e 8 = slV EnE p.1 := by
    obtain ⟨e0, e3, e4⟩ := he
    simp only [fws, cond_true, cond_false, if_true, if_false, unV, isNil, optI, iV, stepI, evalR, reduceIte, reduceCtorEq, Nat.reduceEqDiff, Int.reduceLT, Int.reduceLE, Int.reduceToNat, Nat.reduceLT, Nat.reduceLeDiff, Int.reduceEq, Int.reduceNeg, IntKind.bits, Nat.reduceAdd, Nat.reduceMul, Nat.reducePow, Int.reducePow, ini, fwh, lk, cellsAt, tagOf, spotOf, rdN, spl, fillL, zr, fwi, F_dyn_Parser0_W, F_dyn_Parser1_W, F_dyn_Parser2_W, F_dyn_Parser3_W, F_dyn_Parser4_W, F_dyn_Parser5_W, F_dyn_Parser7_W, F_dyn_Parser8_W, F_dyn_Parser9_W, F_dyn_Parser10_W, F_dyn_Parser11_W, F_dyn_Parser12_W, F_dyn_Parser13_W, F_dyn_Parser14_W, F_dyn_Parser15_W, F_dyn_Parser15_g2, F_dyn_Parser16_W, F_dyn_Parser17_W, F_dyn_Parser18_W, F_dyn_Parser19_W, F_dyn_Parser20_W, F_dyn_Parsec_W, e9]
    exact ⟨trivial, trivial, ⟨e0, e3, e4⟩, e8⟩
  refine W.mono key fun y e h' ⟨q1, q2, he, e8⟩ => ?_
  subst h' q2
  rw [seqQ_normal, w_seq]
  refine W.mono (pa7 o t.known t.gath he p1 e8) fun y e h1 ⟨f1, f2, q2, he, q3⟩ => ?_
  subst q2
  have k0 : h1[0]? = some (blk 16 d.cs) := by rw [f1 0 (by omega)]; exact k0
  have k1 : h1[1]? = some (blk 40 Zc) := by rw [f1 1 (by omega)]; exact k1
  rw [seqQ_normal]
  rcases q3 with e9 | ⟨e9, e10, m, nd, ns, hT, _⟩
  · simp only [fws, cond_true, cond_false, if_true, if_false, unV, isNil, optI, iV, stepI, evalR, reduceIte, reduceCtorEq, Nat.reduceEqDiff, Int.reduceLT, Int.reduceLE, Int.reduceToNat, Nat.reduceLT, Nat.reduceLeDiff, Int.reduceEq, Int.reduceNeg, IntKind.bits, Nat.reduceAdd, Nat.reduceMul, Nat.reducePow, Int.reducePow, ini, fwh, lk, cellsAt, tagOf, spotOf, rdN, spl, fillL, zr, fwi, F_dyn_Parser0_W, F_dyn_Parser1_W, F_dyn_Parser2_W, F_dyn_Parser3_W, F_dyn_Parser4_W, F_dyn_Parser5_W, F_dyn_Parser6_W, F_dyn_Parser7_W, F_dyn_Parser8_W, F_dyn_Parser10_W, F_dyn_Parser11_W, F_dyn_Parser12_W, F_dyn_Parser13_W, F_dyn_Parser14_W, F_dyn_Parser15_W, F_dyn_Parser15_g2, F_dyn_Parser16_W, F_dyn_Parser17_W, F_dyn_Parser18_W, F_dyn_Parser19_W, F_dyn_Parser20_W, F_dyn_Parsec_W, e9]
    rw [← w_seq]
    refine W.mono (er9 he.e4 k1 (er := 90) (by decide) e9) fun y e h ⟨q1, q2⟩ => ?_
    subst q1
    simp only [seqQ_ret]; exact q2
  rw [w_seq]
  have key : W T (.seq (.reg F_dyn_Parser8) (.cond (.t 43) (.seq (.reg F_dyn_Parser9) .ret) .skip)) e h1 fun y e h' => h' = h1 ∧ y = .normal ∧ WP e o ∧ e 10 = ptrT h.length := by
    obtain ⟨e0, e3, e4⟩ := he
    simp only [fws, cond_true, cond_false, if_true, if_false, unV, isNil, optI, iV, stepI, evalR, reduceIte, reduceCtorEq, Nat.reduceEqDiff, Int.reduceLT, Int.reduceLE, Int.reduceToNat, Nat.reduceLT, Nat.reduceLeDiff, Int.reduceEq, Int.reduceNeg, IntKind.bits, Nat.reduceAdd, Nat.reduceMul, Nat.reducePow, Int.reducePow, ini, fwh, lk, cellsAt, tagOf, spotOf, rdN, spl, fillL, zr, fwi, F_dyn_Parser0_W, F_dyn_Parser1_W, F_dyn_Parser2_W, F_dyn_Parser3_W, F_dyn_Parser4_W, F_dyn_Parser5_W, F_dyn_Parser6_W, F_dyn_Parser7_W, F_dyn_Parser8_W, F_dyn_Parser10_W, F_dyn_Parser11_W, F_dyn_Parser12_W, F_dyn_Parser13_W, F_dyn_Parser14_W, F_dyn_Parser15_W, F_dyn_Parser15_g2, F_dyn_Parser16_W, F_dyn_Parser17_W, F_dyn_Parser18_W, F_dyn_Parser19_W, F_dyn_Parser20_W, F_dyn_Parsec_W, e9]
    exact ⟨trivial, trivial, ⟨e0, e3, e4⟩, e10⟩
  refine W.mono key fun y e h' ⟨q1, q2, he, e10⟩ => ?_
  subst h' q2
  rw [seqQ_normal]
  exact parse_end t d hd o hl he e10 k0 k1 hT (by omega)
end
end Go.Proofs.Ytdkdifjjpbfohaa
/- The document's headers: the small functions; here it is enough that they answer. -/
namespace Go.Proofs.Ytdkdifjjpbfohaa
open Go Fw
set_option linter.unusedSimpArgs false
set_option linter.unusedVariables false
set_option linter.unusedSectionVars false

theorem f_ref08_Nx {T : Tab} (h0 : T 62 = some F_ref02_Get) (h : T 47 = some F_ref08_N) (o : Option (List UInt8)) (hl : (lst o).length ≤ 100000000) {a : Int} (ha : isU64 a) (k : Nat) (hk : 1 ≤ k ∧ k ≤ 8) :
    ∃ n : Int, isU64 n ∧ FnV T 47 [slV byteE o, .int .u64 a, .int .i64 k] (.int .u64 n) := by
  have c1 := f_ref02_Get h0 (lst o) (slV byteE o) Src_sl (pure_sl rfl) hl a.toNat k (by unfold isU64 at ha; omega) hk
  have e1 : (a.toNat : Int) = a := Int.toNat_of_nonneg ha.1
  rw [e1] at c1
  unfold getV at c1
  by_cases hak : a.toNat + k ≤ (lst o).length
  · rw [if_pos hak] at c1
    have hn := leN_take (l := lst o) (a := a.toNat) hk.2
    have h8 : (256 : Nat) ^ k ≤ 256 ^ 8 := Nat.pow_le_pow_right (by decide) hk.2
    have h9 : (256 : Nat) ^ 8 = 18446744073709551616 := by decide
    refine ⟨leN (((lst o).drop a.toNat).take k), ⟨by omega, by omega⟩, FnV_of (by simp [pure_int, pure_sl (E := byteE) (o := o) (k := 6) rfl]) ?_⟩
    rw [Ev_fn h rfl]
    simp only [F_ref08_N, fws, cond_true, cond_false, if_true, if_false, unV, isNil, optI, iV, stepI, evalR, reduceIte, reduceCtorEq, Nat.reduceEqDiff, Int.reduceLT, Int.reduceLE, Int.reduceToNat, Nat.reduceLT, Nat.reduceLeDiff, Int.reduceEq, Int.reduceNeg, IntKind.bits, Nat.reduceAdd, Nat.reduceMul, Nat.reducePow, Int.reducePow, ini, F_ref08_Nr0_W, F_ref08_Nr1_W, F_ref08_Nr2_W, F_ref08_Nc_W, CC_of c1, List.getElem?_cons_zero, List.getElem?_cons_succ, List.getElem?_toArray]
    rfl
  · rw [if_neg hak] at c1
    refine ⟨0, by decide, FnV_of (by simp [pure_int, pure_sl (E := byteE) (o := o) (k := 6) rfl]) ?_⟩
    rw [Ev_fn h rfl]
    simp only [F_ref08_N, fws, cond_true, cond_false, if_true, if_false, unV, isNil, optI, iV, stepI, evalR, reduceIte, reduceCtorEq, Nat.reduceEqDiff, Int.reduceLT, Int.reduceLE, Int.reduceToNat, Nat.reduceLT, Nat.reduceLeDiff, Int.reduceEq, Int.reduceNeg, IntKind.bits, Nat.reduceAdd, Nat.reduceMul, Nat.reducePow, Int.reducePow, ini, F_ref08_Nr0_W, F_ref08_Nr1_W, F_ref08_Nr2_W, F_ref08_Nc_W, CC_of c1, List.getElem?_cons_zero, List.getElem?_cons_succ, List.getElem?_toArray]
    rfl
theorem loop_ref08_End {T : Tab} : ∀ (k : Nat) (n : Int) (env : Env) (H : Heap), isU64 n → (n + k) % 256 = 0 → env 3 = .int .u64 n → W T (.loop F_ref08_Endl0) env H fun x e _ => x = .exit 0 ∧ ∃ m, isU64 m ∧ e 3 = .int .u64 m := by
  intro k
  induction k with
  | zero =>
    intro n env H hn hk e3
    have q : n.tmod 256 = 0 := by rw [tmodN hn.1]; omega
    have hw : IntKind.u64.wrap 0 = 0 := by rw [wrap_u64]; rfl
    rw [w_loop]
    simp only [fws, cond_true, cond_false, if_true, if_false, unV, isNil, optI, iV, stepI, evalR, reduceIte, reduceCtorEq, Nat.reduceEqDiff, Int.reduceLT, Int.reduceLE, Int.reduceToNat, Nat.reduceLT, Nat.reduceLeDiff, Int.reduceEq, Int.reduceNeg, IntKind.bits, Nat.reduceAdd, Nat.reduceMul, Nat.reducePow, Int.reducePow, ini, fwh, lk, cellsAt, tagOf, spotOf, rdN, spl, fillL, zr, F_ref08_Endr0_W, F_ref08_Endr1_W, F_ref08_Endr2_W, F_ref08_Endr3_W, F_ref08_Endl0_W, F_ref08_Endr4_W, F_ref08_Endc_W, e3, q, hw]
    exact ⟨trivial, n, hn, rfl⟩
  | succ k ih =>
    intro n env H hn hk e3
    have w1 : n.tmod 256 = n % 256 := tmodN hn.1
    rw [w_loop]
    by_cases q : n % 256 = 0
    · simp only [fws, cond_true, cond_false, if_true, if_false, unV, isNil, optI, iV, stepI, evalR, reduceIte, reduceCtorEq, Nat.reduceEqDiff, Int.reduceLT, Int.reduceLE, Int.reduceToNat, Nat.reduceLT, Nat.reduceLeDiff, Int.reduceEq, Int.reduceNeg, IntKind.bits, Nat.reduceAdd, Nat.reduceMul, Nat.reducePow, Int.reducePow, ini, fwh, lk, cellsAt, tagOf, spotOf, rdN, spl, fillL, zr, F_ref08_Endr0_W, F_ref08_Endr1_W, F_ref08_Endr2_W, F_ref08_Endr3_W, F_ref08_Endl0_W, F_ref08_Endr4_W, F_ref08_Endc_W, e3, w1, q]
      exact ⟨trivial, n, hn, rfl⟩
    · simp only [fws, cond_true, cond_false, if_true, if_false, unV, isNil, optI, iV, stepI, evalR, reduceIte, reduceCtorEq, Nat.reduceEqDiff, Int.reduceLT, Int.reduceLE, Int.reduceToNat, Nat.reduceLT, Nat.reduceLeDiff, Int.reduceEq, Int.reduceNeg, IntKind.bits, Nat.reduceAdd, Nat.reduceMul, Nat.reducePow, Int.reducePow, ini, fwh, lk, cellsAt, tagOf, spotOf, rdN, spl, fillL, zr, F_ref08_Endr0_W, F_ref08_Endr1_W, F_ref08_Endr2_W, F_ref08_Endr3_W, F_ref08_Endl0_W, F_ref08_Endr4_W, F_ref08_Endc_W, e3, w1, q]
      have hm : isU64 (IntKind.u64.wrap (n + 1)) := by rw [wrap_u64]; unfold isU64; omega
      refine ih (IntKind.u64.wrap (n + 1)) _ _ hm ?_ ?_
      · rw [wrap_u64]; unfold isU64 at hn; omega
      · (first | assumption | rfl)
theorem f_ref08_End {T : Tab} (h : T 49 = some F_ref08_End) (p : S_api_Phdr) : ∃ n : Int, isU64 n ∧ FnV T 49 [phA p] (.int .u64 n) := by
  refine FnV_ex (g := fun n : Int => .int .u64 n) (by simp [pure_agg, pure_int]) ?_
  rw [Ev_fn h rfl]
  simp only [F_ref08_End, fws, cond_true, cond_false, if_true, if_false, unV, isNil, optI, iV, stepI, evalR, reduceIte, reduceCtorEq, Nat.reduceEqDiff, Int.reduceLT, Int.reduceLE, Int.reduceToNat, Nat.reduceLT, Nat.reduceLeDiff, Int.reduceEq, Int.reduceNeg, IntKind.bits, Nat.reduceAdd, Nat.reduceMul, Nat.reducePow, Int.reducePow, ini, fwh, lk, cellsAt, tagOf, spotOf, rdN, spl, fillL, zr, fwi, F_ref08_Endr0_W, F_ref08_Endr1_W, F_ref08_Endr2_W, F_ref08_Endr3_W, F_ref08_Endl0_W, F_ref08_Endr4_W, F_ref08_Endc_W]
  refine W.mono (loop_ref08_End ((-(IntKind.u64.wrap (p.Vaddr + p.Memsz))) % 256).toNat (IntKind.u64.wrap (p.Vaddr + p.Memsz)) _ _ (by rw [wrap_u64]; unfold isU64; omega) (by omega) ?_) fun x e h ⟨q1, m, q2, q3⟩ => ?_
  · (first | assumption | rfl)
  subst q1
  simp only [fws, cond_true, cond_false, if_true, if_false, unV, isNil, optI, iV, stepI, evalR, reduceIte, reduceCtorEq, Nat.reduceEqDiff, Int.reduceLT, Int.reduceLE, Int.reduceToNat, Nat.reduceLT, Nat.reduceLeDiff, Int.reduceEq, Int.reduceNeg, IntKind.bits, Nat.reduceAdd, Nat.reduceMul, Nat.reducePow, Int.reducePow, ini, fwh, lk, cellsAt, tagOf, spotOf, rdN, spl, fillL, zr, F_ref08_Endr0_W, F_ref08_Endr1_W, F_ref08_Endr2_W, F_ref08_Endr3_W, F_ref08_Endl0_W, F_ref08_Endr4_W, F_ref08_Endc_W, q3]
  exact ⟨m, q2, frz_pure pure_int⟩
section
variable {T : Tab} (h0 : T 72 = some F_ref01_Sum) (h1 : T 71 = some F_ref01_Less) (h2 : T 61 = some F_ref01_Inside) (d : Hd) (hd : d.wf) {a s : Int} (ha : isU64 a) (hs : isU64 s)
include h0 h1 h2 hd ha hs
theorem loop_ref08_Off : ∀ (k i : Nat) (H : Heap) (env : Env), i + k = (lst d.o).length → H[0]? = some (blk 16 d.cs) → env 1 = .int .u64 a → env 2 = .int .u64 s → env 3 = ptrA 0 0 → env 8 = .int .i64 i →
    W T (.loop F_ref08_Offl0) env H fun x e _ => (x = .ret ∧ ∃ n, e 6 = .int .u64 n ∧ e 7 = .bool true) ∨ x = .exit 0 := by
  intro k
  have hl := hd.2.2.2
  induction k with
  | zero =>
    intro i H env hi g e1 e2 e3 e8
    unfold Hd.cs at g
    have q : ¬ ((i : Int) < (lst d.o).length) := by omega
    rw [w_loop]
    simp only [fws, cond_true, cond_false, if_true, if_false, unV, isNil, optI, iV, stepI, evalR, reduceIte, reduceCtorEq, Nat.reduceEqDiff, Int.reduceLT, Int.reduceLE, Int.reduceToNat, Nat.reduceLT, Nat.reduceLeDiff, Int.reduceEq, Int.reduceNeg, IntKind.bits, Nat.reduceAdd, Nat.reduceMul, Nat.reducePow, Int.reducePow, ini, fwh, lk, cellsAt, tagOf, spotOf, rdN, spl, fillL, zr, fwi, F_ref08_Offr0_W, F_ref08_Offr1_W, F_ref08_Offr2_W, F_ref08_Offr4_W, F_ref08_Offr5_W, F_ref08_Offr6_W, F_ref08_Offr3_W, F_ref08_Offl0_W, F_ref08_Offr7_W, F_ref08_Offc_W, e3, e8, g, lenI_sl, q]
    exact .inr trivial
  | succ k ih =>
    intro i H env hi g e1 e2 e3 e8
    have g' := g
    unfold Hd.cs at g
    have q : ((i : Int) < (lst d.o).length) := by omega
    have hix : i < (lst d.o).length := by omega
    have hx := fun H => ix_sl (E := PhE) (o := d.o) (n := 7) rfl hix .i64 H
    have hld : ∀ H, loadNI H 7 (atI PhE (lst d.o) i) = some (phA (lst d.o)[i], H) := fun H => loadNI_at rfl hix
    obtain ⟨w1, w2, w3, w4, w5, w6, w7⟩ := hd.1 _ (List.getElem_mem hix)
    simp only [u64_iff] at w3 w4 w5
    have c1 := f_ref01_Inside (T := T) h0 h1 h2 ha hs w4 w5
    have w2 : IntKind.i64.wrap ((i : Int) + 1) = ((i + 1 : Nat) : Int) := by rw [wrapI64 (by omega) (by omega)]; rfl
    have gl : ∀ X, (H ++ [X])[H.length]? = some X := fun X => by rw [List.getElem?_append_right (Nat.le_refl _), Nat.sub_self]; rfl
    have g0 : ∀ X, (H ++ [X])[0]? = some (blk 16 d.cs) := fun X => by rw [List.getElem?_append_left (List.getElem?_eq_some_iff.1 g').1]; exact g'
    rw [w_loop]
    cases hin : insI a s (lst d.o)[i].Vaddr (lst d.o)[i].Filesz with
    | true =>
      rw [hin] at c1
      simp only [fws, cond_true, cond_false, if_true, if_false, unV, isNil, optI, iV, stepI, evalR, reduceIte, reduceCtorEq, Nat.reduceEqDiff, Int.reduceLT, Int.reduceLE, Int.reduceToNat, Nat.reduceLT, Nat.reduceLeDiff, Int.reduceEq, Int.reduceNeg, IntKind.bits, Nat.reduceAdd, Nat.reduceMul, Nat.reducePow, Int.reducePow, ini, fwh, lk, cellsAt, tagOf, spotOf, rdN, spl, fillL, zr, fwi, F_ref08_Offr0_W, F_ref08_Offr1_W, F_ref08_Offr2_W, F_ref08_Offr4_W, F_ref08_Offr5_W, F_ref08_Offr6_W, F_ref08_Offr3_W, F_ref08_Offl0_W, F_ref08_Offr7_W, F_ref08_Offc_W, e1, e2, e3, e8, g, lenI_sl, q, hx, hld, gl, CC_of c1]
      exact .inl ⟨trivial, _, rfl, trivial⟩
    | false =>
      rw [hin] at c1
      simp only [fws, cond_true, cond_false, if_true, if_false, unV, isNil, optI, iV, stepI, evalR, reduceIte, reduceCtorEq, Nat.reduceEqDiff, Int.reduceLT, Int.reduceLE, Int.reduceToNat, Nat.reduceLT, Nat.reduceLeDiff, Int.reduceEq, Int.reduceNeg, IntKind.bits, Nat.reduceAdd, Nat.reduceMul, Nat.reducePow, Int.reducePow, ini, fwh, lk, cellsAt, tagOf, spotOf, rdN, spl, fillL, zr, fwi, F_ref08_Offr0_W, F_ref08_Offr1_W, F_ref08_Offr2_W, F_ref08_Offr4_W, F_ref08_Offr5_W, F_ref08_Offr6_W, F_ref08_Offr3_W, F_ref08_Offl0_W, F_ref08_Offr7_W, F_ref08_Offc_W, e1, e2, e3, e8, g, lenI_sl, q, hx, hld, gl, CC_of c1, w2]
      refine ih (i + 1) _ _ (by omega) (g0 _) ?_ ?_ ?_ ?_
      all_goals (first | assumption | rfl)
theorem f_ref08_Off (h : T 50 = some F_ref08_Off) : ∃ p : Int × Bool, True ∧ FnV T 50 [d.v, .int .u64 a, .int .u64 s] (.tuple #[.int .u64 p.1, .bool p.2]) := by
  refine FnV_ex (g := fun p : Int × Bool => .tuple #[.int .u64 p.1, .bool p.2]) (P := fun _ => True) (by simp [pure_int, d.pure]) ?_
  rw [Ev_fn h rfl]
  simp only [F_ref08_Off, Hd.v, Hd.cs, fws, cond_true, cond_false, if_true, if_false, unV, isNil, optI, iV, stepI, evalR, reduceIte, reduceCtorEq, Nat.reduceEqDiff, Int.reduceLT, Int.reduceLE, Int.reduceToNat, Nat.reduceLT, Nat.reduceLeDiff, Int.reduceEq, Int.reduceNeg, IntKind.bits, Nat.reduceAdd, Nat.reduceMul, Nat.reducePow, Int.reducePow, ini, fwh, lk, cellsAt, tagOf, spotOf, rdN, spl, fillL, zr, fwi, F_ref08_Offr0_W, F_ref08_Offr1_W, F_ref08_Offr2_W, F_ref08_Offr4_W, F_ref08_Offr5_W, F_ref08_Offr6_W, F_ref08_Offr3_W, F_ref08_Offr7_W, F_ref08_Offc_W, oneC_sl]
  refine W.mono (loop_ref08_Off h0 h1 h2 d hd ha hs (lst d.o).length 0 _ _ (Nat.zero_add _) rfl ?_ ?_ ?_ ?_) fun x e h hq => ?_
  all_goals try (first | assumption | rfl)
  rcases hq with ⟨rfl, n, q1, q2⟩ | rfl
  · simp only [fws, cond_true, cond_false, if_true, if_false, unV, isNil, optI, iV, stepI, evalR, reduceIte, reduceCtorEq, Nat.reduceEqDiff, Int.reduceLT, Int.reduceLE, Int.reduceToNat, Nat.reduceLT, Nat.reduceLeDiff, Int.reduceEq, Int.reduceNeg, IntKind.bits, Nat.reduceAdd, Nat.reduceMul, Nat.reducePow, Int.reducePow, ini, F_ref08_Offr0_W, F_ref08_Offr1_W, F_ref08_Offr2_W, F_ref08_Offr4_W, F_ref08_Offr5_W, F_ref08_Offr6_W, F_ref08_Offr3_W, F_ref08_Offl0_W, F_ref08_Offr7_W, F_ref08_Offc_W, q1, q2]
    exact ⟨(n, true), trivial, frz_pure rfl⟩
  · simp only [fws, cond_true, cond_false, if_true, if_false, unV, isNil, optI, iV, stepI, evalR, reduceIte, reduceCtorEq, Nat.reduceEqDiff, Int.reduceLT, Int.reduceLE, Int.reduceToNat, Nat.reduceLT, Nat.reduceLeDiff, Int.reduceEq, Int.reduceNeg, IntKind.bits, Nat.reduceAdd, Nat.reduceMul, Nat.reducePow, Int.reducePow, ini, F_ref08_Offr0_W, F_ref08_Offr1_W, F_ref08_Offr2_W, F_ref08_Offr4_W, F_ref08_Offr5_W, F_ref08_Offr6_W, F_ref08_Offr3_W, F_ref08_Offl0_W, F_ref08_Offr7_W, F_ref08_Offc_W]
    exact ⟨(0, false), trivial, frz_pure rfl⟩
end
end Go.Proofs.Ytdkdifjjpbfohaa
/- The document's headers: may a part be; which part holds bytes. -/
namespace Go.Proofs.Ytdkdifjjpbfohaa
open Go Fw
set_option linter.unusedSimpArgs false
set_option linter.unusedVariables false
set_option linter.unusedSectionVars false

section
variable {T : Tab} (h0 : T 72 = some F_ref01_Sum) (h1 : T 71 = some F_ref01_Less) (h2 : T 61 = some F_ref01_Inside) (h3 : T 49 = some F_ref08_End)
include h0 h1 h2 h3
section
variable (d : Hd) (hd : d.wf) {a s : Int} (ha : isU64 a) (hs : isU64 s)
include hd ha hs
theorem loop_ref08_Holder : ∀ (k i : Nat) (H : Heap) (env : Env), i + k = (lst d.o).length → H[0]? = some (blk 16 d.cs) → env 1 = .int .u64 a → env 2 = .int .u64 s → env 3 = ptrA 0 0 → env 7 = .int .i64 i →
    W T (.loop F_ref08_Holderl0) env H fun x e _ => (x = .ret ∧ ∃ n : Nat, n < (lst d.o).length ∧ e 6 = .int .i64 n) ∨ x = .exit 0 := by
  intro k
  have hl := hd.2.2.2
  induction k with
  | zero =>
    intro i H env hi g e1 e2 e3 e7
    unfold Hd.cs at g
    have q : ¬ ((i : Int) < (lst d.o).length) := by omega
    rw [w_loop]
    simp only [fws, cond_true, cond_false, if_true, if_false, unV, isNil, optI, iV, stepI, evalR, reduceIte, reduceCtorEq, Nat.reduceEqDiff, Int.reduceLT, Int.reduceLE, Int.reduceToNat, Nat.reduceLT, Nat.reduceLeDiff, Int.reduceEq, Int.reduceNeg, IntKind.bits, Nat.reduceAdd, Nat.reduceMul, Nat.reducePow, Int.reducePow, ini, fwh, lk, cellsAt, tagOf, spotOf, rdN, spl, fillL, zr, fwi, F_ref08_Holderr0_W, F_ref08_Holderr1_W, F_ref08_Holderr2_W, F_ref08_Holderr4_W, F_ref08_Holderr5_W, F_ref08_Holderr6_W, F_ref08_Holderr3_W, F_ref08_Holderl0_W, F_ref08_Holderr7_W, F_ref08_Holderc_W, e3, e7, g, lenI_sl, q]
    exact .inr trivial
  | succ k ih =>
    intro i H env hi g e1 e2 e3 e7
    have g' := g
    unfold Hd.cs at g
    have q : ((i : Int) < (lst d.o).length) := by omega
    have hix : i < (lst d.o).length := by omega
    have hx := fun H => ix_sl (E := PhE) (o := d.o) (n := 7) rfl hix .i64 H
    have hld : ∀ H, loadNI H 7 (atI PhE (lst d.o) i) = some (phA (lst d.o)[i], H) := fun H => loadNI_at rfl hix
    obtain ⟨w1, w2, w3, w4, w5, w6, w7⟩ := hd.1 _ (List.getElem_mem hix)
    simp only [u64_iff] at w3 w4 w5
    obtain ⟨n, hn, c2⟩ := f_ref08_End (T := T) h3 (lst d.o)[i]
    have c1 := f_ref01_Inside (T := T) h0 h1 h2 ha hs w4 (r := IntKind.u64.wrap (n - (lst d.o)[i].Vaddr)) (by rw [wrap_u64]; unfold isU64; omega)
    have w2 : IntKind.i64.wrap ((i : Int) + 1) = ((i + 1 : Nat) : Int) := by rw [wrapI64 (by omega) (by omega)]; rfl
    have gl : ∀ X, (H ++ [X])[H.length]? = some X := fun X => by rw [List.getElem?_append_right (Nat.le_refl _), Nat.sub_self]; rfl
    have g0 : ∀ X, (H ++ [X])[0]? = some (blk 16 d.cs) := fun X => by rw [List.getElem?_append_left (List.getElem?_eq_some_iff.1 g').1]; exact g'
    rw [w_loop]
    cases hin : insI a s (lst d.o)[i].Vaddr (IntKind.u64.wrap (n - (lst d.o)[i].Vaddr)) with
    | true =>
      rw [hin] at c1
      simp only [fws, cond_true, cond_false, if_true, if_false, unV, isNil, optI, iV, stepI, evalR, reduceIte, reduceCtorEq, Nat.reduceEqDiff, Int.reduceLT, Int.reduceLE, Int.reduceToNat, Nat.reduceLT, Nat.reduceLeDiff, Int.reduceEq, Int.reduceNeg, IntKind.bits, Nat.reduceAdd, Nat.reduceMul, Nat.reducePow, Int.reducePow, ini, fwh, lk, cellsAt, tagOf, spotOf, rdN, spl, fillL, zr, fwi, F_ref08_Holderr0_W, F_ref08_Holderr1_W, F_ref08_Holderr2_W, F_ref08_Holderr4_W, F_ref08_Holderr5_W, F_ref08_Holderr6_W, F_ref08_Holderr3_W, F_ref08_Holderl0_W, F_ref08_Holderr7_W, F_ref08_Holderc_W, e1, e2, e3, e7, g, lenI_sl, q, hx, hld, gl, CC_of c1, CC_of c2]
      exact .inl ⟨trivial, i, hix, rfl⟩
    | false =>
      rw [hin] at c1
      simp only [fws, cond_true, cond_false, if_true, if_false, unV, isNil, optI, iV, stepI, evalR, reduceIte, reduceCtorEq, Nat.reduceEqDiff, Int.reduceLT, Int.reduceLE, Int.reduceToNat, Nat.reduceLT, Nat.reduceLeDiff, Int.reduceEq, Int.reduceNeg, IntKind.bits, Nat.reduceAdd, Nat.reduceMul, Nat.reducePow, Int.reducePow, ini, fwh, lk, cellsAt, tagOf, spotOf, rdN, spl, fillL, zr, fwi, F_ref08_Holderr0_W, F_ref08_Holderr1_W, F_ref08_Holderr2_W, F_ref08_Holderr4_W, F_ref08_Holderr5_W, F_ref08_Holderr6_W, F_ref08_Holderr3_W, F_ref08_Holderl0_W, F_ref08_Holderr7_W, F_ref08_Holderc_W, e1, e2, e3, e7, g, lenI_sl, q, hx, hld, gl, CC_of c1, CC_of c2, w2]
      refine ih (i + 1) _ _ (by omega) (g0 _) ?_ ?_ ?_ ?_
      all_goals (first | assumption | rfl)
theorem f_ref08_Holder (h : T 51 = some F_ref08_Holder) : ∃ k : Int, (k = -1 ∨ ∃ n : Nat, n < (lst d.o).length ∧ k = n) ∧ FnV T 51 [d.v, .int .u64 a, .int .u64 s] (.int .i64 k) := by
  refine FnV_ex (g := fun k : Int => .int .i64 k) (by simp [pure_int, d.pure]) ?_
  rw [Ev_fn h rfl]
  simp only [F_ref08_Holder, Hd.v, Hd.cs, fws, cond_true, cond_false, if_true, if_false, unV, isNil, optI, iV, stepI, evalR, reduceIte, reduceCtorEq, Nat.reduceEqDiff, Int.reduceLT, Int.reduceLE, Int.reduceToNat, Nat.reduceLT, Nat.reduceLeDiff, Int.reduceEq, Int.reduceNeg, IntKind.bits, Nat.reduceAdd, Nat.reduceMul, Nat.reducePow, Int.reducePow, ini, fwh, lk, cellsAt, tagOf, spotOf, rdN, spl, fillL, zr, fwi, F_ref08_Holderr0_W, F_ref08_Holderr1_W, F_ref08_Holderr2_W, F_ref08_Holderr4_W, F_ref08_Holderr5_W, F_ref08_Holderr6_W, F_ref08_Holderr3_W, F_ref08_Holderr7_W, F_ref08_Holderc_W, oneC_sl]
  refine W.mono (loop_ref08_Holder h0 h1 h2 h3 d hd ha hs (lst d.o).length 0 _ _ (Nat.zero_add _) rfl ?_ ?_ ?_ ?_) fun x e h hq => ?_
  all_goals try (first | assumption | rfl)
  rcases hq with ⟨rfl, n, q1, q2⟩ | rfl
  · simp only [fws, cond_true, cond_false, if_true, if_false, unV, isNil, optI, iV, stepI, evalR, reduceIte, reduceCtorEq, Nat.reduceEqDiff, Int.reduceLT, Int.reduceLE, Int.reduceToNat, Nat.reduceLT, Nat.reduceLeDiff, Int.reduceEq, Int.reduceNeg, IntKind.bits, Nat.reduceAdd, Nat.reduceMul, Nat.reducePow, Int.reducePow, ini, F_ref08_Holderr0_W, F_ref08_Holderr1_W, F_ref08_Holderr2_W, F_ref08_Holderr4_W, F_ref08_Holderr5_W, F_ref08_Holderr6_W, F_ref08_Holderr3_W, F_ref08_Holderl0_W, F_ref08_Holderr7_W, F_ref08_Holderc_W, q2]
    exact ⟨n, .inr ⟨n, q1, rfl⟩, frz_pure rfl⟩
  · simp only [fws, cond_true, cond_false, if_true, if_false, unV, isNil, optI, iV, stepI, evalR, reduceIte, reduceCtorEq, Nat.reduceEqDiff, Int.reduceLT, Int.reduceLE, Int.reduceToNat, Nat.reduceLT, Nat.reduceLeDiff, Int.reduceEq, Int.reduceNeg, IntKind.bits, Nat.reduceAdd, Nat.reduceMul, Nat.reducePow, Int.reducePow, ini, F_ref08_Holderr0_W, F_ref08_Holderr1_W, F_ref08_Holderr2_W, F_ref08_Holderr4_W, F_ref08_Holderr5_W, F_ref08_Holderr6_W, F_ref08_Holderr3_W, F_ref08_Holderl0_W, F_ref08_Holderr7_W, F_ref08_Holderc_W]
    exact ⟨-1, .inl rfl, frz_pure rfl⟩
end
theorem f_ref08_may (h : T 48 = some F_ref08_may) (p : S_api_Phdr) (hp : p.wf) {long en : Int} (hlg : isU64 long) (hen : isU64 en) (fi : Bool) : ∃ b : Bool, True ∧ FnV T 48 [phA p, .int .u64 long, .int .u64 en, .bool fi] (.bool b) := by
  refine FnV_ex (g := fun b : Bool => .bool b) (P := fun _ => True) (by simp [pure_agg, pure_int, pure_bool]) ?_
  have fin : ∀ (b : Bool) (G : Heap), ∃ x : Bool, True ∧ frz 8 G (.bool b) = some (.bool x) := fun b G => ⟨b, trivial, frz_pure pure_bool⟩
  obtain ⟨w1, w2, w3, w4, w5, w6, w7⟩ := hp
  simp only [u64_iff] at w3 w4 w5
  obtain ⟨n, hn, c2⟩ := f_ref08_End (T := T) h3 p
  have c1 := f_ref01_Inside (T := T) h0 h1 h2 w3 w5 (show isU64 0 by decide) hlg
  have t1 : p.Vaddr.tmod 256 = p.Vaddr % 256 := tmodN w4.1
  have t2 : p.Off.tmod 256 = p.Off % 256 := tmodN w3.1
  rw [Ev_fn h rfl]
  by_cases q1 : p.Vaddr % 256 = 0
  rotate_left
  · simp only [F_ref08_may, fws, cond_true, cond_false, if_true, if_false, unV, isNil, optI, iV, stepI, evalR, reduceIte, reduceCtorEq, Nat.reduceEqDiff, Int.reduceLT, Int.reduceLE, Int.reduceToNat, Nat.reduceLT, Nat.reduceLeDiff, Int.reduceEq, Int.reduceNeg, IntKind.bits, Nat.reduceAdd, Nat.reduceMul, Nat.reducePow, Int.reducePow, ini, fwh, lk, cellsAt, tagOf, spotOf, rdN, spl, fillL, zr, fwi, F_ref08_mayr0_W, F_ref08_mayr1_W, F_ref08_mayr1_g4, F_ref08_mayr1_g10, F_ref08_mayr1_g15, F_ref08_mayr1_g20, F_ref08_mayr1_g25, F_ref08_mayr1_g32, F_ref08_mayr2_W, F_ref08_mayr3_W, F_ref08_mayr3_g7, F_ref08_mayr3_g9, F_ref08_mayr3_g15, F_ref08_mayr4_W, F_ref08_mayr5_W, F_ref08_mayc_W, t1, t2, q1]
    exact fin _ _
  by_cases q2 : p.Off % 256 = 0
  rotate_left
  · simp only [F_ref08_may, fws, cond_true, cond_false, if_true, if_false, unV, isNil, optI, iV, stepI, evalR, reduceIte, reduceCtorEq, Nat.reduceEqDiff, Int.reduceLT, Int.reduceLE, Int.reduceToNat, Nat.reduceLT, Nat.reduceLeDiff, Int.reduceEq, Int.reduceNeg, IntKind.bits, Nat.reduceAdd, Nat.reduceMul, Nat.reducePow, Int.reducePow, ini, fwh, lk, cellsAt, tagOf, spotOf, rdN, spl, fillL, zr, fwi, F_ref08_mayr0_W, F_ref08_mayr1_W, F_ref08_mayr1_g4, F_ref08_mayr1_g10, F_ref08_mayr1_g15, F_ref08_mayr1_g20, F_ref08_mayr1_g25, F_ref08_mayr1_g32, F_ref08_mayr2_W, F_ref08_mayr3_W, F_ref08_mayr3_g7, F_ref08_mayr3_g9, F_ref08_mayr3_g15, F_ref08_mayr4_W, F_ref08_mayr5_W, F_ref08_mayc_W, t1, t2, q1, q2]
    exact fin _ _
  by_cases q3 : 7 < p.Flags
  · simp only [F_ref08_may, fws, cond_true, cond_false, if_true, if_false, unV, isNil, optI, iV, stepI, evalR, reduceIte, reduceCtorEq, Nat.reduceEqDiff, Int.reduceLT, Int.reduceLE, Int.reduceToNat, Nat.reduceLT, Nat.reduceLeDiff, Int.reduceEq, Int.reduceNeg, IntKind.bits, Nat.reduceAdd, Nat.reduceMul, Nat.reducePow, Int.reducePow, ini, fwh, lk, cellsAt, tagOf, spotOf, rdN, spl, fillL, zr, fwi, F_ref08_mayr0_W, F_ref08_mayr1_W, F_ref08_mayr1_g4, F_ref08_mayr1_g10, F_ref08_mayr1_g15, F_ref08_mayr1_g20, F_ref08_mayr1_g25, F_ref08_mayr1_g32, F_ref08_mayr2_W, F_ref08_mayr3_W, F_ref08_mayr3_g7, F_ref08_mayr3_g9, F_ref08_mayr3_g15, F_ref08_mayr4_W, F_ref08_mayr5_W, F_ref08_mayc_W, t1, t2, q1, q2, q3]
    exact fin _ _
  by_cases q4 : p.Memsz = 0
  · simp only [F_ref08_may, fws, cond_true, cond_false, if_true, if_false, unV, isNil, optI, iV, stepI, evalR, reduceIte, reduceCtorEq, Nat.reduceEqDiff, Int.reduceLT, Int.reduceLE, Int.reduceToNat, Nat.reduceLT, Nat.reduceLeDiff, Int.reduceEq, Int.reduceNeg, IntKind.bits, Nat.reduceAdd, Nat.reduceMul, Nat.reducePow, Int.reducePow, ini, fwh, lk, cellsAt, tagOf, spotOf, rdN, spl, fillL, zr, fwi, F_ref08_mayr0_W, F_ref08_mayr1_W, F_ref08_mayr1_g4, F_ref08_mayr1_g10, F_ref08_mayr1_g15, F_ref08_mayr1_g20, F_ref08_mayr1_g25, F_ref08_mayr1_g32, F_ref08_mayr2_W, F_ref08_mayr3_W, F_ref08_mayr3_g7, F_ref08_mayr3_g9, F_ref08_mayr3_g15, F_ref08_mayr4_W, F_ref08_mayr5_W, F_ref08_mayc_W, t1, t2, q1, q2, q3, q4]
    exact fin _ _
  by_cases q5 : 16384 < p.Memsz
  · simp only [F_ref08_may, fws, cond_true, cond_false, if_true, if_false, unV, isNil, optI, iV, stepI, evalR, reduceIte, reduceCtorEq, Nat.reduceEqDiff, Int.reduceLT, Int.reduceLE, Int.reduceToNat, Nat.reduceLT, Nat.reduceLeDiff, Int.reduceEq, Int.reduceNeg, IntKind.bits, Nat.reduceAdd, Nat.reduceMul, Nat.reducePow, Int.reducePow, ini, fwh, lk, cellsAt, tagOf, spotOf, rdN, spl, fillL, zr, fwi, F_ref08_mayr0_W, F_ref08_mayr1_W, F_ref08_mayr1_g4, F_ref08_mayr1_g10, F_ref08_mayr1_g15, F_ref08_mayr1_g20, F_ref08_mayr1_g25, F_ref08_mayr1_g32, F_ref08_mayr2_W, F_ref08_mayr3_W, F_ref08_mayr3_g7, F_ref08_mayr3_g9, F_ref08_mayr3_g15, F_ref08_mayr4_W, F_ref08_mayr5_W, F_ref08_mayc_W, t1, t2, q1, q2, q3, q4, q5]
    exact fin _ _
  by_cases q6 : p.Memsz < p.Filesz
  · simp only [F_ref08_may, fws, cond_true, cond_false, if_true, if_false, unV, isNil, optI, iV, stepI, evalR, reduceIte, reduceCtorEq, Nat.reduceEqDiff, Int.reduceLT, Int.reduceLE, Int.reduceToNat, Nat.reduceLT, Nat.reduceLeDiff, Int.reduceEq, Int.reduceNeg, IntKind.bits, Nat.reduceAdd, Nat.reduceMul, Nat.reducePow, Int.reducePow, ini, fwh, lk, cellsAt, tagOf, spotOf, rdN, spl, fillL, zr, fwi, F_ref08_mayr0_W, F_ref08_mayr1_W, F_ref08_mayr1_g4, F_ref08_mayr1_g10, F_ref08_mayr1_g15, F_ref08_mayr1_g20, F_ref08_mayr1_g25, F_ref08_mayr1_g32, F_ref08_mayr2_W, F_ref08_mayr3_W, F_ref08_mayr3_g7, F_ref08_mayr3_g9, F_ref08_mayr3_g15, F_ref08_mayr4_W, F_ref08_mayr5_W, F_ref08_mayc_W, t1, t2, q1, q2, q3, q4, q5, q6]
    exact fin _ _
  by_cases q7 : 16384 < p.Vaddr
  · simp only [F_ref08_may, fws, cond_true, cond_false, if_true, if_false, unV, isNil, optI, iV, stepI, evalR, reduceIte, reduceCtorEq, Nat.reduceEqDiff, Int.reduceLT, Int.reduceLE, Int.reduceToNat, Nat.reduceLT, Nat.reduceLeDiff, Int.reduceEq, Int.reduceNeg, IntKind.bits, Nat.reduceAdd, Nat.reduceMul, Nat.reducePow, Int.reducePow, ini, fwh, lk, cellsAt, tagOf, spotOf, rdN, spl, fillL, zr, fwi, F_ref08_mayr0_W, F_ref08_mayr1_W, F_ref08_mayr1_g4, F_ref08_mayr1_g10, F_ref08_mayr1_g15, F_ref08_mayr1_g20, F_ref08_mayr1_g25, F_ref08_mayr1_g32, F_ref08_mayr2_W, F_ref08_mayr3_W, F_ref08_mayr3_g7, F_ref08_mayr3_g9, F_ref08_mayr3_g15, F_ref08_mayr4_W, F_ref08_mayr5_W, F_ref08_mayc_W, t1, t2, q1, q2, q3, q4, q5, q6, q7]
    exact fin _ _
  cases q8 : insI p.Off p.Filesz 0 long with
  | false =>
    rw [q8] at c1
    simp only [F_ref08_may, fws, cond_true, cond_false, if_true, if_false, unV, isNil, optI, iV, stepI, evalR, reduceIte, reduceCtorEq, Nat.reduceEqDiff, Int.reduceLT, Int.reduceLE, Int.reduceToNat, Nat.reduceLT, Nat.reduceLeDiff, Int.reduceEq, Int.reduceNeg, IntKind.bits, Nat.reduceAdd, Nat.reduceMul, Nat.reducePow, Int.reducePow, ini, fwh, lk, cellsAt, tagOf, spotOf, rdN, spl, fillL, zr, fwi, F_ref08_mayr0_W, F_ref08_mayr1_W, F_ref08_mayr1_g4, F_ref08_mayr1_g10, F_ref08_mayr1_g15, F_ref08_mayr1_g20, F_ref08_mayr1_g25, F_ref08_mayr1_g32, F_ref08_mayr2_W, F_ref08_mayr3_W, F_ref08_mayr3_g7, F_ref08_mayr3_g9, F_ref08_mayr3_g15, F_ref08_mayr4_W, F_ref08_mayr5_W, F_ref08_mayc_W, t1, t2, q1, q2, q3, q4, q5, q6, q7, CC_of c1]
    exact fin _ _
  | true =>
    rw [q8] at c1
    have rest : fi = false ∨ (fi = true ∧ decide (p.Vaddr = 0) = true) → W T F_ref08_mayc (ini [phA p, .int .u64 long, .int .u64 en, .bool fi]) [] (retQ [.tmp 8] fun u h => ∃ x : Bool, True ∧ frz 8 h u = some (.bool x)) := by
      intro hfi
      by_cases q9 : p.Vaddr < en
      · rcases hfi with rfl | ⟨rfl, q10⟩
        · simp only [fws, cond_true, cond_false, if_true, if_false, unV, isNil, optI, iV, stepI, evalR, reduceIte, reduceCtorEq, Nat.reduceEqDiff, Int.reduceLT, Int.reduceLE, Int.reduceToNat, Nat.reduceLT, Nat.reduceLeDiff, Int.reduceEq, Int.reduceNeg, IntKind.bits, Nat.reduceAdd, Nat.reduceMul, Nat.reducePow, Int.reducePow, ini, fwh, lk, cellsAt, tagOf, spotOf, rdN, spl, fillL, zr, fwi, F_ref08_mayr0_W, F_ref08_mayr1_W, F_ref08_mayr1_g4, F_ref08_mayr1_g10, F_ref08_mayr1_g15, F_ref08_mayr1_g20, F_ref08_mayr1_g25, F_ref08_mayr1_g32, F_ref08_mayr2_W, F_ref08_mayr3_W, F_ref08_mayr3_g7, F_ref08_mayr3_g9, F_ref08_mayr3_g15, F_ref08_mayr4_W, F_ref08_mayr5_W, F_ref08_mayc_W, t1, t2, q1, q2, q3, q4, q5, q6, q7, q9, CC_of c1]
          exact fin _ _
        · simp only [fws, cond_true, cond_false, if_true, if_false, unV, isNil, optI, iV, stepI, evalR, reduceIte, reduceCtorEq, Nat.reduceEqDiff, Int.reduceLT, Int.reduceLE, Int.reduceToNat, Nat.reduceLT, Nat.reduceLeDiff, Int.reduceEq, Int.reduceNeg, IntKind.bits, Nat.reduceAdd, Nat.reduceMul, Nat.reducePow, Int.reducePow, ini, fwh, lk, cellsAt, tagOf, spotOf, rdN, spl, fillL, zr, fwi, F_ref08_mayr0_W, F_ref08_mayr1_W, F_ref08_mayr1_g4, F_ref08_mayr1_g10, F_ref08_mayr1_g15, F_ref08_mayr1_g20, F_ref08_mayr1_g25, F_ref08_mayr1_g32, F_ref08_mayr2_W, F_ref08_mayr3_W, F_ref08_mayr3_g7, F_ref08_mayr3_g9, F_ref08_mayr3_g15, F_ref08_mayr4_W, F_ref08_mayr5_W, F_ref08_mayc_W, t1, t2, q1, q2, q3, q4, q5, q6, q7, q9, q10, CC_of c1]
          exact fin _ _
      · rcases hfi with rfl | ⟨rfl, q10⟩
        · simp only [fws, cond_true, cond_false, if_true, if_false, unV, isNil, optI, iV, stepI, evalR, reduceIte, reduceCtorEq, Nat.reduceEqDiff, Int.reduceLT, Int.reduceLE, Int.reduceToNat, Nat.reduceLT, Nat.reduceLeDiff, Int.reduceEq, Int.reduceNeg, IntKind.bits, Nat.reduceAdd, Nat.reduceMul, Nat.reducePow, Int.reducePow, ini, fwh, lk, cellsAt, tagOf, spotOf, rdN, spl, fillL, zr, fwi, F_ref08_mayr0_W, F_ref08_mayr1_W, F_ref08_mayr1_g4, F_ref08_mayr1_g10, F_ref08_mayr1_g15, F_ref08_mayr1_g20, F_ref08_mayr1_g25, F_ref08_mayr1_g32, F_ref08_mayr2_W, F_ref08_mayr3_W, F_ref08_mayr3_g7, F_ref08_mayr3_g9, F_ref08_mayr3_g15, F_ref08_mayr4_W, F_ref08_mayr5_W, F_ref08_mayc_W, t1, t2, q1, q2, q3, q4, q5, q6, q7, q9, CC_of c1, CC_of c2]
          exact fin _ _
        · simp only [fws, cond_true, cond_false, if_true, if_false, unV, isNil, optI, iV, stepI, evalR, reduceIte, reduceCtorEq, Nat.reduceEqDiff, Int.reduceLT, Int.reduceLE, Int.reduceToNat, Nat.reduceLT, Nat.reduceLeDiff, Int.reduceEq, Int.reduceNeg, IntKind.bits, Nat.reduceAdd, Nat.reduceMul, Nat.reducePow, Int.reducePow, ini, fwh, lk, cellsAt, tagOf, spotOf, rdN, spl, fillL, zr, fwi, F_ref08_mayr0_W, F_ref08_mayr1_W, F_ref08_mayr1_g4, F_ref08_mayr1_g10, F_ref08_mayr1_g15, F_ref08_mayr1_g20, F_ref08_mayr1_g25, F_ref08_mayr1_g32, F_ref08_mayr2_W, F_ref08_mayr3_W, F_ref08_mayr3_g7, F_ref08_mayr3_g9, F_ref08_mayr3_g15, F_ref08_mayr4_W, F_ref08_mayr5_W, F_ref08_mayc_W, t1, t2, q1, q2, q3, q4, q5, q6, q7, q9, q10, CC_of c1, CC_of c2]
          exact fin _ _
    cases fi with
    | false => exact rest (.inl rfl)
    | true =>
      by_cases q10 : p.Vaddr = 0
      · exact rest (.inr ⟨rfl, decide_eq_true q10⟩)
      · simp only [F_ref08_may, fws, cond_true, cond_false, if_true, if_false, unV, isNil, optI, iV, stepI, evalR, reduceIte, reduceCtorEq, Nat.reduceEqDiff, Int.reduceLT, Int.reduceLE, Int.reduceToNat, Nat.reduceLT, Nat.reduceLeDiff, Int.reduceEq, Int.reduceNeg, IntKind.bits, Nat.reduceAdd, Nat.reduceMul, Nat.reducePow, Int.reducePow, ini, fwh, lk, cellsAt, tagOf, spotOf, rdN, spl, fillL, zr, fwi, F_ref08_mayr0_W, F_ref08_mayr1_W, F_ref08_mayr1_g4, F_ref08_mayr1_g10, F_ref08_mayr1_g15, F_ref08_mayr1_g20, F_ref08_mayr1_g25, F_ref08_mayr1_g32, F_ref08_mayr2_W, F_ref08_mayr3_W, F_ref08_mayr3_g7, F_ref08_mayr3_g9, F_ref08_mayr3_g15, F_ref08_mayr4_W, F_ref08_mayr5_W, F_ref08_mayc_W, t1, t2, q1, q2, q3, q4, q5, q6, q7, q10, CC_of c1]
        exact fin _ _
end
end Go.Proofs.Ytdkdifjjpbfohaa
/- The document's headers: the table. -/
namespace Go.Proofs.Ytdkdifjjpbfohaa
open Go Fw
set_option linter.unusedSimpArgs false
set_option linter.unusedVariables false
set_option linter.unusedSectionVars false

theorem ld_byte {l : List UInt8} {i : Nat} (h : i < l.length) (H : Heap) : loadI H (atI byteE l i) = some (.int .u8 l[i].toNat, H) := by
  simp only [fwi, at_cons h]
theorem byte_at (o : Option (List UInt8)) {i : Nat} (h : i < (lst o).length) {z : Int} (hz : z = i) : ∃ c : Int, ∃ p, (∀ H, ixaI H 1 (slV byteE o) (.int .i64 z) = some (p, H)) ∧ ∀ H, loadI H p = some (.int .u8 c, H) := by
  subst hz
  exact ⟨_, _, fun H => ix_sl rfl h .i64 H, fun H => ld_byte h H⟩
/-- An error. -/
def RT (x : Ex) (e : Env) : Prop := x = .ret ∧ e 2 = .slice none 0 0 ∧ ∃ er, e 3 = .int .i64 er
section
variable {T : Tab} (h0 : T 62 = some F_ref02_Get) (h1 : T 47 = some F_ref08_N) (h2 : T 72 = some F_ref01_Sum) (h3 : T 71 = some F_ref01_Less) (h4 : T 61 = some F_ref01_Inside)
variable (o : Option (List UInt8)) (hl : (lst o).length ≤ 100000000) {env : Env} {H : Heap}
theorem tb1 (e0 : env 0 = slV byteE o) : W T (.seq (.reg F_ref08_Tabler1) (.cond (.t 35) (.seq (.reg F_ref08_Tabler2) .ret) .skip)) env H fun x e h => h = H ∧ (RT x e ∨ (x = .normal ∧ e 0 = slV byteE o ∧ 64 ≤ (lst o).length)) := by
  by_cases q : (lst o).length < 64
  · have q' : ((lst o).length : Int) < 64 := by omega
    simp only [fws, cond_true, cond_false, if_true, if_false, unV, isNil, optI, iV, stepI, evalR, reduceIte, reduceCtorEq, Nat.reduceEqDiff, Int.reduceLT, Int.reduceLE, Int.reduceToNat, Nat.reduceLT, Nat.reduceLeDiff, Int.reduceEq, Int.reduceNeg, IntKind.bits, Nat.reduceAdd, Nat.reduceMul, Nat.reducePow, Int.reducePow, ini, fwh, lk, cellsAt, tagOf, spotOf, rdN, spl, fillL, zr, fwi, F_ref08_Tabler0_W, F_ref08_Tabler1_W, F_ref08_Tabler1_g3, F_ref08_Tabler1_g9, F_ref08_Tabler1_g15, F_ref08_Tabler1_g21, F_ref08_Tabler2_W, F_ref08_Tabler3_W, F_ref08_Tabler3_g4, F_ref08_Tabler3_g10, F_ref08_Tabler4_W, F_ref08_Tabler5_W, F_ref08_Tabler6_W, F_ref08_Tabler7_W, F_ref08_Tabler7_g3, F_ref08_Tabler8_W, F_ref08_Tabler9_W, F_ref08_Tabler10_W, F_ref08_Tabler10_g3, F_ref08_Tabler10_g8, F_ref08_Tabler10_g12, F_ref08_Tabler10_g16, F_ref08_Tabler11_W, F_ref08_Tabler12_W, F_ref08_Tabler13_W, F_ref08_Tabler14_W, F_ref08_Tabler16_W, F_ref08_Tabler17_W, F_ref08_Tabler15_W, F_ref08_Tablel0_W, F_ref08_Tabler18_W, F_ref08_Tablec_W, e0, lenI_sl, q']
    exact ⟨trivial, .inl ⟨rfl, rfl, _, rfl⟩⟩
  · have q' : ¬ ((lst o).length : Int) < 64 := by omega
    obtain ⟨c0, p0, a0, b0⟩ := byte_at o (i := 0) (z := 0) (by omega) rfl
    obtain ⟨c1, p1, a1, b1⟩ := byte_at o (i := 1) (z := 1) (by omega) rfl
    obtain ⟨c2, p2, a2, b2⟩ := byte_at o (i := 2) (z := 2) (by omega) rfl
    obtain ⟨c3, p3, a3, b3⟩ := byte_at o (i := 3) (z := 3) (by omega) rfl
    by_cases k0 : c0 = 127
    rotate_left
    · simp only [fws, cond_true, cond_false, if_true, if_false, unV, isNil, optI, iV, stepI, evalR, reduceIte, reduceCtorEq, Nat.reduceEqDiff, Int.reduceLT, Int.reduceLE, Int.reduceToNat, Nat.reduceLT, Nat.reduceLeDiff, Int.reduceEq, Int.reduceNeg, IntKind.bits, Nat.reduceAdd, Nat.reduceMul, Nat.reducePow, Int.reducePow, ini, fwh, lk, cellsAt, tagOf, spotOf, rdN, spl, fillL, zr, fwi, F_ref08_Tabler0_W, F_ref08_Tabler1_W, F_ref08_Tabler1_g3, F_ref08_Tabler1_g9, F_ref08_Tabler1_g15, F_ref08_Tabler1_g21, F_ref08_Tabler2_W, F_ref08_Tabler3_W, F_ref08_Tabler3_g4, F_ref08_Tabler3_g10, F_ref08_Tabler4_W, F_ref08_Tabler5_W, F_ref08_Tabler6_W, F_ref08_Tabler7_W, F_ref08_Tabler7_g3, F_ref08_Tabler8_W, F_ref08_Tabler9_W, F_ref08_Tabler10_W, F_ref08_Tabler10_g3, F_ref08_Tabler10_g8, F_ref08_Tabler10_g12, F_ref08_Tabler10_g16, F_ref08_Tabler11_W, F_ref08_Tabler12_W, F_ref08_Tabler13_W, F_ref08_Tabler14_W, F_ref08_Tabler16_W, F_ref08_Tabler17_W, F_ref08_Tabler15_W, F_ref08_Tablel0_W, F_ref08_Tabler18_W, F_ref08_Tablec_W, e0, lenI_sl, q', a0, b0, k0]
      exact ⟨trivial, .inl ⟨rfl, rfl, _, rfl⟩⟩
    by_cases k1 : c1 = 69
    rotate_left
    · simp only [fws, cond_true, cond_false, if_true, if_false, unV, isNil, optI, iV, stepI, evalR, reduceIte, reduceCtorEq, Nat.reduceEqDiff, Int.reduceLT, Int.reduceLE, Int.reduceToNat, Nat.reduceLT, Nat.reduceLeDiff, Int.reduceEq, Int.reduceNeg, IntKind.bits, Nat.reduceAdd, Nat.reduceMul, Nat.reducePow, Int.reducePow, ini, fwh, lk, cellsAt, tagOf, spotOf, rdN, spl, fillL, zr, fwi, F_ref08_Tabler0_W, F_ref08_Tabler1_W, F_ref08_Tabler1_g3, F_ref08_Tabler1_g9, F_ref08_Tabler1_g15, F_ref08_Tabler1_g21, F_ref08_Tabler2_W, F_ref08_Tabler3_W, F_ref08_Tabler3_g4, F_ref08_Tabler3_g10, F_ref08_Tabler4_W, F_ref08_Tabler5_W, F_ref08_Tabler6_W, F_ref08_Tabler7_W, F_ref08_Tabler7_g3, F_ref08_Tabler8_W, F_ref08_Tabler9_W, F_ref08_Tabler10_W, F_ref08_Tabler10_g3, F_ref08_Tabler10_g8, F_ref08_Tabler10_g12, F_ref08_Tabler10_g16, F_ref08_Tabler11_W, F_ref08_Tabler12_W, F_ref08_Tabler13_W, F_ref08_Tabler14_W, F_ref08_Tabler16_W, F_ref08_Tabler17_W, F_ref08_Tabler15_W, F_ref08_Tablel0_W, F_ref08_Tabler18_W, F_ref08_Tablec_W, e0, lenI_sl, q', a0, b0, k0, a1, b1, k1]
      exact ⟨trivial, .inl ⟨rfl, rfl, _, rfl⟩⟩
    by_cases k2 : c2 = 76
    rotate_left
    · simp only [fws, cond_true, cond_false, if_true, if_false, unV, isNil, optI, iV, stepI, evalR, reduceIte, reduceCtorEq, Nat.reduceEqDiff, Int.reduceLT, Int.reduceLE, Int.reduceToNat, Nat.reduceLT, Nat.reduceLeDiff, Int.reduceEq, Int.reduceNeg, IntKind.bits, Nat.reduceAdd, Nat.reduceMul, Nat.reducePow, Int.reducePow, ini, fwh, lk, cellsAt, tagOf, spotOf, rdN, spl, fillL, zr, fwi, F_ref08_Tabler0_W, F_ref08_Tabler1_W, F_ref08_Tabler1_g3, F_ref08_Tabler1_g9, F_ref08_Tabler1_g15, F_ref08_Tabler1_g21, F_ref08_Tabler2_W, F_ref08_Tabler3_W, F_ref08_Tabler3_g4, F_ref08_Tabler3_g10, F_ref08_Tabler4_W, F_ref08_Tabler5_W, F_ref08_Tabler6_W, F_ref08_Tabler7_W, F_ref08_Tabler7_g3, F_ref08_Tabler8_W, F_ref08_Tabler9_W, F_ref08_Tabler10_W, F_ref08_Tabler10_g3, F_ref08_Tabler10_g8, F_ref08_Tabler10_g12, F_ref08_Tabler10_g16, F_ref08_Tabler11_W, F_ref08_Tabler12_W, F_ref08_Tabler13_W, F_ref08_Tabler14_W, F_ref08_Tabler16_W, F_ref08_Tabler17_W, F_ref08_Tabler15_W, F_ref08_Tablel0_W, F_ref08_Tabler18_W, F_ref08_Tablec_W, e0, lenI_sl, q', a0, b0, k0, a1, b1, k1, a2, b2, k2]
      exact ⟨trivial, .inl ⟨rfl, rfl, _, rfl⟩⟩
    by_cases k3 : c3 = 70
    rotate_left
    · simp only [fws, cond_true, cond_false, if_true, if_false, unV, isNil, optI, iV, stepI, evalR, reduceIte, reduceCtorEq, Nat.reduceEqDiff, Int.reduceLT, Int.reduceLE, Int.reduceToNat, Nat.reduceLT, Nat.reduceLeDiff, Int.reduceEq, Int.reduceNeg, IntKind.bits, Nat.reduceAdd, Nat.reduceMul, Nat.reducePow, Int.reducePow, ini, fwh, lk, cellsAt, tagOf, spotOf, rdN, spl, fillL, zr, fwi, F_ref08_Tabler0_W, F_ref08_Tabler1_W, F_ref08_Tabler1_g3, F_ref08_Tabler1_g9, F_ref08_Tabler1_g15, F_ref08_Tabler1_g21, F_ref08_Tabler2_W, F_ref08_Tabler3_W, F_ref08_Tabler3_g4, F_ref08_Tabler3_g10, F_ref08_Tabler4_W, F_ref08_Tabler5_W, F_ref08_Tabler6_W, F_ref08_Tabler7_W, F_ref08_Tabler7_g3, F_ref08_Tabler8_W, F_ref08_Tabler9_W, F_ref08_Tabler10_W, F_ref08_Tabler10_g3, F_ref08_Tabler10_g8, F_ref08_Tabler10_g12, F_ref08_Tabler10_g16, F_ref08_Tabler11_W, F_ref08_Tabler12_W, F_ref08_Tabler13_W, F_ref08_Tabler14_W, F_ref08_Tabler16_W, F_ref08_Tabler17_W, F_ref08_Tabler15_W, F_ref08_Tablel0_W, F_ref08_Tabler18_W, F_ref08_Tablec_W, e0, lenI_sl, q', a0, b0, k0, a1, b1, k1, a2, b2, k2, a3, b3, k3]
      exact ⟨trivial, .inl ⟨rfl, rfl, _, rfl⟩⟩
    · simp only [fws, cond_true, cond_false, if_true, if_false, unV, isNil, optI, iV, stepI, evalR, reduceIte, reduceCtorEq, Nat.reduceEqDiff, Int.reduceLT, Int.reduceLE, Int.reduceToNat, Nat.reduceLT, Nat.reduceLeDiff, Int.reduceEq, Int.reduceNeg, IntKind.bits, Nat.reduceAdd, Nat.reduceMul, Nat.reducePow, Int.reducePow, ini, fwh, lk, cellsAt, tagOf, spotOf, rdN, spl, fillL, zr, fwi, F_ref08_Tabler0_W, F_ref08_Tabler1_W, F_ref08_Tabler1_g3, F_ref08_Tabler1_g9, F_ref08_Tabler1_g15, F_ref08_Tabler1_g21, F_ref08_Tabler2_W, F_ref08_Tabler3_W, F_ref08_Tabler3_g4, F_ref08_Tabler3_g10, F_ref08_Tabler4_W, F_ref08_Tabler5_W, F_ref08_Tabler6_W, F_ref08_Tabler7_W, F_ref08_Tabler7_g3, F_ref08_Tabler8_W, F_ref08_Tabler9_W, F_ref08_Tabler10_W, F_ref08_Tabler10_g3, F_ref08_Tabler10_g8, F_ref08_Tabler10_g12, F_ref08_Tabler10_g16, F_ref08_Tabler11_W, F_ref08_Tabler12_W, F_ref08_Tabler13_W, F_ref08_Tabler14_W, F_ref08_Tabler16_W, F_ref08_Tabler17_W, F_ref08_Tabler15_W, F_ref08_Tablel0_W, F_ref08_Tabler18_W, F_ref08_Tablec_W, e0, lenI_sl, q', a0, b0, k0, a1, b1, k1, a2, b2, k2, a3, b3, k3]
      exact ⟨trivial, .inr ⟨trivial, by first | exact trivial | exact e0, by omega⟩⟩
theorem tb3 (e0 : env 0 = slV byteE o) (h64 : 64 ≤ (lst o).length) : W T (.seq (.reg F_ref08_Tabler3) (.cond (.t 51) (.seq (.reg F_ref08_Tabler4) .ret) .skip)) env H fun x e h => h = H ∧ (RT x e ∨ (x = .normal ∧ e 0 = slV byteE o)) := by
  obtain ⟨c0, p0, a0, b0⟩ := byte_at o (i := 4) (z := 4) (by omega) rfl
  obtain ⟨c1, p1, a1, b1⟩ := byte_at o (i := 5) (z := 5) (by omega) rfl
  obtain ⟨c2, p2, a2, b2⟩ := byte_at o (i := 6) (z := 6) (by omega) rfl
  by_cases k0 : c0 = 2
  rotate_left
  · simp only [fws, cond_true, cond_false, if_true, if_false, unV, isNil, optI, iV, stepI, evalR, reduceIte, reduceCtorEq, Nat.reduceEqDiff, Int.reduceLT, Int.reduceLE, Int.reduceToNat, Nat.reduceLT, Nat.reduceLeDiff, Int.reduceEq, Int.reduceNeg, IntKind.bits, Nat.reduceAdd, Nat.reduceMul, Nat.reducePow, Int.reducePow, ini, fwh, lk, cellsAt, tagOf, spotOf, rdN, spl, fillL, zr, fwi, F_ref08_Tabler0_W, F_ref08_Tabler1_W, F_ref08_Tabler1_g3, F_ref08_Tabler1_g9, F_ref08_Tabler1_g15, F_ref08_Tabler1_g21, F_ref08_Tabler2_W, F_ref08_Tabler3_W, F_ref08_Tabler3_g4, F_ref08_Tabler3_g10, F_ref08_Tabler4_W, F_ref08_Tabler5_W, F_ref08_Tabler6_W, F_ref08_Tabler7_W, F_ref08_Tabler7_g3, F_ref08_Tabler8_W, F_ref08_Tabler9_W, F_ref08_Tabler10_W, F_ref08_Tabler10_g3, F_ref08_Tabler10_g8, F_ref08_Tabler10_g12, F_ref08_Tabler10_g16, F_ref08_Tabler11_W, F_ref08_Tabler12_W, F_ref08_Tabler13_W, F_ref08_Tabler14_W, F_ref08_Tabler16_W, F_ref08_Tabler17_W, F_ref08_Tabler15_W, F_ref08_Tablel0_W, F_ref08_Tabler18_W, F_ref08_Tablec_W, e0, lenI_sl, a0, b0, k0]
    exact ⟨trivial, .inl ⟨rfl, rfl, _, rfl⟩⟩
  by_cases k1 : c1 = 1
  rotate_left
  · simp only [fws, cond_true, cond_false, if_true, if_false, unV, isNil, optI, iV, stepI, evalR, reduceIte, reduceCtorEq, Nat.reduceEqDiff, Int.reduceLT, Int.reduceLE, Int.reduceToNat, Nat.reduceLT, Nat.reduceLeDiff, Int.reduceEq, Int.reduceNeg, IntKind.bits, Nat.reduceAdd, Nat.reduceMul, Nat.reducePow, Int.reducePow, ini, fwh, lk, cellsAt, tagOf, spotOf, rdN, spl, fillL, zr, fwi, F_ref08_Tabler0_W, F_ref08_Tabler1_W, F_ref08_Tabler1_g3, F_ref08_Tabler1_g9, F_ref08_Tabler1_g15, F_ref08_Tabler1_g21, F_ref08_Tabler2_W, F_ref08_Tabler3_W, F_ref08_Tabler3_g4, F_ref08_Tabler3_g10, F_ref08_Tabler4_W, F_ref08_Tabler5_W, F_ref08_Tabler6_W, F_ref08_Tabler7_W, F_ref08_Tabler7_g3, F_ref08_Tabler8_W, F_ref08_Tabler9_W, F_ref08_Tabler10_W, F_ref08_Tabler10_g3, F_ref08_Tabler10_g8, F_ref08_Tabler10_g12, F_ref08_Tabler10_g16, F_ref08_Tabler11_W, F_ref08_Tabler12_W, F_ref08_Tabler13_W, F_ref08_Tabler14_W, F_ref08_Tabler16_W, F_ref08_Tabler17_W, F_ref08_Tabler15_W, F_ref08_Tablel0_W, F_ref08_Tabler18_W, F_ref08_Tablec_W, e0, lenI_sl, a0, b0, k0, a1, b1, k1]
    exact ⟨trivial, .inl ⟨rfl, rfl, _, rfl⟩⟩
  by_cases k2 : c2 = 1
  rotate_left
  · simp only [fws, cond_true, cond_false, if_true, if_false, unV, isNil, optI, iV, stepI, evalR, reduceIte, reduceCtorEq, Nat.reduceEqDiff, Int.reduceLT, Int.reduceLE, Int.reduceToNat, Nat.reduceLT, Nat.reduceLeDiff, Int.reduceEq, Int.reduceNeg, IntKind.bits, Nat.reduceAdd, Nat.reduceMul, Nat.reducePow, Int.reducePow, ini, fwh, lk, cellsAt, tagOf, spotOf, rdN, spl, fillL, zr, fwi, F_ref08_Tabler0_W, F_ref08_Tabler1_W, F_ref08_Tabler1_g3, F_ref08_Tabler1_g9, F_ref08_Tabler1_g15, F_ref08_Tabler1_g21, F_ref08_Tabler2_W, F_ref08_Tabler3_W, F_ref08_Tabler3_g4, F_ref08_Tabler3_g10, F_ref08_Tabler4_W, F_ref08_Tabler5_W, F_ref08_Tabler6_W, F_ref08_Tabler7_W, F_ref08_Tabler7_g3, F_ref08_Tabler8_W, F_ref08_Tabler9_W, F_ref08_Tabler10_W, F_ref08_Tabler10_g3, F_ref08_Tabler10_g8, F_ref08_Tabler10_g12, F_ref08_Tabler10_g16, F_ref08_Tabler11_W, F_ref08_Tabler12_W, F_ref08_Tabler13_W, F_ref08_Tabler14_W, F_ref08_Tabler16_W, F_ref08_Tabler17_W, F_ref08_Tabler15_W, F_ref08_Tablel0_W, F_ref08_Tabler18_W, F_ref08_Tablec_W, e0, lenI_sl, a0, b0, k0, a1, b1, k1, a2, b2, k2]
    exact ⟨trivial, .inl ⟨rfl, rfl, _, rfl⟩⟩
  · simp only [fws, cond_true, cond_false, if_true, if_false, unV, isNil, optI, iV, stepI, evalR, reduceIte, reduceCtorEq, Nat.reduceEqDiff, Int.reduceLT, Int.reduceLE, Int.reduceToNat, Nat.reduceLT, Nat.reduceLeDiff, Int.reduceEq, Int.reduceNeg, IntKind.bits, Nat.reduceAdd, Nat.reduceMul, Nat.reducePow, Int.reducePow, ini, fwh, lk, cellsAt, tagOf, spotOf, rdN, spl, fillL, zr, fwi, F_ref08_Tabler0_W, F_ref08_Tabler1_W, F_ref08_Tabler1_g3, F_ref08_Tabler1_g9, F_ref08_Tabler1_g15, F_ref08_Tabler1_g21, F_ref08_Tabler2_W, F_ref08_Tabler3_W, F_ref08_Tabler3_g4, F_ref08_Tabler3_g10, F_ref08_Tabler4_W, F_ref08_Tabler5_W, F_ref08_Tabler6_W, F_ref08_Tabler7_W, F_ref08_Tabler7_g3, F_ref08_Tabler8_W, F_ref08_Tabler9_W, F_ref08_Tabler10_W, F_ref08_Tabler10_g3, F_ref08_Tabler10_g8, F_ref08_Tabler10_g12, F_ref08_Tabler10_g16, F_ref08_Tabler11_W, F_ref08_Tabler12_W, F_ref08_Tabler13_W, F_ref08_Tabler14_W, F_ref08_Tabler16_W, F_ref08_Tabler17_W, F_ref08_Tabler15_W, F_ref08_Tablel0_W, F_ref08_Tabler18_W, F_ref08_Tablec_W, e0, lenI_sl, a0, b0, k0, a1, b1, k1, a2, b2, k2]
    exact ⟨trivial, .inr ⟨trivial, trivial⟩⟩
include h0 h1 hl
theorem tb5 (e0 : env 0 = slV byteE o) : W T (.seq (.reg F_ref08_Tabler5) (.cond (.t 54) (.seq (.reg F_ref08_Tabler6) .ret) .skip)) env H fun x e h => h = H ∧ (RT x e ∨ (x = .normal ∧ e 0 = slV byteE o)) := by
  obtain ⟨n, hn, c1⟩ := f_ref08_Nx h0 h1 o hl (a := 16) (by decide) 2 (by decide)
  have c1 : FnV T 47 [slV byteE o, .int .u64 16, .int .i64 2] (.int .u64 n) := c1
  by_cases q : n = 3
  · simp only [fws, cond_true, cond_false, if_true, if_false, unV, isNil, optI, iV, stepI, evalR, reduceIte, reduceCtorEq, Nat.reduceEqDiff, Int.reduceLT, Int.reduceLE, Int.reduceToNat, Nat.reduceLT, Nat.reduceLeDiff, Int.reduceEq, Int.reduceNeg, IntKind.bits, Nat.reduceAdd, Nat.reduceMul, Nat.reducePow, Int.reducePow, ini, fwh, lk, cellsAt, tagOf, spotOf, rdN, spl, fillL, zr, fwi, F_ref08_Tabler0_W, F_ref08_Tabler1_W, F_ref08_Tabler1_g3, F_ref08_Tabler1_g9, F_ref08_Tabler1_g15, F_ref08_Tabler1_g21, F_ref08_Tabler2_W, F_ref08_Tabler3_W, F_ref08_Tabler3_g4, F_ref08_Tabler3_g10, F_ref08_Tabler4_W, F_ref08_Tabler5_W, F_ref08_Tabler6_W, F_ref08_Tabler7_W, F_ref08_Tabler7_g3, F_ref08_Tabler8_W, F_ref08_Tabler9_W, F_ref08_Tabler10_W, F_ref08_Tabler10_g3, F_ref08_Tabler10_g8, F_ref08_Tabler10_g12, F_ref08_Tabler10_g16, F_ref08_Tabler11_W, F_ref08_Tabler12_W, F_ref08_Tabler13_W, F_ref08_Tabler14_W, F_ref08_Tabler16_W, F_ref08_Tabler17_W, F_ref08_Tabler15_W, F_ref08_Tablel0_W, F_ref08_Tabler18_W, F_ref08_Tablec_W, e0, CC_of c1, q]
    exact ⟨trivial, .inr ⟨trivial, trivial⟩⟩
  · simp only [fws, cond_true, cond_false, if_true, if_false, unV, isNil, optI, iV, stepI, evalR, reduceIte, reduceCtorEq, Nat.reduceEqDiff, Int.reduceLT, Int.reduceLE, Int.reduceToNat, Nat.reduceLT, Nat.reduceLeDiff, Int.reduceEq, Int.reduceNeg, IntKind.bits, Nat.reduceAdd, Nat.reduceMul, Nat.reducePow, Int.reducePow, ini, fwh, lk, cellsAt, tagOf, spotOf, rdN, spl, fillL, zr, fwi, F_ref08_Tabler0_W, F_ref08_Tabler1_W, F_ref08_Tabler1_g3, F_ref08_Tabler1_g9, F_ref08_Tabler1_g15, F_ref08_Tabler1_g21, F_ref08_Tabler2_W, F_ref08_Tabler3_W, F_ref08_Tabler3_g4, F_ref08_Tabler3_g10, F_ref08_Tabler4_W, F_ref08_Tabler5_W, F_ref08_Tabler6_W, F_ref08_Tabler7_W, F_ref08_Tabler7_g3, F_ref08_Tabler8_W, F_ref08_Tabler9_W, F_ref08_Tabler10_W, F_ref08_Tabler10_g3, F_ref08_Tabler10_g8, F_ref08_Tabler10_g12, F_ref08_Tabler10_g16, F_ref08_Tabler11_W, F_ref08_Tabler12_W, F_ref08_Tabler13_W, F_ref08_Tabler14_W, F_ref08_Tabler16_W, F_ref08_Tabler17_W, F_ref08_Tabler15_W, F_ref08_Tablel0_W, F_ref08_Tabler18_W, F_ref08_Tablec_W, e0, CC_of c1, q]
    exact ⟨trivial, .inl ⟨rfl, rfl, _, rfl⟩⟩
theorem tb7 (e0 : env 0 = slV byteE o) : W T (.seq (.reg F_ref08_Tabler7) (.cond (.t 62) (.seq (.reg F_ref08_Tabler8) .ret) .skip)) env H fun x e h => h = H ∧ (RT x e ∨ (x = .normal ∧ e 0 = slV byteE o)) := by
  obtain ⟨n, hn, c1⟩ := f_ref08_Nx h0 h1 o hl (a := 18) (by decide) 2 (by decide)
  have c1 : FnV T 47 [slV byteE o, .int .u64 18, .int .i64 2] (.int .u64 n) := c1
  by_cases q : n = 62
  · simp only [fws, cond_true, cond_false, if_true, if_false, unV, isNil, optI, iV, stepI, evalR, reduceIte, reduceCtorEq, Nat.reduceEqDiff, Int.reduceLT, Int.reduceLE, Int.reduceToNat, Nat.reduceLT, Nat.reduceLeDiff, Int.reduceEq, Int.reduceNeg, IntKind.bits, Nat.reduceAdd, Nat.reduceMul, Nat.reducePow, Int.reducePow, ini, fwh, lk, cellsAt, tagOf, spotOf, rdN, spl, fillL, zr, fwi, F_ref08_Tabler0_W, F_ref08_Tabler1_W, F_ref08_Tabler1_g3, F_ref08_Tabler1_g9, F_ref08_Tabler1_g15, F_ref08_Tabler1_g21, F_ref08_Tabler2_W, F_ref08_Tabler3_W, F_ref08_Tabler3_g4, F_ref08_Tabler3_g10, F_ref08_Tabler4_W, F_ref08_Tabler5_W, F_ref08_Tabler6_W, F_ref08_Tabler7_W, F_ref08_Tabler7_g3, F_ref08_Tabler8_W, F_ref08_Tabler9_W, F_ref08_Tabler10_W, F_ref08_Tabler10_g3, F_ref08_Tabler10_g8, F_ref08_Tabler10_g12, F_ref08_Tabler10_g16, F_ref08_Tabler11_W, F_ref08_Tabler12_W, F_ref08_Tabler13_W, F_ref08_Tabler14_W, F_ref08_Tabler16_W, F_ref08_Tabler17_W, F_ref08_Tabler15_W, F_ref08_Tablel0_W, F_ref08_Tabler18_W, F_ref08_Tablec_W, e0, CC_of c1, q]
    exact ⟨trivial, .inr ⟨trivial, trivial⟩⟩
  · by_cases q2 : n = 183
    · simp only [fws, cond_true, cond_false, if_true, if_false, unV, isNil, optI, iV, stepI, evalR, reduceIte, reduceCtorEq, Nat.reduceEqDiff, Int.reduceLT, Int.reduceLE, Int.reduceToNat, Nat.reduceLT, Nat.reduceLeDiff, Int.reduceEq, Int.reduceNeg, IntKind.bits, Nat.reduceAdd, Nat.reduceMul, Nat.reducePow, Int.reducePow, ini, fwh, lk, cellsAt, tagOf, spotOf, rdN, spl, fillL, zr, fwi, F_ref08_Tabler0_W, F_ref08_Tabler1_W, F_ref08_Tabler1_g3, F_ref08_Tabler1_g9, F_ref08_Tabler1_g15, F_ref08_Tabler1_g21, F_ref08_Tabler2_W, F_ref08_Tabler3_W, F_ref08_Tabler3_g4, F_ref08_Tabler3_g10, F_ref08_Tabler4_W, F_ref08_Tabler5_W, F_ref08_Tabler6_W, F_ref08_Tabler7_W, F_ref08_Tabler7_g3, F_ref08_Tabler8_W, F_ref08_Tabler9_W, F_ref08_Tabler10_W, F_ref08_Tabler10_g3, F_ref08_Tabler10_g8, F_ref08_Tabler10_g12, F_ref08_Tabler10_g16, F_ref08_Tabler11_W, F_ref08_Tabler12_W, F_ref08_Tabler13_W, F_ref08_Tabler14_W, F_ref08_Tabler16_W, F_ref08_Tabler17_W, F_ref08_Tabler15_W, F_ref08_Tablel0_W, F_ref08_Tabler18_W, F_ref08_Tablec_W, e0, CC_of c1, q, q2]
      exact ⟨trivial, .inr ⟨trivial, trivial⟩⟩
    · simp only [fws, cond_true, cond_false, if_true, if_false, unV, isNil, optI, iV, stepI, evalR, reduceIte, reduceCtorEq, Nat.reduceEqDiff, Int.reduceLT, Int.reduceLE, Int.reduceToNat, Nat.reduceLT, Nat.reduceLeDiff, Int.reduceEq, Int.reduceNeg, IntKind.bits, Nat.reduceAdd, Nat.reduceMul, Nat.reducePow, Int.reducePow, ini, fwh, lk, cellsAt, tagOf, spotOf, rdN, spl, fillL, zr, fwi, F_ref08_Tabler0_W, F_ref08_Tabler1_W, F_ref08_Tabler1_g3, F_ref08_Tabler1_g9, F_ref08_Tabler1_g15, F_ref08_Tabler1_g21, F_ref08_Tabler2_W, F_ref08_Tabler3_W, F_ref08_Tabler3_g4, F_ref08_Tabler3_g10, F_ref08_Tabler4_W, F_ref08_Tabler5_W, F_ref08_Tabler6_W, F_ref08_Tabler7_W, F_ref08_Tabler7_g3, F_ref08_Tabler8_W, F_ref08_Tabler9_W, F_ref08_Tabler10_W, F_ref08_Tabler10_g3, F_ref08_Tabler10_g8, F_ref08_Tabler10_g12, F_ref08_Tabler10_g16, F_ref08_Tabler11_W, F_ref08_Tabler12_W, F_ref08_Tabler13_W, F_ref08_Tabler14_W, F_ref08_Tabler16_W, F_ref08_Tabler17_W, F_ref08_Tabler15_W, F_ref08_Tablel0_W, F_ref08_Tabler18_W, F_ref08_Tablec_W, e0, CC_of c1, q, q2]
      exact ⟨trivial, .inl ⟨rfl, rfl, _, rfl⟩⟩
theorem tb9 (e0 : env 0 = slV byteE o) : W T (.reg F_ref08_Tabler9) env H fun x e h => h = H ∧ x = .normal ∧ e 0 = slV byteE o ∧ ∃ n m : Int, isU64 n ∧ isU64 m ∧ e 4 = .int .u64 n ∧ e 5 = .int .u64 m := by
  obtain ⟨n, hn, c1⟩ := f_ref08_Nx h0 h1 o hl (a := 32) (by decide) 8 (by decide)
  have c1 : FnV T 47 [slV byteE o, .int .u64 32, .int .i64 8] (.int .u64 n) := c1
  obtain ⟨m, hm, c2⟩ := f_ref08_Nx h0 h1 o hl (a := 56) (by decide) 2 (by decide)
  have c2 : FnV T 47 [slV byteE o, .int .u64 56, .int .i64 2] (.int .u64 m) := c2
  simp only [fws, cond_true, cond_false, if_true, if_false, unV, isNil, optI, iV, stepI, evalR, reduceIte, reduceCtorEq, Nat.reduceEqDiff, Int.reduceLT, Int.reduceLE, Int.reduceToNat, Nat.reduceLT, Nat.reduceLeDiff, Int.reduceEq, Int.reduceNeg, IntKind.bits, Nat.reduceAdd, Nat.reduceMul, Nat.reducePow, Int.reducePow, ini, fwh, lk, cellsAt, tagOf, spotOf, rdN, spl, fillL, zr, fwi, F_ref08_Tabler0_W, F_ref08_Tabler1_W, F_ref08_Tabler1_g3, F_ref08_Tabler1_g9, F_ref08_Tabler1_g15, F_ref08_Tabler1_g21, F_ref08_Tabler2_W, F_ref08_Tabler3_W, F_ref08_Tabler3_g4, F_ref08_Tabler3_g10, F_ref08_Tabler4_W, F_ref08_Tabler5_W, F_ref08_Tabler6_W, F_ref08_Tabler7_W, F_ref08_Tabler7_g3, F_ref08_Tabler8_W, F_ref08_Tabler9_W, F_ref08_Tabler10_W, F_ref08_Tabler10_g3, F_ref08_Tabler10_g8, F_ref08_Tabler10_g12, F_ref08_Tabler10_g16, F_ref08_Tabler11_W, F_ref08_Tabler12_W, F_ref08_Tabler13_W, F_ref08_Tabler14_W, F_ref08_Tabler16_W, F_ref08_Tabler17_W, F_ref08_Tabler15_W, F_ref08_Tablel0_W, F_ref08_Tabler18_W, F_ref08_Tablec_W, e0, CC_of c1, CC_of c2]
  exact ⟨trivial, trivial, trivial, n, m, hn, hm, rfl, rfl⟩
include h2 h3 h4
theorem tb10 (e0 : env 0 = slV byteE o) {n m : Int} (hn : isU64 n) (hm : isU64 m) (e4 : env 4 = .int .u64 n) (e5 : env 5 = .int .u64 m) :
    W T (.seq (.reg F_ref08_Tabler10) (.cond (.t 92) (.seq (.reg F_ref08_Tabler11) .ret) .skip)) env H fun x e h => h = H ∧ (RT x e ∨ (x = .normal ∧ e 0 = slV byteE o ∧ e 4 = .int .u64 n ∧ e 5 = .int .u64 m ∧ m ≤ 16)) := by
  obtain ⟨k, hk, c1⟩ := f_ref08_Nx h0 h1 o hl (a := 52) (by decide) 2 (by decide)
  have c1 : FnV T 47 [slV byteE o, .int .u64 52, .int .i64 2] (.int .u64 k) := c1
  obtain ⟨j, hj, c2⟩ := f_ref08_Nx h0 h1 o hl (a := 54) (by decide) 2 (by decide)
  have c2 : FnV T 47 [slV byteE o, .int .u64 54, .int .i64 2] (.int .u64 j) := c2
  have wl : IntKind.u64.wrap ((lst o).length : Int) = (lst o).length := by rw [wrap_u64]; omega
  have wm : isU64 (IntKind.u64.wrap (m * 56)) := by rw [wrap_u64]; unfold isU64; omega
  have c3 := f_ref01_Inside (T := T) h2 h3 h4 hn wm (show isU64 0 by decide) (show isU64 ((lst o).length : Int) by unfold isU64; omega)
  by_cases q1 : k = 64
  rotate_left
  · simp only [fws, cond_true, cond_false, if_true, if_false, unV, isNil, optI, iV, stepI, evalR, reduceIte, reduceCtorEq, Nat.reduceEqDiff, Int.reduceLT, Int.reduceLE, Int.reduceToNat, Nat.reduceLT, Nat.reduceLeDiff, Int.reduceEq, Int.reduceNeg, IntKind.bits, Nat.reduceAdd, Nat.reduceMul, Nat.reducePow, Int.reducePow, ini, fwh, lk, cellsAt, tagOf, spotOf, rdN, spl, fillL, zr, fwi, F_ref08_Tabler0_W, F_ref08_Tabler1_W, F_ref08_Tabler1_g3, F_ref08_Tabler1_g9, F_ref08_Tabler1_g15, F_ref08_Tabler1_g21, F_ref08_Tabler2_W, F_ref08_Tabler3_W, F_ref08_Tabler3_g4, F_ref08_Tabler3_g10, F_ref08_Tabler4_W, F_ref08_Tabler5_W, F_ref08_Tabler6_W, F_ref08_Tabler7_W, F_ref08_Tabler7_g3, F_ref08_Tabler8_W, F_ref08_Tabler9_W, F_ref08_Tabler10_W, F_ref08_Tabler10_g3, F_ref08_Tabler10_g8, F_ref08_Tabler10_g12, F_ref08_Tabler10_g16, F_ref08_Tabler11_W, F_ref08_Tabler12_W, F_ref08_Tabler13_W, F_ref08_Tabler14_W, F_ref08_Tabler16_W, F_ref08_Tabler17_W, F_ref08_Tabler15_W, F_ref08_Tablel0_W, F_ref08_Tabler18_W, F_ref08_Tablec_W, e0, e4, e5, CC_of c1, q1]
    exact ⟨trivial, .inl ⟨rfl, rfl, _, rfl⟩⟩
  by_cases q2 : j = 56
  rotate_left
  · simp only [fws, cond_true, cond_false, if_true, if_false, unV, isNil, optI, iV, stepI, evalR, reduceIte, reduceCtorEq, Nat.reduceEqDiff, Int.reduceLT, Int.reduceLE, Int.reduceToNat, Nat.reduceLT, Nat.reduceLeDiff, Int.reduceEq, Int.reduceNeg, IntKind.bits, Nat.reduceAdd, Nat.reduceMul, Nat.reducePow, Int.reducePow, ini, fwh, lk, cellsAt, tagOf, spotOf, rdN, spl, fillL, zr, fwi, F_ref08_Tabler0_W, F_ref08_Tabler1_W, F_ref08_Tabler1_g3, F_ref08_Tabler1_g9, F_ref08_Tabler1_g15, F_ref08_Tabler1_g21, F_ref08_Tabler2_W, F_ref08_Tabler3_W, F_ref08_Tabler3_g4, F_ref08_Tabler3_g10, F_ref08_Tabler4_W, F_ref08_Tabler5_W, F_ref08_Tabler6_W, F_ref08_Tabler7_W, F_ref08_Tabler7_g3, F_ref08_Tabler8_W, F_ref08_Tabler9_W, F_ref08_Tabler10_W, F_ref08_Tabler10_g3, F_ref08_Tabler10_g8, F_ref08_Tabler10_g12, F_ref08_Tabler10_g16, F_ref08_Tabler11_W, F_ref08_Tabler12_W, F_ref08_Tabler13_W, F_ref08_Tabler14_W, F_ref08_Tabler16_W, F_ref08_Tabler17_W, F_ref08_Tabler15_W, F_ref08_Tablel0_W, F_ref08_Tabler18_W, F_ref08_Tablec_W, e0, e4, e5, CC_of c1, q1, CC_of c2, q2]
    exact ⟨trivial, .inl ⟨rfl, rfl, _, rfl⟩⟩
  by_cases q3 : m < 1
  · simp only [fws, cond_true, cond_false, if_true, if_false, unV, isNil, optI, iV, stepI, evalR, reduceIte, reduceCtorEq, Nat.reduceEqDiff, Int.reduceLT, Int.reduceLE, Int.reduceToNat, Nat.reduceLT, Nat.reduceLeDiff, Int.reduceEq, Int.reduceNeg, IntKind.bits, Nat.reduceAdd, Nat.reduceMul, Nat.reducePow, Int.reducePow, ini, fwh, lk, cellsAt, tagOf, spotOf, rdN, spl, fillL, zr, fwi, F_ref08_Tabler0_W, F_ref08_Tabler1_W, F_ref08_Tabler1_g3, F_ref08_Tabler1_g9, F_ref08_Tabler1_g15, F_ref08_Tabler1_g21, F_ref08_Tabler2_W, F_ref08_Tabler3_W, F_ref08_Tabler3_g4, F_ref08_Tabler3_g10, F_ref08_Tabler4_W, F_ref08_Tabler5_W, F_ref08_Tabler6_W, F_ref08_Tabler7_W, F_ref08_Tabler7_g3, F_ref08_Tabler8_W, F_ref08_Tabler9_W, F_ref08_Tabler10_W, F_ref08_Tabler10_g3, F_ref08_Tabler10_g8, F_ref08_Tabler10_g12, F_ref08_Tabler10_g16, F_ref08_Tabler11_W, F_ref08_Tabler12_W, F_ref08_Tabler13_W, F_ref08_Tabler14_W, F_ref08_Tabler16_W, F_ref08_Tabler17_W, F_ref08_Tabler15_W, F_ref08_Tablel0_W, F_ref08_Tabler18_W, F_ref08_Tablec_W, e0, e4, e5, CC_of c1, q1, CC_of c2, q2, q3]
    exact ⟨trivial, .inl ⟨rfl, rfl, _, rfl⟩⟩
  by_cases q4 : 16 < m
  · simp only [fws, cond_true, cond_false, if_true, if_false, unV, isNil, optI, iV, stepI, evalR, reduceIte, reduceCtorEq, Nat.reduceEqDiff, Int.reduceLT, Int.reduceLE, Int.reduceToNat, Nat.reduceLT, Nat.reduceLeDiff, Int.reduceEq, Int.reduceNeg, IntKind.bits, Nat.reduceAdd, Nat.reduceMul, Nat.reducePow, Int.reducePow, ini, fwh, lk, cellsAt, tagOf, spotOf, rdN, spl, fillL, zr, fwi, F_ref08_Tabler0_W, F_ref08_Tabler1_W, F_ref08_Tabler1_g3, F_ref08_Tabler1_g9, F_ref08_Tabler1_g15, F_ref08_Tabler1_g21, F_ref08_Tabler2_W, F_ref08_Tabler3_W, F_ref08_Tabler3_g4, F_ref08_Tabler3_g10, F_ref08_Tabler4_W, F_ref08_Tabler5_W, F_ref08_Tabler6_W, F_ref08_Tabler7_W, F_ref08_Tabler7_g3, F_ref08_Tabler8_W, F_ref08_Tabler9_W, F_ref08_Tabler10_W, F_ref08_Tabler10_g3, F_ref08_Tabler10_g8, F_ref08_Tabler10_g12, F_ref08_Tabler10_g16, F_ref08_Tabler11_W, F_ref08_Tabler12_W, F_ref08_Tabler13_W, F_ref08_Tabler14_W, F_ref08_Tabler16_W, F_ref08_Tabler17_W, F_ref08_Tabler15_W, F_ref08_Tablel0_W, F_ref08_Tabler18_W, F_ref08_Tablec_W, e0, e4, e5, CC_of c1, q1, CC_of c2, q2, q3, q4]
    exact ⟨trivial, .inl ⟨rfl, rfl, _, rfl⟩⟩
  cases q5 : insI n (IntKind.u64.wrap (m * 56)) 0 (lst o).length with
  | false =>
    rw [q5] at c3
    simp only [fws, cond_true, cond_false, if_true, if_false, unV, isNil, optI, iV, stepI, evalR, reduceIte, reduceCtorEq, Nat.reduceEqDiff, Int.reduceLT, Int.reduceLE, Int.reduceToNat, Nat.reduceLT, Nat.reduceLeDiff, Int.reduceEq, Int.reduceNeg, IntKind.bits, Nat.reduceAdd, Nat.reduceMul, Nat.reducePow, Int.reducePow, ini, fwh, lk, cellsAt, tagOf, spotOf, rdN, spl, fillL, zr, fwi, F_ref08_Tabler0_W, F_ref08_Tabler1_W, F_ref08_Tabler1_g3, F_ref08_Tabler1_g9, F_ref08_Tabler1_g15, F_ref08_Tabler1_g21, F_ref08_Tabler2_W, F_ref08_Tabler3_W, F_ref08_Tabler3_g4, F_ref08_Tabler3_g10, F_ref08_Tabler4_W, F_ref08_Tabler5_W, F_ref08_Tabler6_W, F_ref08_Tabler7_W, F_ref08_Tabler7_g3, F_ref08_Tabler8_W, F_ref08_Tabler9_W, F_ref08_Tabler10_W, F_ref08_Tabler10_g3, F_ref08_Tabler10_g8, F_ref08_Tabler10_g12, F_ref08_Tabler10_g16, F_ref08_Tabler11_W, F_ref08_Tabler12_W, F_ref08_Tabler13_W, F_ref08_Tabler14_W, F_ref08_Tabler16_W, F_ref08_Tabler17_W, F_ref08_Tabler15_W, F_ref08_Tablel0_W, F_ref08_Tabler18_W, F_ref08_Tablec_W, e0, e4, e5, CC_of c1, q1, CC_of c2, q2, q3, q4, lenI_sl, wl, CC_of c3]
    exact ⟨trivial, .inl ⟨rfl, rfl, _, rfl⟩⟩
  | true =>
    rw [q5] at c3
    simp only [fws, cond_true, cond_false, if_true, if_false, unV, isNil, optI, iV, stepI, evalR, reduceIte, reduceCtorEq, Nat.reduceEqDiff, Int.reduceLT, Int.reduceLE, Int.reduceToNat, Nat.reduceLT, Nat.reduceLeDiff, Int.reduceEq, Int.reduceNeg, IntKind.bits, Nat.reduceAdd, Nat.reduceMul, Nat.reducePow, Int.reducePow, ini, fwh, lk, cellsAt, tagOf, spotOf, rdN, spl, fillL, zr, fwi, F_ref08_Tabler0_W, F_ref08_Tabler1_W, F_ref08_Tabler1_g3, F_ref08_Tabler1_g9, F_ref08_Tabler1_g15, F_ref08_Tabler1_g21, F_ref08_Tabler2_W, F_ref08_Tabler3_W, F_ref08_Tabler3_g4, F_ref08_Tabler3_g10, F_ref08_Tabler4_W, F_ref08_Tabler5_W, F_ref08_Tabler6_W, F_ref08_Tabler7_W, F_ref08_Tabler7_g3, F_ref08_Tabler8_W, F_ref08_Tabler9_W, F_ref08_Tabler10_W, F_ref08_Tabler10_g3, F_ref08_Tabler10_g8, F_ref08_Tabler10_g12, F_ref08_Tabler10_g16, F_ref08_Tabler11_W, F_ref08_Tabler12_W, F_ref08_Tabler13_W, F_ref08_Tabler14_W, F_ref08_Tabler16_W, F_ref08_Tabler17_W, F_ref08_Tabler15_W, F_ref08_Tablel0_W, F_ref08_Tabler18_W, F_ref08_Tablec_W, e0, e4, e5, CC_of c1, q1, CC_of c2, q2, q3, q4, lenI_sl, wl, CC_of c3]
    exact ⟨trivial, .inr ⟨trivial, trivial, trivial, trivial, by omega⟩⟩
end
end Go.Proofs.Ytdkdifjjpbfohaa
/- The document's headers: the table, whole. -/
namespace Go.Proofs.Ytdkdifjjpbfohaa
open Go Fw
set_option linter.unusedSimpArgs false
set_option linter.unusedVariables false
set_option linter.unusedSectionVars false

def okP (l : List S_api_Phdr) : Prop := ∀ p ∈ l, p.wf
theorem u32_wf (n : Int) : (Lit.int .u32 (IntKind.u32.wrap n)).wf = true := by
  simp [Lit.wf, IntKind.min, IntKind.max, IntKind.bits, IntKind.signed, wrap_u32]
  omega
section
variable {T : Tab} (h0 : T 62 = some F_ref02_Get) (h1 : T 47 = some F_ref08_N)
variable (o : Option (List UInt8)) (hl : (lst o).length ≤ 100000000)
include h0 h1 hl
theorem loop_ref08_Table {n : Int} (hn : isU64 n) {m : Int} (hm : m ≤ 16) : ∀ (k i : Nat) (H : Heap) (env : Env) (v : Value) (l : List S_api_Phdr), (i + k : Int) = max m i → i ≤ 16 → l.length = i → okP l → Own PhE H v l → env 0 = slV byteE o → env 4 = .int .u64 n → env 5 = .int .u64 m → env 6 = v → env 7 = .int .u64 i →
    W T (.loop F_ref08_Tablel0) env H fun x e h => x = .exit 0 ∧ ∃ v l, e 6 = v ∧ l.length ≤ 16 ∧ okP l ∧ Own PhE h v l := by
  intro k
  induction k with
  | zero =>
    intro i H env v l hi hi16 hli hok hown e0 e4 e5 e6 e7
    have q : ¬ ((i : Int) < m) := by omega
    rw [w_loop]
    simp only [fws, cond_true, cond_false, if_true, if_false, unV, isNil, optI, iV, stepI, evalR, reduceIte, reduceCtorEq, Nat.reduceEqDiff, Int.reduceLT, Int.reduceLE, Int.reduceToNat, Nat.reduceLT, Nat.reduceLeDiff, Int.reduceEq, Int.reduceNeg, IntKind.bits, Nat.reduceAdd, Nat.reduceMul, Nat.reducePow, Int.reducePow, ini, fwh, lk, cellsAt, tagOf, spotOf, rdN, spl, fillL, zr, fwi, F_ref08_Tabler0_W, F_ref08_Tabler1_W, F_ref08_Tabler1_g3, F_ref08_Tabler1_g9, F_ref08_Tabler1_g15, F_ref08_Tabler1_g21, F_ref08_Tabler2_W, F_ref08_Tabler3_W, F_ref08_Tabler3_g4, F_ref08_Tabler3_g10, F_ref08_Tabler4_W, F_ref08_Tabler5_W, F_ref08_Tabler6_W, F_ref08_Tabler7_W, F_ref08_Tabler7_g3, F_ref08_Tabler8_W, F_ref08_Tabler9_W, F_ref08_Tabler10_W, F_ref08_Tabler10_g3, F_ref08_Tabler10_g8, F_ref08_Tabler10_g12, F_ref08_Tabler10_g16, F_ref08_Tabler11_W, F_ref08_Tabler12_W, F_ref08_Tabler13_W, F_ref08_Tabler14_W, F_ref08_Tabler16_W, F_ref08_Tabler17_W, F_ref08_Tabler15_W, F_ref08_Tablel0_W, F_ref08_Tabler18_W, F_ref08_Tablec_W, e4, e5, e6, e7, q]
    exact ⟨trivial, v, l, rfl, by omega, hok, hown⟩
  | succ k ih =>
    intro i H env v l hi hi16 hli hok hown e0 e4 e5 e6 e7
    have q : ((i : Int) < m) := by omega
    have u : ∀ x, isU64 (IntKind.u64.wrap x) := fun x => by rw [wrap_u64]; unfold isU64; omega
    have w1 : IntKind.u64.wrap ((i : Int) + 1) = ((i + 1 : Nat) : Int) := by rw [wrap_u64]; omega
    rw [w_loop]
    obtain ⟨P, hP⟩ : ∃ P, P = IntKind.u64.wrap (n + IntKind.u64.wrap ((i : Int) * 56)) := ⟨_, rfl⟩
    obtain ⟨n1, u1, c1⟩ := f_ref08_Nx h0 h1 o hl (a := P) (by rw [hP]; exact u _) 4 (by decide)
    obtain ⟨n2, u2, c2⟩ := f_ref08_Nx h0 h1 o hl (u (P + 4)) 4 (by decide)
    obtain ⟨n3, u3, c3⟩ := f_ref08_Nx h0 h1 o hl (u (P + 8)) 8 (by decide)
    obtain ⟨n4, u4, c4⟩ := f_ref08_Nx h0 h1 o hl (u (P + 16)) 8 (by decide)
    obtain ⟨n5, u5, c5⟩ := f_ref08_Nx h0 h1 o hl (u (P + 32)) 8 (by decide)
    obtain ⟨n6, u6, c6⟩ := f_ref08_Nx h0 h1 o hl (u (P + 40)) 8 (by decide)
    obtain ⟨n7, u7, c7⟩ := f_ref08_Nx h0 h1 o hl (u (P + 48)) 8 (by decide)
    have c1 : FnV T 47 [slV byteE o, .int .u64 P, .int .i64 4] (.int .u64 n1) := c1
    have c2 : FnV T 47 [slV byteE o, .int .u64 (IntKind.u64.wrap (P + 4)), .int .i64 4] (.int .u64 n2) := c2
    have c3 : FnV T 47 [slV byteE o, .int .u64 (IntKind.u64.wrap (P + 8)), .int .i64 8] (.int .u64 n3) := c3
    have c4 : FnV T 47 [slV byteE o, .int .u64 (IntKind.u64.wrap (P + 16)), .int .i64 8] (.int .u64 n4) := c4
    have c5 : FnV T 47 [slV byteE o, .int .u64 (IntKind.u64.wrap (P + 32)), .int .i64 8] (.int .u64 n5) := c5
    have c6 : FnV T 47 [slV byteE o, .int .u64 (IntKind.u64.wrap (P + 40)), .int .i64 8] (.int .u64 n6) := c6
    have c7 : FnV T 47 [slV byteE o, .int .u64 (IntKind.u64.wrap (P + 48)), .int .i64 8] (.int .u64 n7) := c7
    obtain ⟨v', H', a1, a2, a3⟩ := hown.app (m := [⟨IntKind.u32.wrap n1, IntKind.u32.wrap n2, n3, n4, n5, n6, n7⟩]) (n := 7) (eb := 48) (k := 1) rfl rfl (by simp; omega)
    have a1 : appV 7 48 H v [.int .u32 (IntKind.u32.wrap n1), .int .u32 (IntKind.u32.wrap n2), .int .u64 n3, .int .u64 n4, .int .u64 n5, .int .u64 n6, .int .u64 n7] 1 = some (v', H') := a1
    simp only [fws, cond_true, cond_false, if_true, if_false, unV, isNil, optI, iV, stepI, evalR, reduceIte, reduceCtorEq, Nat.reduceEqDiff, Int.reduceLT, Int.reduceLE, Int.reduceToNat, Nat.reduceLT, Nat.reduceLeDiff, Int.reduceEq, Int.reduceNeg, IntKind.bits, Nat.reduceAdd, Nat.reduceMul, Nat.reducePow, Int.reducePow, ini, fwh, lk, cellsAt, tagOf, spotOf, rdN, spl, fillL, zr, fwi, F_ref08_Tabler0_W, F_ref08_Tabler1_W, F_ref08_Tabler1_g3, F_ref08_Tabler1_g9, F_ref08_Tabler1_g15, F_ref08_Tabler1_g21, F_ref08_Tabler2_W, F_ref08_Tabler3_W, F_ref08_Tabler3_g4, F_ref08_Tabler3_g10, F_ref08_Tabler4_W, F_ref08_Tabler5_W, F_ref08_Tabler6_W, F_ref08_Tabler7_W, F_ref08_Tabler7_g3, F_ref08_Tabler8_W, F_ref08_Tabler9_W, F_ref08_Tabler10_W, F_ref08_Tabler10_g3, F_ref08_Tabler10_g8, F_ref08_Tabler10_g12, F_ref08_Tabler10_g16, F_ref08_Tabler11_W, F_ref08_Tabler12_W, F_ref08_Tabler13_W, F_ref08_Tabler14_W, F_ref08_Tabler16_W, F_ref08_Tabler17_W, F_ref08_Tabler15_W, F_ref08_Tablel0_W, F_ref08_Tabler18_W, F_ref08_Tablec_W, e0, e4, e5, e6, e7, q, ← hP, CC_of c1, CC_of c2, CC_of c3, CC_of c4, CC_of c5, CC_of c6, CC_of c7, srcOf_immV, a1, w1]
    refine ih (i + 1) H' _ v' (l ++ [⟨IntKind.u32.wrap n1, IntKind.u32.wrap n2, n3, n4, n5, n6, n7⟩]) (by omega) (by omega) (by rw [List.length_append, hli]; rfl) ?_ a2 ?_ ?_ ?_ ?_ ?_
    · intro p hp
      rcases List.mem_append.1 hp with hp | hp
      · exact hok p hp
      · rw [List.mem_singleton] at hp
        rw [hp]
        exact ⟨u32_wf n1, u32_wf n2, u64_iff.2 u3, u64_iff.2 u4, u64_iff.2 u5, u64_iff.2 u6, u64_iff.2 u7⟩
    all_goals (first | assumption | rfl)
abbrev TP := Option (List S_api_Phdr) × Int
def TP.v (p : TP) : Value := .tuple #[slV PhE p.1, .int .i64 p.2]
def TP.ok (p : TP) : Prop := okP (lst p.1) ∧ (lst p.1).length ≤ 16
def KT (u : Value) (h : Heap) : Prop := ∃ p : TP, p.ok ∧ frz 8 h u = some p.v
omit h0 h1 hl in
theorem KT_err {e : Env} {h : Heap} (h1 : RT .ret e) : retQ [.tmp 2, .tmp 3] KT .ret e h := by
  obtain ⟨_, e2, er, e3⟩ := h1
  simp only [fws, cond_true, cond_false, if_true, if_false, unV, isNil, optI, iV, stepI, evalR, reduceIte, reduceCtorEq, Nat.reduceEqDiff, Int.reduceLT, Int.reduceLE, Int.reduceToNat, Nat.reduceLT, Nat.reduceLeDiff, Int.reduceEq, Int.reduceNeg, IntKind.bits, Nat.reduceAdd, Nat.reduceMul, Nat.reducePow, Int.reducePow, ini, e2, e3]
  exact ⟨(none, er), ⟨(fun _ h => nomatch h), Nat.zero_le _⟩, rfl⟩
theorem f_ref08_Table (h2 : T 72 = some F_ref01_Sum) (h3 : T 71 = some F_ref01_Less) (h4 : T 61 = some F_ref01_Inside) (h : T 46 = some F_ref08_Table) : ∃ p : TP, p.ok ∧ FnV T 46 [slV byteE o] p.v := by
  refine FnV_ex (P := TP.ok) (g := TP.v) (by simp [pure_sl (E := byteE) (o := o) (k := 6) rfl]) ?_
  rw [Ev_fn h rfl]
  show W T F_ref08_Tablec _ _ (retQ [.tmp 2, .tmp 3] KT)
  unfold F_ref08_Tablec
  rw [w_seq]
  have st0 : W T (.reg F_ref08_Tabler0) (ini [slV byteE o]) [] fun x e h => h = [] ∧ x = .normal ∧ e 0 = slV byteE o := by
    simp only [fws, cond_true, cond_false, if_true, if_false, unV, isNil, optI, iV, stepI, evalR, reduceIte, reduceCtorEq, Nat.reduceEqDiff, Int.reduceLT, Int.reduceLE, Int.reduceToNat, Nat.reduceLT, Nat.reduceLeDiff, Int.reduceEq, Int.reduceNeg, IntKind.bits, Nat.reduceAdd, Nat.reduceMul, Nat.reducePow, Int.reducePow, ini, fwh, lk, cellsAt, tagOf, spotOf, rdN, spl, fillL, zr, fwi, F_ref08_Tabler0_W, F_ref08_Tabler1_W, F_ref08_Tabler1_g3, F_ref08_Tabler1_g9, F_ref08_Tabler1_g15, F_ref08_Tabler1_g21, F_ref08_Tabler2_W, F_ref08_Tabler3_W, F_ref08_Tabler3_g4, F_ref08_Tabler3_g10, F_ref08_Tabler4_W, F_ref08_Tabler5_W, F_ref08_Tabler6_W, F_ref08_Tabler7_W, F_ref08_Tabler7_g3, F_ref08_Tabler8_W, F_ref08_Tabler9_W, F_ref08_Tabler10_W, F_ref08_Tabler10_g3, F_ref08_Tabler10_g8, F_ref08_Tabler10_g12, F_ref08_Tabler10_g16, F_ref08_Tabler11_W, F_ref08_Tabler12_W, F_ref08_Tabler13_W, F_ref08_Tabler14_W, F_ref08_Tabler16_W, F_ref08_Tabler17_W, F_ref08_Tabler15_W, F_ref08_Tablel0_W, F_ref08_Tabler18_W, F_ref08_Tablec_W]
    exact ⟨trivial, trivial, trivial⟩
  refine W.mono st0 fun x e h ⟨q1, q2, e0⟩ => ?_
  subst h q2
  rw [seqQ_normal, w_seq]
  refine W.mono (tb1 o e0) fun x e h ⟨q1, q2⟩ => ?_
  subst h
  rcases q2 with r | ⟨rfl, e0, h64⟩
  · obtain ⟨rfl, r2⟩ := r
    rw [seqQ_ret]; exact KT_err ⟨rfl, r2⟩
  rw [seqQ_normal, w_seq]
  refine W.mono (tb3 o e0 h64) fun x e h ⟨q1, q2⟩ => ?_
  subst h
  rcases q2 with r | ⟨rfl, e0⟩
  · obtain ⟨rfl, r2⟩ := r
    rw [seqQ_ret]; exact KT_err ⟨rfl, r2⟩
  rw [seqQ_normal, w_seq]
  refine W.mono (tb5 h0 h1 o hl e0) fun x e h ⟨q1, q2⟩ => ?_
  subst h
  rcases q2 with r | ⟨rfl, e0⟩
  · obtain ⟨rfl, r2⟩ := r
    rw [seqQ_ret]; exact KT_err ⟨rfl, r2⟩
  rw [seqQ_normal, w_seq]
  refine W.mono (tb7 h0 h1 o hl e0) fun x e h ⟨q1, q2⟩ => ?_
  subst h
  rcases q2 with r | ⟨rfl, e0⟩
  · obtain ⟨rfl, r2⟩ := r
    rw [seqQ_ret]; exact KT_err ⟨rfl, r2⟩
  rw [seqQ_normal, w_seq]
  refine W.mono (tb9 h0 h1 o hl e0) fun x e h ⟨q1, q2, e0, n, m, hn, hm, e4, e5⟩ => ?_
  subst h q2
  rw [seqQ_normal, w_seq]
  refine W.mono (tb10 h0 h1 h2 h3 h4 o hl e0 hn hm e4 e5) fun x e h ⟨q1, q2⟩ => ?_
  subst h
  rcases q2 with r | ⟨rfl, e0, e4, e5, hm16⟩
  · obtain ⟨rfl, r2⟩ := r
    rw [seqQ_ret]; exact KT_err ⟨rfl, r2⟩
  rw [seqQ_normal]
  simp only [fws, cond_true, cond_false, if_true, if_false, unV, isNil, optI, iV, stepI, evalR, reduceIte, reduceCtorEq, Nat.reduceEqDiff, Int.reduceLT, Int.reduceLE, Int.reduceToNat, Nat.reduceLT, Nat.reduceLeDiff, Int.reduceEq, Int.reduceNeg, IntKind.bits, Nat.reduceAdd, Nat.reduceMul, Nat.reducePow, Int.reducePow, ini, fwh, lk, cellsAt, tagOf, spotOf, rdN, spl, fillL, zr, fwi, F_ref08_Tabler0_W, F_ref08_Tabler1_W, F_ref08_Tabler1_g3, F_ref08_Tabler1_g9, F_ref08_Tabler1_g15, F_ref08_Tabler1_g21, F_ref08_Tabler2_W, F_ref08_Tabler3_W, F_ref08_Tabler3_g4, F_ref08_Tabler3_g10, F_ref08_Tabler4_W, F_ref08_Tabler5_W, F_ref08_Tabler6_W, F_ref08_Tabler7_W, F_ref08_Tabler7_g3, F_ref08_Tabler8_W, F_ref08_Tabler9_W, F_ref08_Tabler10_W, F_ref08_Tabler10_g3, F_ref08_Tabler10_g8, F_ref08_Tabler10_g12, F_ref08_Tabler10_g16, F_ref08_Tabler11_W, F_ref08_Tabler12_W, F_ref08_Tabler13_W, F_ref08_Tabler14_W, F_ref08_Tabler16_W, F_ref08_Tabler17_W, F_ref08_Tabler15_W, F_ref08_Tablec_W]
  refine W.mono (loop_ref08_Table h0 h1 o hl hn hm16 m.toNat 0 [] _ (.slice none 0 0) [] (by have := hm.1; omega) (by decide) rfl (fun _ h => nomatch h) Own.nil ?_ ?_ ?_ ?_ ?_) fun x e h ⟨q1, v, l, e6, q2, q3, q4⟩ => ?_
  all_goals try (first | assumption | rfl)
  subst q1
  obtain ⟨on, g3, g4⟩ := Own.frzE q4 (k := 6) (by decide)
  simp only [fws, cond_true, cond_false, if_true, if_false, unV, isNil, optI, iV, stepI, evalR, reduceIte, reduceCtorEq, Nat.reduceEqDiff, Int.reduceLT, Int.reduceLE, Int.reduceToNat, Nat.reduceLT, Nat.reduceLeDiff, Int.reduceEq, Int.reduceNeg, IntKind.bits, Nat.reduceAdd, Nat.reduceMul, Nat.reducePow, Int.reducePow, ini, F_ref08_Tabler0_W, F_ref08_Tabler1_W, F_ref08_Tabler1_g3, F_ref08_Tabler1_g9, F_ref08_Tabler1_g15, F_ref08_Tabler1_g21, F_ref08_Tabler2_W, F_ref08_Tabler3_W, F_ref08_Tabler3_g4, F_ref08_Tabler3_g10, F_ref08_Tabler4_W, F_ref08_Tabler5_W, F_ref08_Tabler6_W, F_ref08_Tabler7_W, F_ref08_Tabler7_g3, F_ref08_Tabler8_W, F_ref08_Tabler9_W, F_ref08_Tabler10_W, F_ref08_Tabler10_g3, F_ref08_Tabler10_g8, F_ref08_Tabler10_g12, F_ref08_Tabler10_g16, F_ref08_Tabler11_W, F_ref08_Tabler12_W, F_ref08_Tabler13_W, F_ref08_Tabler14_W, F_ref08_Tabler16_W, F_ref08_Tabler17_W, F_ref08_Tabler15_W, F_ref08_Tablel0_W, F_ref08_Tabler18_W, F_ref08_Tablec_W, e6]
  exact ⟨(on, 0), ⟨by rw [g3]; exact q3, by rw [g3]; exact q2⟩, frz_t2 g4 (frz_pure rfl)⟩
end
end Go.Proofs.Ytdkdifjjpbfohaa
