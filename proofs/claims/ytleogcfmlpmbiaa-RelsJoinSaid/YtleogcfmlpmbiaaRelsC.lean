/- Lists of relocations, written. -/
import Derived.Test.YtleogcfmlpmbiaaRelsB
namespace Go.Proofs.Ytleogcfmlpmbiaa
open Go Fw
set_option linter.unusedSimpArgs false
set_option linter.unusedVariables false

abbrev isI64r (n : Int) : Prop := -9223372036854775808 ≤ n ∧ n < 9223372036854775808
def okRel (r : S_api_Rel) : Prop := isU64 r.At ∧ (0 ≤ r.Typ ∧ r.Typ < 4294967296) ∧ (0 ≤ r.Sym ∧ r.Sym < 4294967296) ∧ isI64r r.Add
def encOkR (rela : Bool) (r : S_api_Rel) : Bool := r.Has == rela && (rela || decide (r.Add = 0))
def encR (rela : Bool) (r : S_api_Rel) : List UInt8 := leB 8 r.At.toNat ++ leB 4 r.Typ.toNat ++ leB 4 r.Sym.toNat ++ (if rela then leB 8 (IntKind.u64.wrap r.Add).toNat else [])
def encOk (rela : Bool) (l : List S_api_Rel) : Bool := decide (l.length ≤ 512) && l.all (encOkR rela)
def encB (rela : Bool) (l : List S_api_Rel) : List UInt8 := if encOk rela l then l.flatMap (encR rela) else []
def encC (rela : Bool) (l : List S_api_Rel) : Int := if encOk rela l then 0 else 120
theorem encR_len (rela : Bool) (r : S_api_Rel) : (encR rela r).length = oneN rela := by
  unfold encR oneN
  cases rela <;> simp [leB_len]
theorem flat_len (rela : Bool) : ∀ l : List S_api_Rel, (l.flatMap (encR rela)).length = l.length * oneN rela
  | [] => by simp
  | r :: l => by rw [List.flatMap_cons, List.length_append, flat_len rela l, encR_len, List.length_cons, Nat.succ_mul]; omega
theorem bne_ft : (false != true) = true := rfl
theorem bne_tf : (true != false) = true := rfl
abbrev rE (a b c d : Int) (e : Bool) : Entry := ⟨0, .cells false 5 [.int .u64 a, .int .u32 b, .int .u32 c, .int .i64 d, .bool e]⟩
theorem rcell {h : Heap} {p : Nat} {a b c d : Int} {e : Bool} (hp : h[p]? = some (rE a b c d e)) :
    cellsAt h ⟨p, 0, none⟩ = some [.int .u64 a, .int .u32 b, .int .u32 c, .int .i64 d, .bool e] ∧ cellsAt h ⟨p, 1, none⟩ = some [.int .u32 b, .int .u32 c, .int .i64 d, .bool e] ∧ cellsAt h ⟨p, 2, none⟩ = some [.int .u32 c, .int .i64 d, .bool e] ∧ cellsAt h ⟨p, 3, none⟩ = some [.int .i64 d, .bool e] ∧ cellsAt h ⟨p, 4, none⟩ = some [.bool e] := by
  refine ⟨?_, ?_, ?_, ?_, ?_⟩ <;> simp only [fws, cond_true, cond_false, if_true, if_false, unV, isNil, optI, iV, stepI, evalR, reduceIte, reduceCtorEq, Nat.reduceEqDiff, Int.reduceLT, Int.reduceLE, Int.reduceToNat, Nat.reduceLT, Nat.reduceLeDiff, Int.reduceEq, Int.reduceNeg, IntKind.bits, Nat.reduceAdd, Nat.reduceMul, Nat.reducePow, Int.reducePow, ini, fwh, lk, cellsAt, tagOf, spotOf, rdN, spl, fillL, zr, hp]
theorem Buf.cell {H h : Heap} {k : Nat} {v v' : Value} {l : List UInt8} (t : Buf H k v l) {e : Entry} (hf : BFrame (H ++ [e]) h k v v') : h[H.length]? = some e := by
  have h0 := (List.getElem?_eq_some_iff.1 t.at_).1
  rw [hf.same H.length (by simp) (by omega) (fun he => by have := t.own.lt he; omega)]
  simp
section
variable {T : Tab} (h0 : T 51 = some F_le_Buf_put) (h1 : T 22 = some F_le_Buf_Put32) (h2 : T 23 = some F_le_Buf_Put64) (l : List S_api_Rel) (v : Value) (hv : Src RelE v l) (hl : l.length ≤ 512) (hw : ∀ r ∈ l, okRel r)
include h0 h1 h2 hv hl hw
set_option maxHeartbeats 1000000 in
theorem loop_rels_Encode (rela : Bool) : ∀ (m i : Nat) (u : Value) (H : Heap) (env : Env), i + m = l.length → (l.take i).all (encOkR rela) = true → Buf H 0 u ((l.take i).flatMap (encR rela)) → env 1 = .bool rela → env 6 = ptrK 0 → env 13 = v → env 14 = .int .i64 l.length → env 15 = .int .i64 i →
    W T (.loop F_rels_Encodel0) env H fun x e h => (x = .ret ∧ e 4 = .slice none 0 0 ∧ e 5 = .int .i64 120 ∧ l.all (encOkR rela) = false) ∨ (x = .exit 0 ∧ l.all (encOkR rela) = true ∧ e 6 = ptrK 0 ∧ ∃ u, Buf h 0 u (l.flatMap (encR rela))) := by
  intro m
  induction m with
  | zero =>
    intro i u H env hi ht hb e1 e6 e13 e14 e15
    have : i = l.length := by omega
    subst this
    have q : ¬ ((l.length : Int) < l.length) := by omega
    rw [List.take_length] at ht hb
    rw [w_loop]
    simp only [fws, cond_true, cond_false, if_true, if_false, unV, isNil, optI, iV, stepI, evalR, reduceIte, reduceCtorEq, Nat.reduceEqDiff, Int.reduceLT, Int.reduceLE, Int.reduceToNat, Nat.reduceLT, Nat.reduceLeDiff, Int.reduceEq, Int.reduceNeg, IntKind.bits, Nat.reduceAdd, Nat.reduceMul, Nat.reducePow, Int.reducePow, ini, fwi, F_rels_Encoder0_W, F_rels_Encoder1_W, F_rels_Encoder2_W, F_rels_Encoder3_W, F_rels_Encoder4_W, F_rels_Encoder5_W, F_rels_Encoder6_W, F_rels_Encoder7_W, F_rels_Encoder7_g4, F_rels_Encoder7_g7, F_rels_Encoder8_W, F_rels_Encoder9_W, F_rels_Encoder10_W, F_rels_Encoder11_W, F_rels_Encoder12_W, F_rels_Encoder13_W, F_rels_Encoder14_W, F_rels_Encodel0_W, F_rels_Encoder15_W, F_rels_Encodec_W, e1, e6, e13, e14, e15, q]
    exact .inr ⟨trivial, ht, trivial, u, hb⟩
  | succ m ih =>
    intro i u H env hi ht hb e1 e6 e13 e14 e15
    have q : ((i : Int) < l.length) := by omega
    have hix : i < l.length := by omega
    have hx1 : ∀ H, ixaI H 5 v (.int .i64 i) = some (atI RelE l i, H) := fun H => hv.2 i hix .i64 H
    have hld1 : ∀ H, loadNI H 5 (atI RelE l i) = some (relA l[i], H) := fun H => loadNI_at rfl hix
    have w2 : IntKind.i64.wrap ((i : Int) + 1) = ((i + 1 : Nat) : Int) := by rw [wrapI64 (by omega) (by omega)]; rfl
    have htk : l.take (i + 1) = l.take i ++ [l[i]] := by rw [List.take_add_one, List.getElem?_eq_getElem hix]; rfl
    have hfl : (l.take (i + 1)).flatMap (encR rela) = (l.take i).flatMap (encR rela) ++ encR rela l[i] := by rw [htk, List.flatMap_append]; simp
    have hal : (l.take (i + 1)).all (encOkR rela) = ((l.take i).all (encOkR rela) && encOkR rela l[i]) := by rw [htk, List.all_append]; simp
    have hbad : encOkR rela l[i] = false → l.all (encOkR rela) = false := fun h => by
      rw [List.all_eq_false]
      exact ⟨l[i], List.getElem_mem hix, by simp [h]⟩
    have hwr := hw _ (List.getElem_mem hix)
    have hlen := flat_len rela (l.take i)
    have h24 : oneN rela ≤ 24 := by unfold oneN; cases rela <;> decide
    have hmul : (l.take i).length * oneN rela ≤ 512 * 24 := Nat.mul_le_mul (by rw [List.length_take]; omega) h24
    rcases hs : l[i] with ⟨a, b, c, d, e⟩
    rw [hs] at hld1 hwr hfl hal hbad
    obtain ⟨hwa, hwb, hwc, hwd⟩ := hwr
    simp only [isU64, isI64r] at hwa hwb hwc hwd
    obtain ⟨aN, rfl⟩ : ∃ n : Nat, a = n := ⟨a.toNat, by omega⟩
    obtain ⟨bN, rfl⟩ : ∃ n : Nat, b = n := ⟨b.toNat, by omega⟩
    obtain ⟨cN, rfl⟩ : ∃ n : Nat, c = n := ⟨c.toNat, by omega⟩
    obtain ⟨x0, x1, x2, x3, x4⟩ := rcell (h := H ++ [rE aN bN cN d e]) (p := H.length) (a := aN) (b := bN) (c := cN) (d := d) (e := e) (by simp)
    have hb1 := hb.mono [rE aN bN cN d e]
    generalize hL : (l.take i).flatMap (encR rela) = L at *
    have c1 := ev_Put64 (T := T) h0 h2 hb1 (by omega) (n := aN) (by omega)
    have e9 : ∀ r : S_api_Rel, r = ⟨aN, bN, cN, d, e⟩ → ∀ X : List UInt8, L ++ leB 8 aN ++ leB 4 bN ++ leB 4 cN ++ X = L ++ (leB 8 aN ++ leB 4 bN ++ leB 4 cN ++ X) := fun _ _ X => by simp only [List.append_assoc]
    have hrec : ∀ (r : S_api_Rel), encR rela r = encR rela r := fun _ => rfl
    have next : encOkR rela ⟨aN, bN, cN, d, e⟩ = true → ∀ env : Env, env 1 = .bool rela → env 6 = ptrK 0 → env 13 = v → env 14 = .int .i64 l.length → env 15 = .int .i64 i → env 8 = .pointer (some ⟨H.length, 0, none⟩) →
        W T (.reg F_rels_Encoder9) env (H ++ [rE aN bN cN d e]) (seqQ T (.seq (.reg F_rels_Encoder10) (.seq (.reg F_rels_Encoder11) (.seq (.reg F_rels_Encoder12) (.cond (.t 44) (.reg F_rels_Encoder13) .skip)))) (blockQ 1 (seqQ T (.reg F_rels_Encoder14) (seqQ T (.loop F_rels_Encodel0) fun x e h => (x = .ret ∧ e 4 = .slice none 0 0 ∧ e 5 = .int .i64 120 ∧ l.all (encOkR rela) = false) ∨ (x = .exit 0 ∧ l.all (encOkR rela) = true ∧ e 6 = ptrK 0 ∧ ∃ u, Buf h 0 u (l.flatMap (encR rela))))))) := by
      intro hok env e1 e6 e13 e14 e15 e8
      have hal' : (l.take (i + 1)).all (encOkR rela) = true := by rw [hal, ht, hok]; rfl
      simp only [fws, cond_true, cond_false, if_true, if_false, unV, isNil, optI, iV, stepI, evalR, reduceIte, reduceCtorEq, Nat.reduceEqDiff, Int.reduceLT, Int.reduceLE, Int.reduceToNat, Nat.reduceLT, Nat.reduceLeDiff, Int.reduceEq, Int.reduceNeg, IntKind.bits, Nat.reduceAdd, Nat.reduceMul, Nat.reducePow, Int.reducePow, ini, fwi, F_rels_Encoder0_W, F_rels_Encoder1_W, F_rels_Encoder2_W, F_rels_Encoder3_W, F_rels_Encoder4_W, F_rels_Encoder5_W, F_rels_Encoder6_W, F_rels_Encoder7_W, F_rels_Encoder7_g4, F_rels_Encoder7_g7, F_rels_Encoder8_W, F_rels_Encoder9_W, F_rels_Encoder10_W, F_rels_Encoder11_W, F_rels_Encoder12_W, F_rels_Encoder13_W, F_rels_Encoder14_W, F_rels_Encodel0_W, F_rels_Encoder15_W, F_rels_Encodec_W, e1, e6, e13, e14, e15, e8, x0]
      refine c1.mono fun _ H1 ⟨_, u1, b1, f1⟩ => ?_
      obtain ⟨_, y1, _, _, _⟩ := rcell (hb.cell f1)
      have c2 := ev_Put32 (T := T) h0 h1 b1 (by rw [List.length_append, leB_len]; omega) (n := bN) (by omega)
      simp only [fws, cond_true, cond_false, if_true, if_false, unV, isNil, optI, iV, stepI, evalR, reduceIte, reduceCtorEq, Nat.reduceEqDiff, Int.reduceLT, Int.reduceLE, Int.reduceToNat, Nat.reduceLT, Nat.reduceLeDiff, Int.reduceEq, Int.reduceNeg, IntKind.bits, Nat.reduceAdd, Nat.reduceMul, Nat.reducePow, Int.reducePow, ini, fwi, F_rels_Encoder0_W, F_rels_Encoder1_W, F_rels_Encoder2_W, F_rels_Encoder3_W, F_rels_Encoder4_W, F_rels_Encoder5_W, F_rels_Encoder6_W, F_rels_Encoder7_W, F_rels_Encoder7_g4, F_rels_Encoder7_g7, F_rels_Encoder8_W, F_rels_Encoder9_W, F_rels_Encoder10_W, F_rels_Encoder11_W, F_rels_Encoder12_W, F_rels_Encoder13_W, F_rels_Encoder14_W, F_rels_Encodel0_W, F_rels_Encoder15_W, F_rels_Encodec_W, e1, e6, e13, e14, e15, e8, y1]
      refine c2.mono fun _ H2 ⟨_, u2, b2, f2⟩ => ?_
      have f12 := f1.trans f2
      obtain ⟨_, _, y2, _, _⟩ := rcell (hb.cell f12)
      have c3 := ev_Put32 (T := T) h0 h1 b2 (by simp only [List.length_append, leB_len]; omega) (n := cN) (by omega)
      simp only [fws, cond_true, cond_false, if_true, if_false, unV, isNil, optI, iV, stepI, evalR, reduceIte, reduceCtorEq, Nat.reduceEqDiff, Int.reduceLT, Int.reduceLE, Int.reduceToNat, Nat.reduceLT, Nat.reduceLeDiff, Int.reduceEq, Int.reduceNeg, IntKind.bits, Nat.reduceAdd, Nat.reduceMul, Nat.reducePow, Int.reducePow, ini, fwi, F_rels_Encoder0_W, F_rels_Encoder1_W, F_rels_Encoder2_W, F_rels_Encoder3_W, F_rels_Encoder4_W, F_rels_Encoder5_W, F_rels_Encoder6_W, F_rels_Encoder7_W, F_rels_Encoder7_g4, F_rels_Encoder7_g7, F_rels_Encoder8_W, F_rels_Encoder9_W, F_rels_Encoder10_W, F_rels_Encoder11_W, F_rels_Encoder12_W, F_rels_Encoder13_W, F_rels_Encoder14_W, F_rels_Encodel0_W, F_rels_Encoder15_W, F_rels_Encodec_W, e1, e6, e13, e14, e15, e8, y2]
      refine c3.mono fun _ H3 ⟨_, u3, b3, f3⟩ => ?_
      have f13 := f12.trans f3
      obtain ⟨_, _, _, y3, _⟩ := rcell (hb.cell f13)
      cases hr : rela with
      | false =>
        subst hr
        simp only [fws, cond_true, cond_false, if_true, if_false, unV, isNil, optI, iV, stepI, evalR, reduceIte, reduceCtorEq, Nat.reduceEqDiff, Int.reduceLT, Int.reduceLE, Int.reduceToNat, Nat.reduceLT, Nat.reduceLeDiff, Int.reduceEq, Int.reduceNeg, IntKind.bits, Nat.reduceAdd, Nat.reduceMul, Nat.reducePow, Int.reducePow, ini, fwi, F_rels_Encoder0_W, F_rels_Encoder1_W, F_rels_Encoder2_W, F_rels_Encoder3_W, F_rels_Encoder4_W, F_rels_Encoder5_W, F_rels_Encoder6_W, F_rels_Encoder7_W, F_rels_Encoder7_g4, F_rels_Encoder7_g7, F_rels_Encoder8_W, F_rels_Encoder9_W, F_rels_Encoder10_W, F_rels_Encoder11_W, F_rels_Encoder12_W, F_rels_Encoder13_W, F_rels_Encoder14_W, F_rels_Encodel0_W, F_rels_Encoder15_W, F_rels_Encodec_W, e1, e6, e13, e14, e15, e8, w2]
        refine ih (i + 1) u3 _ _ (by omega) hal' ?_ ?_ ?_ ?_ ?_ ?_
        · rw [hfl]
          unfold encR
          rw [if_neg (by decide), List.append_nil, ← List.append_assoc, ← List.append_assoc]
          exact b3
        all_goals (first | (simp only [fws, cond_true, cond_false, if_true, if_false, unV, isNil, optI, iV, stepI, evalR, reduceIte, reduceCtorEq, Nat.reduceEqDiff, Int.reduceLT, Int.reduceLE, Int.reduceToNat, Nat.reduceLT, Nat.reduceLeDiff, Int.reduceEq, Int.reduceNeg, IntKind.bits, Nat.reduceAdd, Nat.reduceMul, Nat.reducePow, Int.reducePow, ini, *]; done) | (simp only [fws, cond_true, cond_false, if_true, if_false, unV, isNil, optI, iV, stepI, evalR, reduceIte, reduceCtorEq, Nat.reduceEqDiff, Int.reduceLT, Int.reduceLE, Int.reduceToNat, Nat.reduceLT, Nat.reduceLeDiff, Int.reduceEq, Int.reduceNeg, IntKind.bits, Nat.reduceAdd, Nat.reduceMul, Nat.reducePow, Int.reducePow, ini]; rfl))
      | true =>
        subst hr
        obtain ⟨dN, hdN⟩ : ∃ n : Nat, IntKind.u64.wrap d = n := ⟨(IntKind.u64.wrap d).toNat, by rw [wrap_u64]; omega⟩
        have hdlt : dN < 18446744073709551616 := by rw [wrap_u64] at hdN; omega
        have c4 := ev_Put64 (T := T) h0 h2 b3 (by simp only [List.length_append, leB_len]; omega) (n := dN) hdlt
        simp only [fws, cond_true, cond_false, if_true, if_false, unV, isNil, optI, iV, stepI, evalR, reduceIte, reduceCtorEq, Nat.reduceEqDiff, Int.reduceLT, Int.reduceLE, Int.reduceToNat, Nat.reduceLT, Nat.reduceLeDiff, Int.reduceEq, Int.reduceNeg, IntKind.bits, Nat.reduceAdd, Nat.reduceMul, Nat.reducePow, Int.reducePow, ini, fwi, F_rels_Encoder0_W, F_rels_Encoder1_W, F_rels_Encoder2_W, F_rels_Encoder3_W, F_rels_Encoder4_W, F_rels_Encoder5_W, F_rels_Encoder6_W, F_rels_Encoder7_W, F_rels_Encoder7_g4, F_rels_Encoder7_g7, F_rels_Encoder8_W, F_rels_Encoder9_W, F_rels_Encoder10_W, F_rels_Encoder11_W, F_rels_Encoder12_W, F_rels_Encoder13_W, F_rels_Encoder14_W, F_rels_Encodel0_W, F_rels_Encoder15_W, F_rels_Encodec_W, e1, e6, e13, e14, e15, e8, y3, hdN]
        refine c4.mono fun _ H4 ⟨_, u4, b4, f4⟩ => ?_
        simp only [fws, cond_true, cond_false, if_true, if_false, unV, isNil, optI, iV, stepI, evalR, reduceIte, reduceCtorEq, Nat.reduceEqDiff, Int.reduceLT, Int.reduceLE, Int.reduceToNat, Nat.reduceLT, Nat.reduceLeDiff, Int.reduceEq, Int.reduceNeg, IntKind.bits, Nat.reduceAdd, Nat.reduceMul, Nat.reducePow, Int.reducePow, ini, fwi, F_rels_Encoder0_W, F_rels_Encoder1_W, F_rels_Encoder2_W, F_rels_Encoder3_W, F_rels_Encoder4_W, F_rels_Encoder5_W, F_rels_Encoder6_W, F_rels_Encoder7_W, F_rels_Encoder7_g4, F_rels_Encoder7_g7, F_rels_Encoder8_W, F_rels_Encoder9_W, F_rels_Encoder10_W, F_rels_Encoder11_W, F_rels_Encoder12_W, F_rels_Encoder13_W, F_rels_Encoder14_W, F_rels_Encodel0_W, F_rels_Encoder15_W, F_rels_Encodec_W, e1, e6, e13, e14, e15, e8, w2]
        refine ih (i + 1) u4 _ _ (by omega) hal' ?_ ?_ ?_ ?_ ?_ ?_
        · rw [hfl]
          unfold encR
          rw [if_pos rfl, ← List.append_assoc, ← List.append_assoc, ← List.append_assoc, hdN]
          exact b4
        all_goals (first | (simp only [fws, cond_true, cond_false, if_true, if_false, unV, isNil, optI, iV, stepI, evalR, reduceIte, reduceCtorEq, Nat.reduceEqDiff, Int.reduceLT, Int.reduceLE, Int.reduceToNat, Nat.reduceLT, Nat.reduceLeDiff, Int.reduceEq, Int.reduceNeg, IntKind.bits, Nat.reduceAdd, Nat.reduceMul, Nat.reducePow, Int.reducePow, ini, *]; done) | (simp only [fws, cond_true, cond_false, if_true, if_false, unV, isNil, optI, iV, stepI, evalR, reduceIte, reduceCtorEq, Nat.reduceEqDiff, Int.reduceLT, Int.reduceLE, Int.reduceToNat, Nat.reduceLT, Nat.reduceLeDiff, Int.reduceEq, Int.reduceNeg, IntKind.bits, Nat.reduceAdd, Nat.reduceMul, Nat.reducePow, Int.reducePow, ini]; rfl))
    rw [w_loop]
    cases e <;> cases rela
    · by_cases hd : d = 0
      · subst hd
        simp only [fws, cond_true, cond_false, if_true, if_false, unV, isNil, optI, iV, stepI, evalR, reduceIte, reduceCtorEq, Nat.reduceEqDiff, Int.reduceLT, Int.reduceLE, Int.reduceToNat, Nat.reduceLT, Nat.reduceLeDiff, Int.reduceEq, Int.reduceNeg, IntKind.bits, Nat.reduceAdd, Nat.reduceMul, Nat.reducePow, Int.reducePow, ini, fwh, lk, cellsAt, tagOf, spotOf, rdN, spl, fillL, zr, fwi, F_rels_Encoder0_W, F_rels_Encoder1_W, F_rels_Encoder2_W, F_rels_Encoder3_W, F_rels_Encoder4_W, F_rels_Encoder5_W, F_rels_Encoder6_W, F_rels_Encoder7_W, F_rels_Encoder7_g4, F_rels_Encoder7_g7, F_rels_Encoder8_W, F_rels_Encoder10_W, F_rels_Encoder11_W, F_rels_Encoder12_W, F_rels_Encoder13_W, F_rels_Encoder14_W, F_rels_Encodel0_W, F_rels_Encoder15_W, F_rels_Encodec_W, e1, e6, e13, e14, e15, q, hx1, hld1]
        refine next rfl _ ?_ ?_ ?_ ?_ ?_ ?_
        all_goals (first | (simp only [fws, cond_true, cond_false, if_true, if_false, unV, isNil, optI, iV, stepI, evalR, reduceIte, reduceCtorEq, Nat.reduceEqDiff, Int.reduceLT, Int.reduceLE, Int.reduceToNat, Nat.reduceLT, Nat.reduceLeDiff, Int.reduceEq, Int.reduceNeg, IntKind.bits, Nat.reduceAdd, Nat.reduceMul, Nat.reducePow, Int.reducePow, ini, *]; done) | (simp only [fws, cond_true, cond_false, if_true, if_false, unV, isNil, optI, iV, stepI, evalR, reduceIte, reduceCtorEq, Nat.reduceEqDiff, Int.reduceLT, Int.reduceLE, Int.reduceToNat, Nat.reduceLT, Nat.reduceLeDiff, Int.reduceEq, Int.reduceNeg, IntKind.bits, Nat.reduceAdd, Nat.reduceMul, Nat.reducePow, Int.reducePow, ini]; rfl))
      · simp only [fws, cond_true, cond_false, if_true, if_false, unV, isNil, optI, iV, stepI, evalR, reduceIte, reduceCtorEq, Nat.reduceEqDiff, Int.reduceLT, Int.reduceLE, Int.reduceToNat, Nat.reduceLT, Nat.reduceLeDiff, Int.reduceEq, Int.reduceNeg, IntKind.bits, Nat.reduceAdd, Nat.reduceMul, Nat.reducePow, Int.reducePow, ini, fwh, lk, cellsAt, tagOf, spotOf, rdN, spl, fillL, zr, fwi, F_rels_Encoder0_W, F_rels_Encoder1_W, F_rels_Encoder2_W, F_rels_Encoder3_W, F_rels_Encoder4_W, F_rels_Encoder5_W, F_rels_Encoder6_W, F_rels_Encoder7_W, F_rels_Encoder7_g4, F_rels_Encoder7_g7, F_rels_Encoder8_W, F_rels_Encoder10_W, F_rels_Encoder11_W, F_rels_Encoder12_W, F_rels_Encoder13_W, F_rels_Encoder14_W, F_rels_Encodel0_W, F_rels_Encoder15_W, F_rels_Encodec_W, e1, e6, e13, e14, e15, q, hx1, hld1, hd]
        exact .inl ⟨trivial, trivial, trivial, hbad (by unfold encOkR; simp [hd])⟩
    · simp only [fws, cond_true, cond_false, if_true, if_false, unV, isNil, optI, iV, stepI, evalR, reduceIte, reduceCtorEq, Nat.reduceEqDiff, Int.reduceLT, Int.reduceLE, Int.reduceToNat, Nat.reduceLT, Nat.reduceLeDiff, Int.reduceEq, Int.reduceNeg, IntKind.bits, Nat.reduceAdd, Nat.reduceMul, Nat.reducePow, Int.reducePow, ini, fwh, lk, cellsAt, tagOf, spotOf, rdN, spl, fillL, zr, fwi, F_rels_Encoder0_W, F_rels_Encoder1_W, F_rels_Encoder2_W, F_rels_Encoder3_W, F_rels_Encoder4_W, F_rels_Encoder5_W, F_rels_Encoder6_W, F_rels_Encoder7_W, F_rels_Encoder7_g4, F_rels_Encoder7_g7, F_rels_Encoder8_W, F_rels_Encoder10_W, F_rels_Encoder11_W, F_rels_Encoder12_W, F_rels_Encoder13_W, F_rels_Encoder14_W, F_rels_Encodel0_W, F_rels_Encoder15_W, F_rels_Encodec_W, e1, e6, e13, e14, e15, q, hx1, hld1, bne_ft, bne_tf]
      exact .inl ⟨trivial, trivial, trivial, hbad rfl⟩
    · simp only [fws, cond_true, cond_false, if_true, if_false, unV, isNil, optI, iV, stepI, evalR, reduceIte, reduceCtorEq, Nat.reduceEqDiff, Int.reduceLT, Int.reduceLE, Int.reduceToNat, Nat.reduceLT, Nat.reduceLeDiff, Int.reduceEq, Int.reduceNeg, IntKind.bits, Nat.reduceAdd, Nat.reduceMul, Nat.reducePow, Int.reducePow, ini, fwh, lk, cellsAt, tagOf, spotOf, rdN, spl, fillL, zr, fwi, F_rels_Encoder0_W, F_rels_Encoder1_W, F_rels_Encoder2_W, F_rels_Encoder3_W, F_rels_Encoder4_W, F_rels_Encoder5_W, F_rels_Encoder6_W, F_rels_Encoder7_W, F_rels_Encoder7_g4, F_rels_Encoder7_g7, F_rels_Encoder8_W, F_rels_Encoder10_W, F_rels_Encoder11_W, F_rels_Encoder12_W, F_rels_Encoder13_W, F_rels_Encoder14_W, F_rels_Encodel0_W, F_rels_Encoder15_W, F_rels_Encodec_W, e1, e6, e13, e14, e15, q, hx1, hld1, bne_ft, bne_tf]
      exact .inl ⟨trivial, trivial, trivial, hbad rfl⟩
    · simp only [fws, cond_true, cond_false, if_true, if_false, unV, isNil, optI, iV, stepI, evalR, reduceIte, reduceCtorEq, Nat.reduceEqDiff, Int.reduceLT, Int.reduceLE, Int.reduceToNat, Nat.reduceLT, Nat.reduceLeDiff, Int.reduceEq, Int.reduceNeg, IntKind.bits, Nat.reduceAdd, Nat.reduceMul, Nat.reducePow, Int.reducePow, ini, fwh, lk, cellsAt, tagOf, spotOf, rdN, spl, fillL, zr, fwi, F_rels_Encoder0_W, F_rels_Encoder1_W, F_rels_Encoder2_W, F_rels_Encoder3_W, F_rels_Encoder4_W, F_rels_Encoder5_W, F_rels_Encoder6_W, F_rels_Encoder7_W, F_rels_Encoder7_g4, F_rels_Encoder7_g7, F_rels_Encoder8_W, F_rels_Encoder10_W, F_rels_Encoder11_W, F_rels_Encoder12_W, F_rels_Encoder13_W, F_rels_Encoder14_W, F_rels_Encodel0_W, F_rels_Encoder15_W, F_rels_Encodec_W, e1, e6, e13, e14, e15, q, hx1, hld1]
      refine next rfl _ ?_ ?_ ?_ ?_ ?_ ?_
      all_goals (first | (simp only [fws, cond_true, cond_false, if_true, if_false, unV, isNil, optI, iV, stepI, evalR, reduceIte, reduceCtorEq, Nat.reduceEqDiff, Int.reduceLT, Int.reduceLE, Int.reduceToNat, Nat.reduceLT, Nat.reduceLeDiff, Int.reduceEq, Int.reduceNeg, IntKind.bits, Nat.reduceAdd, Nat.reduceMul, Nat.reducePow, Int.reducePow, ini, *]; done) | (simp only [fws, cond_true, cond_false, if_true, if_false, unV, isNil, optI, iV, stepI, evalR, reduceIte, reduceCtorEq, Nat.reduceEqDiff, Int.reduceLT, Int.reduceLE, Int.reduceToNat, Nat.reduceLT, Nat.reduceLeDiff, Int.reduceEq, Int.reduceNeg, IntKind.bits, Nat.reduceAdd, Nat.reduceMul, Nat.reducePow, Int.reducePow, ini]; rfl))
theorem f_rels_Encode (h3 : T 20 = some F_le_New) (h4 : T 27 = some F_le_Buf_Bytes) (hp : pureV 6 v = true) (h : T 29 = some F_rels_Encode) (rela : Bool) : ∃ o, lst o = encB rela l ∧ FnV T 29 [v, .bool rela] (.tuple #[slV byteE o, .int .i64 (encC rela l)]) := by
  refine FnV_ex (g := fun o => .tuple #[slV byteE o, .int .i64 (encC rela l)]) (by simp [pure_bool, hp]) ?_
  rw [Ev_fn h rfl]
  have q : ¬ ((512 : Int) < l.length) := by omega
  have c0 := ev_New (T := T) h3 []
  have h24 : oneN rela ≤ 24 := by unfold oneN; cases rela <;> decide
  simp only [F_rels_Encode, fws, cond_true, cond_false, if_true, if_false, unV, isNil, optI, iV, stepI, evalR, reduceIte, reduceCtorEq, Nat.reduceEqDiff, Int.reduceLT, Int.reduceLE, Int.reduceToNat, Nat.reduceLT, Nat.reduceLeDiff, Int.reduceEq, Int.reduceNeg, IntKind.bits, Nat.reduceAdd, Nat.reduceMul, Nat.reducePow, Int.reducePow, ini, fwi, F_rels_Encoder0_W, F_rels_Encoder1_W, F_rels_Encoder2_W, F_rels_Encoder3_W, F_rels_Encoder4_W, F_rels_Encoder5_W, F_rels_Encoder6_W, F_rels_Encoder7_W, F_rels_Encoder7_g4, F_rels_Encoder7_g7, F_rels_Encoder8_W, F_rels_Encoder9_W, F_rels_Encoder10_W, F_rels_Encoder11_W, F_rels_Encoder12_W, F_rels_Encoder13_W, F_rels_Encoder14_W, F_rels_Encodel0_W, F_rels_Encoder15_W, F_rels_Encodec_W, hv.1, q, Ev_det c0]
  refine W.mono (loop_rels_Encode h0 h1 h2 l v hv hl hw rela l.length 0 _ _ _ (Nat.zero_add _) rfl (Buf.new []) ?_ ?_ ?_ ?_ ?_) fun x e h hq => ?_
  · (first | (simp only [fws, cond_true, cond_false, if_true, if_false, unV, isNil, optI, iV, stepI, evalR, reduceIte, reduceCtorEq, Nat.reduceEqDiff, Int.reduceLT, Int.reduceLE, Int.reduceToNat, Nat.reduceLT, Nat.reduceLeDiff, Int.reduceEq, Int.reduceNeg, IntKind.bits, Nat.reduceAdd, Nat.reduceMul, Nat.reducePow, Int.reducePow, ini, *]; done) | (simp only [fws, cond_true, cond_false, if_true, if_false, unV, isNil, optI, iV, stepI, evalR, reduceIte, reduceCtorEq, Nat.reduceEqDiff, Int.reduceLT, Int.reduceLE, Int.reduceToNat, Nat.reduceLT, Nat.reduceLeDiff, Int.reduceEq, Int.reduceNeg, IntKind.bits, Nat.reduceAdd, Nat.reduceMul, Nat.reducePow, Int.reducePow, ini]; rfl))
  · (first | (simp only [fws, cond_true, cond_false, if_true, if_false, unV, isNil, optI, iV, stepI, evalR, reduceIte, reduceCtorEq, Nat.reduceEqDiff, Int.reduceLT, Int.reduceLE, Int.reduceToNat, Nat.reduceLT, Nat.reduceLeDiff, Int.reduceEq, Int.reduceNeg, IntKind.bits, Nat.reduceAdd, Nat.reduceMul, Nat.reducePow, Int.reducePow, ini, *]; done) | (simp only [fws, cond_true, cond_false, if_true, if_false, unV, isNil, optI, iV, stepI, evalR, reduceIte, reduceCtorEq, Nat.reduceEqDiff, Int.reduceLT, Int.reduceLE, Int.reduceToNat, Nat.reduceLT, Nat.reduceLeDiff, Int.reduceEq, Int.reduceNeg, IntKind.bits, Nat.reduceAdd, Nat.reduceMul, Nat.reducePow, Int.reducePow, ini]; rfl))
  · (first | (simp only [fws, cond_true, cond_false, if_true, if_false, unV, isNil, optI, iV, stepI, evalR, reduceIte, reduceCtorEq, Nat.reduceEqDiff, Int.reduceLT, Int.reduceLE, Int.reduceToNat, Nat.reduceLT, Nat.reduceLeDiff, Int.reduceEq, Int.reduceNeg, IntKind.bits, Nat.reduceAdd, Nat.reduceMul, Nat.reducePow, Int.reducePow, ini, *]; done) | (simp only [fws, cond_true, cond_false, if_true, if_false, unV, isNil, optI, iV, stepI, evalR, reduceIte, reduceCtorEq, Nat.reduceEqDiff, Int.reduceLT, Int.reduceLE, Int.reduceToNat, Nat.reduceLT, Nat.reduceLeDiff, Int.reduceEq, Int.reduceNeg, IntKind.bits, Nat.reduceAdd, Nat.reduceMul, Nat.reducePow, Int.reducePow, ini]; rfl))
  · (first | (simp only [fws, cond_true, cond_false, if_true, if_false, unV, isNil, optI, iV, stepI, evalR, reduceIte, reduceCtorEq, Nat.reduceEqDiff, Int.reduceLT, Int.reduceLE, Int.reduceToNat, Nat.reduceLT, Nat.reduceLeDiff, Int.reduceEq, Int.reduceNeg, IntKind.bits, Nat.reduceAdd, Nat.reduceMul, Nat.reducePow, Int.reducePow, ini, *]; done) | (simp only [fws, cond_true, cond_false, if_true, if_false, unV, isNil, optI, iV, stepI, evalR, reduceIte, reduceCtorEq, Nat.reduceEqDiff, Int.reduceLT, Int.reduceLE, Int.reduceToNat, Nat.reduceLT, Nat.reduceLeDiff, Int.reduceEq, Int.reduceNeg, IntKind.bits, Nat.reduceAdd, Nat.reduceMul, Nat.reducePow, Int.reducePow, ini]; rfl))
  · (first | (simp only [fws, cond_true, cond_false, if_true, if_false, unV, isNil, optI, iV, stepI, evalR, reduceIte, reduceCtorEq, Nat.reduceEqDiff, Int.reduceLT, Int.reduceLE, Int.reduceToNat, Nat.reduceLT, Nat.reduceLeDiff, Int.reduceEq, Int.reduceNeg, IntKind.bits, Nat.reduceAdd, Nat.reduceMul, Nat.reducePow, Int.reducePow, ini, *]; done) | (simp only [fws, cond_true, cond_false, if_true, if_false, unV, isNil, optI, iV, stepI, evalR, reduceIte, reduceCtorEq, Nat.reduceEqDiff, Int.reduceLT, Int.reduceLE, Int.reduceToNat, Nat.reduceLT, Nat.reduceLeDiff, Int.reduceEq, Int.reduceNeg, IntKind.bits, Nat.reduceAdd, Nat.reduceMul, Nat.reducePow, Int.reducePow, ini]; rfl))
  rcases hq with ⟨rfl, g1, g2, g3⟩ | ⟨rfl, g1, g2, u, g3⟩
  · have ok : encOk rela l = false := by unfold encOk; rw [g3, Bool.and_false]
    simp only [fws, cond_true, cond_false, if_true, if_false, unV, isNil, optI, iV, stepI, evalR, reduceIte, reduceCtorEq, Nat.reduceEqDiff, Int.reduceLT, Int.reduceLE, Int.reduceToNat, Nat.reduceLT, Nat.reduceLeDiff, Int.reduceEq, Int.reduceNeg, IntKind.bits, Nat.reduceAdd, Nat.reduceMul, Nat.reducePow, Int.reducePow, ini, F_rels_Encoder0_W, F_rels_Encoder1_W, F_rels_Encoder2_W, F_rels_Encoder3_W, F_rels_Encoder4_W, F_rels_Encoder5_W, F_rels_Encoder6_W, F_rels_Encoder7_W, F_rels_Encoder7_g4, F_rels_Encoder7_g7, F_rels_Encoder8_W, F_rels_Encoder9_W, F_rels_Encoder10_W, F_rels_Encoder11_W, F_rels_Encoder12_W, F_rels_Encoder13_W, F_rels_Encoder14_W, F_rels_Encodel0_W, F_rels_Encoder15_W, F_rels_Encodec_W, g1, g2]
    exact ⟨none, by unfold encB; rw [ok]; rfl, by unfold encC; rw [ok]; rfl⟩
  · have ok : encOk rela l = true := by unfold encOk; rw [g1, Bool.and_true]; exact decide_eq_true hl
    have hlen := flat_len rela l
    have hmul : l.length * oneN rela ≤ 512 * 24 := Nat.mul_le_mul hl h24
    have c1 := ev_Bytes (T := T) h4 g3 (by omega)
    simp only [fws, cond_true, cond_false, if_true, if_false, unV, isNil, optI, iV, stepI, evalR, reduceIte, reduceCtorEq, Nat.reduceEqDiff, Int.reduceLT, Int.reduceLE, Int.reduceToNat, Nat.reduceLT, Nat.reduceLeDiff, Int.reduceEq, Int.reduceNeg, IntKind.bits, Nat.reduceAdd, Nat.reduceMul, Nat.reducePow, Int.reducePow, ini, fwi, F_rels_Encoder0_W, F_rels_Encoder1_W, F_rels_Encoder2_W, F_rels_Encoder3_W, F_rels_Encoder4_W, F_rels_Encoder5_W, F_rels_Encoder6_W, F_rels_Encoder7_W, F_rels_Encoder7_g4, F_rels_Encoder7_g7, F_rels_Encoder8_W, F_rels_Encoder9_W, F_rels_Encoder10_W, F_rels_Encoder11_W, F_rels_Encoder12_W, F_rels_Encoder13_W, F_rels_Encoder14_W, F_rels_Encodel0_W, F_rels_Encoder15_W, F_rels_Encodec_W, g2]
    refine c1.mono fun y H10 ⟨k1, k2, k3, k4⟩ => ?_
    obtain ⟨ox, H9, p1, p2, p3, p4⟩ := Own.fz_end k1 k2 k3 k4
    simp only [fws, cond_true, cond_false, if_true, if_false, unV, isNil, optI, iV, stepI, evalR, reduceIte, reduceCtorEq, Nat.reduceEqDiff, Int.reduceLT, Int.reduceLE, Int.reduceToNat, Nat.reduceLT, Nat.reduceLeDiff, Int.reduceEq, Int.reduceNeg, IntKind.bits, Nat.reduceAdd, Nat.reduceMul, Nat.reducePow, Int.reducePow, ini, fwi, F_rels_Encoder0_W, F_rels_Encoder1_W, F_rels_Encoder2_W, F_rels_Encoder3_W, F_rels_Encoder4_W, F_rels_Encoder5_W, F_rels_Encoder6_W, F_rels_Encoder7_W, F_rels_Encoder7_g4, F_rels_Encoder7_g7, F_rels_Encoder8_W, F_rels_Encoder9_W, F_rels_Encoder10_W, F_rels_Encoder11_W, F_rels_Encoder12_W, F_rels_Encoder13_W, F_rels_Encoder14_W, F_rels_Encodel0_W, F_rels_Encoder15_W, F_rels_Encodec_W, p2]
    refine ⟨ox, by rw [p1]; unfold encB; rw [ok]; rfl, ?_⟩
    unfold encC
    rw [ok]
    exact frz_t2 (frz_pure (pure_sl (E := byteE) (o := ox) (k := 7) rfl)) (frz_pure rfl)
end
theorem f_rels_Encode_gt {T : Tab} (l : List S_api_Rel) (v : Value) (hv : Src RelE v l) (hp : pureV 6 v = true) (hl : ¬ l.length ≤ 512) (h : T 29 = some F_rels_Encode) (rela : Bool) : ∃ o, lst o = encB rela l ∧ FnV T 29 [v, .bool rela] (.tuple #[slV byteE o, .int .i64 (encC rela l)]) := by
  refine FnV_ex (g := fun o => .tuple #[slV byteE o, .int .i64 (encC rela l)]) (by simp [pure_bool, hp]) ?_
  rw [Ev_fn h rfl]
  have q : ((512 : Int) < l.length) := by omega
  have ok : encOk rela l = false := by unfold encOk; rw [decide_eq_false hl, Bool.false_and]
  simp only [F_rels_Encode, fws, cond_true, cond_false, if_true, if_false, unV, isNil, optI, iV, stepI, evalR, reduceIte, reduceCtorEq, Nat.reduceEqDiff, Int.reduceLT, Int.reduceLE, Int.reduceToNat, Nat.reduceLT, Nat.reduceLeDiff, Int.reduceEq, Int.reduceNeg, IntKind.bits, Nat.reduceAdd, Nat.reduceMul, Nat.reducePow, Int.reducePow, ini, fwi, F_rels_Encoder0_W, F_rels_Encoder1_W, F_rels_Encoder2_W, F_rels_Encoder3_W, F_rels_Encoder4_W, F_rels_Encoder5_W, F_rels_Encoder6_W, F_rels_Encoder7_W, F_rels_Encoder7_g4, F_rels_Encoder7_g7, F_rels_Encoder8_W, F_rels_Encoder9_W, F_rels_Encoder10_W, F_rels_Encoder11_W, F_rels_Encoder12_W, F_rels_Encoder13_W, F_rels_Encoder14_W, F_rels_Encodel0_W, F_rels_Encoder15_W, F_rels_Encodec_W, hv.1, q]
  exact ⟨none, by unfold encB; rw [ok]; rfl, by unfold encC; rw [ok]; rfl⟩
end Go.Proofs.Ytleogcfmlpmbiaa
