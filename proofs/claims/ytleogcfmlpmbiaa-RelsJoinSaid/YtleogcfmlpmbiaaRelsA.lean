/- Lists of relocations, read. -/
import Derived.Test.YtleogcfmlpmbiaaStRels
import Derived.Test.YtleogcfmlpmbiaaIrRels
import Derived.Test.YtleogcfmlpmbiaaLeC
import Derived.Test.YtleogcfmlpmbiaaLeJ
namespace Go.Proofs.Ytleogcfmlpmbiaa
open Go Fw
set_option linter.unusedSimpArgs false
set_option linter.unusedVariables false

abbrev RelE : Enc S_api_Rel := S_api_RelE
/-- A list of its own, answered for good. -/
theorem Own.frzE {α : Type} {E : Enc α} {H : Heap} {v : Value} {l : List α} (h : Own E H v l) {k : Nat} (hk : E.d ≤ k) : ∃ o, lst o = l ∧ frz (k + 1) H v = some (slV E o) := by
  rcases h with ⟨rfl, rfl⟩ | ⟨b, tag, rfl, hH⟩
  · exact ⟨none, rfl, rfl⟩
  · have hlk : lk H ⟨b, 0, spotOf tag⟩ = some ⟨tag, .cells false E.u (E.cs l)⟩ := own_lk (tag := tag) (o := .cells false E.u (E.cs l)) hH
    refine ⟨some l, rfl, ?_⟩
    have h1 : pureV (k + 1) (own b tag l.length) = false := rfl
    simp only [frz, h1, cond_false]
    simp only [own, hlk, List.drop_zero, rdN_cs rfl, Option.bind_some]
    rw [mapM_pure (cs_pure' hk)]
    rfl
theorem FnV_ex {T : Tab} {f : Nat} {args : List Value} {X : Type} {P : X → Prop} {g : X → Value} (hp : args.all (pureV 6) = true) (h : Ev T f args [] fun u h => ∃ x, P x ∧ frz 8 h u = some (g x)) : ∃ x, P x ∧ FnV T f args (g x) := by
  obtain ⟨n, u, h', h1, x, hx, h2⟩ := h
  exact ⟨x, hx, hp, n, u, h', h1, h2⟩
def oneN (rela : Bool) : Nat := if rela then 24 else 16
/-- The relocation at a place. -/
def decR (rela : Bool) (l : List UInt8) (a : Nat) : S_api_Rel :=
  ⟨leN ((l.drop a).take 8), leN ((l.drop (a + 8)).take 4), leN ((l.drop (a + 12)).take 4), if rela then IntKind.i64.wrap (leN ((l.drop (a + 16)).take 8)) else 0, rela⟩
def decN (rela : Bool) (l : List UInt8) : Nat → List S_api_Rel
  | 0 => []
  | n + 1 => decN rela l n ++ [decR rela l (n * oneN rela)]
theorem decN_len (rela : Bool) (l : List UInt8) : ∀ n, (decN rela l n).length = n
  | 0 => rfl
  | n + 1 => by rw [decN, List.length_append, decN_len rela l n]; rfl
abbrev decOk (rela : Bool) (l : List UInt8) : Prop := l.length % oneN rela = 0 ∧ l.length / oneN rela ≤ 512
def decs (rela : Bool) (l : List UInt8) : List S_api_Rel := if decOk rela l then decN rela l (l.length / oneN rela) else []
def decC (rela : Bool) (l : List UInt8) : Int := if decOk rela l then 0 else 120
theorem f_rels_size {T : Tab} (h : T 53 = some F_rels_size) (rela : Bool) : FnV T 53 [.bool rela] (.int .i64 (oneN rela)) := by
  refine FnV_of rfl ?_
  rw [Ev_fn h rfl]
  cases rela <;> simp only [F_rels_size, fws, cond_true, cond_false, if_true, if_false, unV, isNil, optI, iV, stepI, evalR, reduceIte, reduceCtorEq, Nat.reduceEqDiff, Int.reduceLT, Int.reduceLE, Int.reduceToNat, Nat.reduceLT, Nat.reduceLeDiff, Int.reduceEq, Int.reduceNeg, IntKind.bits, Nat.reduceAdd, Nat.reduceMul, Nat.reducePow, Int.reducePow, ini, F_rels_sizer0_W, F_rels_sizer1_W, F_rels_sizer2_W, F_rels_sizer3_W, F_rels_sizec_W] <;> rfl
section
variable {T : Tab} (h0 : T 69 = some F_num_Sub) (h1 : T 55 = some F_num_Inside) (h2 : T 54 = some F_le_get) (h3 : T 34 = some F_le_U32) (h4 : T 35 = some F_le_U64) (l : List UInt8) (v : Value) (hv : Src byteE v l) (hp : pureV 6 v = true) (hl : l.length ≤ 20000)
include h0 h1 h2 h3 h4 hv hp hl
theorem loop_rels_Decode (rela : Bool) (n : Nat) (hn : l.length = n * oneN rela) (h512 : n ≤ 512) : ∀ (m i : Nat) (u : Value) (H : Heap) (env : Env), i + m = n → Own RelE H u (decN rela l i) → env 0 = v → env 1 = .bool rela → env 6 = .int .i64 (oneN rela) → env 7 = u → env 8 = .int .i64 (i * oneN rela : Nat) →
    W T (.loop F_rels_Decodel0) env H fun x e h => x = .exit 0 ∧ Own RelE h (e 7) (decN rela l n) := by
  have h24 : oneN rela ≤ 24 ∧ 16 ≤ oneN rela := by unfold oneN; cases rela <;> decide
  intro m
  induction m with
  | zero =>
    intro i u H env hi ho e0 e1 e6 e7 e8
    have : i = n := by omega
    subst this
    have q : ¬ (((i * oneN rela : Nat) : Int) < l.length) := by omega
    rw [w_loop]
    simp only [fws, cond_true, cond_false, if_true, if_false, unV, isNil, optI, iV, stepI, evalR, reduceIte, reduceCtorEq, Nat.reduceEqDiff, Int.reduceLT, Int.reduceLE, Int.reduceToNat, Nat.reduceLT, Nat.reduceLeDiff, Int.reduceEq, Int.reduceNeg, IntKind.bits, Nat.reduceAdd, Nat.reduceMul, Nat.reducePow, Int.reducePow, ini, fwi, F_rels_Decoder0_W, F_rels_Decoder1_W, F_rels_Decoder2_W, F_rels_Decoder2_g5, F_rels_Decoder3_W, F_rels_Decoder4_W, F_rels_Decoder5_W, F_rels_Decoder6_W, F_rels_Decoder8_W, F_rels_Decoder9_W, F_rels_Decoder10_W, F_rels_Decoder11_W, F_rels_Decoder12_W, F_rels_Decoder13_W, F_rels_Decoder14_W, F_rels_Decoder15_W, F_rels_Decoder7_W, F_rels_Decodel0_W, F_rels_Decoder16_W, F_rels_Decodec_W, e0, e1, e6, e7, e8, hv.1, q]
    exact ⟨trivial, ho⟩
  | succ m ih =>
    intro i u H env hi ho e0 e1 e6 e7 e8
    have hmul : (i + 1) * oneN rela ≤ n * oneN rela := Nat.mul_le_mul_right _ (by omega)
    have hmul2 : (i + 1) * oneN rela = i * oneN rela + oneN rela := Nat.succ_mul ..
    have hdec : decN rela l (i + 1) = decN rela l i ++ [decR rela l (i * oneN rela)] := rfl
    have hlen := decN_len rela l i
    generalize hA : i * oneN rela = A at *
    have q : ((A : Int) < l.length) := by omega
    have w0 : IntKind.u64.wrap (A : Int) = A := by rw [wrap_u64]; omega
    have w8 : IntKind.u64.wrap ((A : Int) + 8) = ((A + 8 : Nat) : Int) := by rw [wrap_u64]; omega
    have w12 : IntKind.u64.wrap ((A : Int) + 12) = ((A + 12 : Nat) : Int) := by rw [wrap_u64]; omega
    have w16 : IntKind.u64.wrap ((A : Int) + 16) = ((A + 16 : Nat) : Int) := by rw [wrap_u64]; omega
    have wn : IntKind.i64.wrap ((A : Int) + (oneN rela : Nat)) = (((i + 1) * oneN rela : Nat) : Int) := by rw [hmul2, wrapI64 (by omega) (by omega)]; rfl
    have c1 := f_le_U64 h0 h1 h2 l v hv hp (by omega) A (by omega) h4
    have c2 := f_le_U32 h0 h1 h2 l v hv hp (by omega) (A + 8) (by omega) h3
    have c3 := f_le_U32 h0 h1 h2 l v hv hp (by omega) (A + 12) (by omega) h3
    unfold getV at c1
    unfold getC at c2 c3
    rw [if_pos (by omega)] at c1 c2 c3
    cases hr : rela with
    | false =>
      subst hr
      obtain ⟨v', H', a1, a2, a3⟩ := (ho.mono [⟨0, .cells false 5 (RelE.e (decR false l A))⟩]).app (m := [decR false l A]) (n := 5) (eb := 32) (k := 1) rfl rfl (by simp; omega)
      have a1 : appV 5 32 (H ++ [⟨0, .cells false 5 [.int .u64 (leN ((l.drop A).take 8)), .int .u32 (leN ((l.drop (A + 8)).take 4)), .int .u32 (leN ((l.drop (A + 12)).take 4)), .int .i64 0, .bool false]⟩]) u [.int .u64 (leN ((l.drop A).take 8)), .int .u32 (leN ((l.drop (A + 8)).take 4)), .int .u32 (leN ((l.drop (A + 12)).take 4)), .int .i64 0, .bool false] 1 = some (v', H') := a1
      rw [w_loop]
      simp only [fws, cond_true, cond_false, if_true, if_false, unV, isNil, optI, iV, stepI, evalR, reduceIte, reduceCtorEq, Nat.reduceEqDiff, Int.reduceLT, Int.reduceLE, Int.reduceToNat, Nat.reduceLT, Nat.reduceLeDiff, Int.reduceEq, Int.reduceNeg, IntKind.bits, Nat.reduceAdd, Nat.reduceMul, Nat.reducePow, Int.reducePow, ini, fwh, lk, cellsAt, tagOf, spotOf, rdN, spl, fillL, zr, fwi, F_rels_Decoder0_W, F_rels_Decoder1_W, F_rels_Decoder2_W, F_rels_Decoder2_g5, F_rels_Decoder3_W, F_rels_Decoder4_W, F_rels_Decoder5_W, F_rels_Decoder6_W, F_rels_Decoder8_W, F_rels_Decoder9_W, F_rels_Decoder10_W, F_rels_Decoder11_W, F_rels_Decoder12_W, F_rels_Decoder13_W, F_rels_Decoder14_W, F_rels_Decoder15_W, F_rels_Decoder7_W, F_rels_Decodel0_W, F_rels_Decoder16_W, F_rels_Decodec_W, e0, e1, e6, e7, e8, hv.1, q, w0, w8, w12, w16, wn, CC_of c1, CC_of c2, CC_of c3, srcOf_immV, a1]
      refine ih (i + 1) v' H' _ (by omega) (by rw [hdec]; exact a2) ?_ ?_ ?_ ?_ ?_
      all_goals (first | (simp only [fws, cond_true, cond_false, if_true, if_false, unV, isNil, optI, iV, stepI, evalR, reduceIte, reduceCtorEq, Nat.reduceEqDiff, Int.reduceLT, Int.reduceLE, Int.reduceToNat, Nat.reduceLT, Nat.reduceLeDiff, Int.reduceEq, Int.reduceNeg, IntKind.bits, Nat.reduceAdd, Nat.reduceMul, Nat.reducePow, Int.reducePow, ini, *]; done) | (simp only [fws, cond_true, cond_false, if_true, if_false, unV, isNil, optI, iV, stepI, evalR, reduceIte, reduceCtorEq, Nat.reduceEqDiff, Int.reduceLT, Int.reduceLE, Int.reduceToNat, Nat.reduceLT, Nat.reduceLeDiff, Int.reduceEq, Int.reduceNeg, IntKind.bits, Nat.reduceAdd, Nat.reduceMul, Nat.reducePow, Int.reducePow, ini]; rfl))
    | true =>
      subst hr
      have c4 := f_le_U64 h0 h1 h2 l v hv hp (by omega) (A + 16) (by omega) h4
      unfold getV at c4
      have h24 : oneN true = 24 := rfl
      rw [if_pos (by omega)] at c4
      obtain ⟨v', H', a1, a2, a3⟩ := (ho.mono [⟨0, .cells false 5 (RelE.e (decR true l A))⟩]).app (m := [decR true l A]) (n := 5) (eb := 32) (k := 1) rfl rfl (by simp; omega)
      have a1 : appV 5 32 (H ++ [⟨0, .cells false 5 [.int .u64 (leN ((l.drop A).take 8)), .int .u32 (leN ((l.drop (A + 8)).take 4)), .int .u32 (leN ((l.drop (A + 12)).take 4)), .int .i64 (IntKind.i64.wrap (leN ((l.drop (A + 16)).take 8))), .bool true]⟩]) u [.int .u64 (leN ((l.drop A).take 8)), .int .u32 (leN ((l.drop (A + 8)).take 4)), .int .u32 (leN ((l.drop (A + 12)).take 4)), .int .i64 (IntKind.i64.wrap (leN ((l.drop (A + 16)).take 8))), .bool true] 1 = some (v', H') := a1
      rw [w_loop]
      simp only [fws, cond_true, cond_false, if_true, if_false, unV, isNil, optI, iV, stepI, evalR, reduceIte, reduceCtorEq, Nat.reduceEqDiff, Int.reduceLT, Int.reduceLE, Int.reduceToNat, Nat.reduceLT, Nat.reduceLeDiff, Int.reduceEq, Int.reduceNeg, IntKind.bits, Nat.reduceAdd, Nat.reduceMul, Nat.reducePow, Int.reducePow, ini, fwh, lk, cellsAt, tagOf, spotOf, rdN, spl, fillL, zr, fwi, F_rels_Decoder0_W, F_rels_Decoder1_W, F_rels_Decoder2_W, F_rels_Decoder2_g5, F_rels_Decoder3_W, F_rels_Decoder4_W, F_rels_Decoder5_W, F_rels_Decoder6_W, F_rels_Decoder8_W, F_rels_Decoder9_W, F_rels_Decoder10_W, F_rels_Decoder11_W, F_rels_Decoder12_W, F_rels_Decoder13_W, F_rels_Decoder14_W, F_rels_Decoder15_W, F_rels_Decoder7_W, F_rels_Decodel0_W, F_rels_Decoder16_W, F_rels_Decodec_W, e0, e1, e6, e7, e8, hv.1, q, w0, w8, w12, w16, wn, CC_of c1, CC_of c2, CC_of c3, CC_of c4, srcOf_immV, a1]
      refine ih (i + 1) v' H' _ (by omega) (by rw [hdec]; exact a2) ?_ ?_ ?_ ?_ ?_
      all_goals (first | (simp only [fws, cond_true, cond_false, if_true, if_false, unV, isNil, optI, iV, stepI, evalR, reduceIte, reduceCtorEq, Nat.reduceEqDiff, Int.reduceLT, Int.reduceLE, Int.reduceToNat, Nat.reduceLT, Nat.reduceLeDiff, Int.reduceEq, Int.reduceNeg, IntKind.bits, Nat.reduceAdd, Nat.reduceMul, Nat.reducePow, Int.reducePow, ini, *]; done) | (simp only [fws, cond_true, cond_false, if_true, if_false, unV, isNil, optI, iV, stepI, evalR, reduceIte, reduceCtorEq, Nat.reduceEqDiff, Int.reduceLT, Int.reduceLE, Int.reduceToNat, Nat.reduceLT, Nat.reduceLeDiff, Int.reduceEq, Int.reduceNeg, IntKind.bits, Nat.reduceAdd, Nat.reduceMul, Nat.reducePow, Int.reducePow, ini]; rfl))
theorem f_rels_Decode (h5 : T 53 = some F_rels_size) (h : T 30 = some F_rels_Decode) (rela : Bool) : ∃ o, lst o = decs rela l ∧ FnV T 30 [v, .bool rela] (.tuple #[slV RelE o, .int .i64 (decC rela l)]) := by
  refine FnV_ex (g := fun o => .tuple #[slV RelE o, .int .i64 (decC rela l)]) (by simp [pure_bool, hp]) ?_
  rw [Ev_fn h rfl]
  have h24 : oneN rela ≤ 24 ∧ 16 ≤ oneN rela := by unfold oneN; cases rela <;> decide
  have hmd := Nat.div_add_mod l.length (oneN rela)
  have hdl := Nat.div_le_self l.length (oneN rela)
  have hml := Nat.mod_lt l.length (show oneN rela > 0 by omega)
  have c0 := f_rels_size h5 rela
  have hne : ¬ ((oneN rela : Int) = 0) := by omega
  have t1 : (l.length : Int).tmod (oneN rela) = ((l.length % oneN rela : Nat) : Int) := by rw [tmodN (by omega)]; rfl
  have t2 : (l.length : Int).tdiv (oneN rela) = ((l.length / oneN rela : Nat) : Int) := by rw [tdivN (by omega)]; rfl
  have t3 : IntKind.i64.wrap ((l.length / oneN rela : Nat) : Int) = ((l.length / oneN rela : Nat) : Int) := by
    have hd2 := Nat.le_trans hdl hl
    generalize l.length / oneN rela = D at hd2 ⊢
    exact wrapI64 (by omega) (by omega)
  by_cases q1 : l.length % oneN rela = 0
  · have q1' : ((l.length % oneN rela : Nat) : Int) = 0 := by omega
    by_cases q2 : l.length / oneN rela ≤ 512
    · have ok : decOk rela l := ⟨q1, q2⟩
      have q2' : ¬ (512 < ((l.length / oneN rela : Nat) : Int)) := by omega
      simp only [F_rels_Decode, fws, cond_true, cond_false, if_true, if_false, unV, isNil, optI, iV, stepI, evalR, reduceIte, reduceCtorEq, Nat.reduceEqDiff, Int.reduceLT, Int.reduceLE, Int.reduceToNat, Nat.reduceLT, Nat.reduceLeDiff, Int.reduceEq, Int.reduceNeg, IntKind.bits, Nat.reduceAdd, Nat.reduceMul, Nat.reducePow, Int.reducePow, ini, fwi, F_rels_Decoder0_W, F_rels_Decoder1_W, F_rels_Decoder2_W, F_rels_Decoder2_g5, F_rels_Decoder3_W, F_rels_Decoder4_W, F_rels_Decoder5_W, F_rels_Decoder6_W, F_rels_Decoder8_W, F_rels_Decoder9_W, F_rels_Decoder10_W, F_rels_Decoder11_W, F_rels_Decoder12_W, F_rels_Decoder13_W, F_rels_Decoder14_W, F_rels_Decoder15_W, F_rels_Decoder7_W, F_rels_Decodel0_W, F_rels_Decoder16_W, F_rels_Decodec_W, CC_of c0, hv.1, hne, t1, t2, t3, q1', q2']
      have hmul : oneN rela * (l.length / oneN rela) = l.length / oneN rela * oneN rela := Nat.mul_comm ..
      refine W.mono (loop_rels_Decode h0 h1 h2 h3 h4 l v hv hp hl rela (l.length / oneN rela) (by omega) q2 (l.length / oneN rela) 0 (.slice none 0 0) _ _ (Nat.zero_add _) Own.nil ?_ ?_ ?_ ?_ ?_) fun x e h ⟨g1, g2⟩ => ?_
      · (first | (simp only [fws, cond_true, cond_false, if_true, if_false, unV, isNil, optI, iV, stepI, evalR, reduceIte, reduceCtorEq, Nat.reduceEqDiff, Int.reduceLT, Int.reduceLE, Int.reduceToNat, Nat.reduceLT, Nat.reduceLeDiff, Int.reduceEq, Int.reduceNeg, IntKind.bits, Nat.reduceAdd, Nat.reduceMul, Nat.reducePow, Int.reducePow, ini, *]; done) | (simp only [fws, cond_true, cond_false, if_true, if_false, unV, isNil, optI, iV, stepI, evalR, reduceIte, reduceCtorEq, Nat.reduceEqDiff, Int.reduceLT, Int.reduceLE, Int.reduceToNat, Nat.reduceLT, Nat.reduceLeDiff, Int.reduceEq, Int.reduceNeg, IntKind.bits, Nat.reduceAdd, Nat.reduceMul, Nat.reducePow, Int.reducePow, ini]; rfl))
      · (first | (simp only [fws, cond_true, cond_false, if_true, if_false, unV, isNil, optI, iV, stepI, evalR, reduceIte, reduceCtorEq, Nat.reduceEqDiff, Int.reduceLT, Int.reduceLE, Int.reduceToNat, Nat.reduceLT, Nat.reduceLeDiff, Int.reduceEq, Int.reduceNeg, IntKind.bits, Nat.reduceAdd, Nat.reduceMul, Nat.reducePow, Int.reducePow, ini, *]; done) | (simp only [fws, cond_true, cond_false, if_true, if_false, unV, isNil, optI, iV, stepI, evalR, reduceIte, reduceCtorEq, Nat.reduceEqDiff, Int.reduceLT, Int.reduceLE, Int.reduceToNat, Nat.reduceLT, Nat.reduceLeDiff, Int.reduceEq, Int.reduceNeg, IntKind.bits, Nat.reduceAdd, Nat.reduceMul, Nat.reducePow, Int.reducePow, ini]; rfl))
      · (first | (simp only [fws, cond_true, cond_false, if_true, if_false, unV, isNil, optI, iV, stepI, evalR, reduceIte, reduceCtorEq, Nat.reduceEqDiff, Int.reduceLT, Int.reduceLE, Int.reduceToNat, Nat.reduceLT, Nat.reduceLeDiff, Int.reduceEq, Int.reduceNeg, IntKind.bits, Nat.reduceAdd, Nat.reduceMul, Nat.reducePow, Int.reducePow, ini, *]; done) | (simp only [fws, cond_true, cond_false, if_true, if_false, unV, isNil, optI, iV, stepI, evalR, reduceIte, reduceCtorEq, Nat.reduceEqDiff, Int.reduceLT, Int.reduceLE, Int.reduceToNat, Nat.reduceLT, Nat.reduceLeDiff, Int.reduceEq, Int.reduceNeg, IntKind.bits, Nat.reduceAdd, Nat.reduceMul, Nat.reducePow, Int.reducePow, ini]; rfl))
      · (first | (simp only [fws, cond_true, cond_false, if_true, if_false, unV, isNil, optI, iV, stepI, evalR, reduceIte, reduceCtorEq, Nat.reduceEqDiff, Int.reduceLT, Int.reduceLE, Int.reduceToNat, Nat.reduceLT, Nat.reduceLeDiff, Int.reduceEq, Int.reduceNeg, IntKind.bits, Nat.reduceAdd, Nat.reduceMul, Nat.reducePow, Int.reducePow, ini, *]; done) | (simp only [fws, cond_true, cond_false, if_true, if_false, unV, isNil, optI, iV, stepI, evalR, reduceIte, reduceCtorEq, Nat.reduceEqDiff, Int.reduceLT, Int.reduceLE, Int.reduceToNat, Nat.reduceLT, Nat.reduceLeDiff, Int.reduceEq, Int.reduceNeg, IntKind.bits, Nat.reduceAdd, Nat.reduceMul, Nat.reducePow, Int.reducePow, ini]; rfl))
      · simp only [fws, cond_true, cond_false, if_true, if_false, unV, isNil, optI, iV, stepI, evalR, reduceIte, reduceCtorEq, Nat.reduceEqDiff, Int.reduceLT, Int.reduceLE, Int.reduceToNat, Nat.reduceLT, Nat.reduceLeDiff, Int.reduceEq, Int.reduceNeg, IntKind.bits, Nat.reduceAdd, Nat.reduceMul, Nat.reducePow, Int.reducePow, ini, Nat.zero_mul]
      subst g1
      simp only [fws, cond_true, cond_false, if_true, if_false, unV, isNil, optI, iV, stepI, evalR, reduceIte, reduceCtorEq, Nat.reduceEqDiff, Int.reduceLT, Int.reduceLE, Int.reduceToNat, Nat.reduceLT, Nat.reduceLeDiff, Int.reduceEq, Int.reduceNeg, IntKind.bits, Nat.reduceAdd, Nat.reduceMul, Nat.reducePow, Int.reducePow, ini, F_rels_Decoder0_W, F_rels_Decoder1_W, F_rels_Decoder2_W, F_rels_Decoder2_g5, F_rels_Decoder3_W, F_rels_Decoder4_W, F_rels_Decoder5_W, F_rels_Decoder6_W, F_rels_Decoder8_W, F_rels_Decoder9_W, F_rels_Decoder10_W, F_rels_Decoder11_W, F_rels_Decoder12_W, F_rels_Decoder13_W, F_rels_Decoder14_W, F_rels_Decoder15_W, F_rels_Decoder7_W, F_rels_Decodel0_W, F_rels_Decoder16_W, F_rels_Decodec_W]
      obtain ⟨o, p1, p2⟩ := Own.frzE g2 (k := 6) (by decide)
      refine ⟨o, by rw [p1]; unfold decs; rw [if_pos ok], ?_⟩
      unfold decC
      rw [if_pos ok]
      exact frz_t2 p2 (frz_pure rfl)
    · have ok : ¬ decOk rela l := fun h => q2 h.2
      have q2' : (512 < ((l.length / oneN rela : Nat) : Int)) := by omega
      simp only [F_rels_Decode, fws, cond_true, cond_false, if_true, if_false, unV, isNil, optI, iV, stepI, evalR, reduceIte, reduceCtorEq, Nat.reduceEqDiff, Int.reduceLT, Int.reduceLE, Int.reduceToNat, Nat.reduceLT, Nat.reduceLeDiff, Int.reduceEq, Int.reduceNeg, IntKind.bits, Nat.reduceAdd, Nat.reduceMul, Nat.reducePow, Int.reducePow, ini, fwi, F_rels_Decoder0_W, F_rels_Decoder1_W, F_rels_Decoder2_W, F_rels_Decoder2_g5, F_rels_Decoder3_W, F_rels_Decoder4_W, F_rels_Decoder5_W, F_rels_Decoder6_W, F_rels_Decoder8_W, F_rels_Decoder9_W, F_rels_Decoder10_W, F_rels_Decoder11_W, F_rels_Decoder12_W, F_rels_Decoder13_W, F_rels_Decoder14_W, F_rels_Decoder15_W, F_rels_Decoder7_W, F_rels_Decodel0_W, F_rels_Decoder16_W, F_rels_Decodec_W, CC_of c0, hv.1, hne, t1, t2, t3, q1', q2']
      exact ⟨none, by unfold decs; rw [if_neg ok]; rfl, by unfold decC; rw [if_neg ok]; rfl⟩
  · have ok : ¬ decOk rela l := fun h => q1 h.1
    have q1' : ¬ (((l.length % oneN rela : Nat) : Int) = 0) := by omega
    simp only [F_rels_Decode, fws, cond_true, cond_false, if_true, if_false, unV, isNil, optI, iV, stepI, evalR, reduceIte, reduceCtorEq, Nat.reduceEqDiff, Int.reduceLT, Int.reduceLE, Int.reduceToNat, Nat.reduceLT, Nat.reduceLeDiff, Int.reduceEq, Int.reduceNeg, IntKind.bits, Nat.reduceAdd, Nat.reduceMul, Nat.reducePow, Int.reducePow, ini, fwi, F_rels_Decoder0_W, F_rels_Decoder1_W, F_rels_Decoder2_W, F_rels_Decoder2_g5, F_rels_Decoder3_W, F_rels_Decoder4_W, F_rels_Decoder5_W, F_rels_Decoder6_W, F_rels_Decoder8_W, F_rels_Decoder9_W, F_rels_Decoder10_W, F_rels_Decoder11_W, F_rels_Decoder12_W, F_rels_Decoder13_W, F_rels_Decoder14_W, F_rels_Decoder15_W, F_rels_Decoder7_W, F_rels_Decodel0_W, F_rels_Decoder16_W, F_rels_Decodec_W, CC_of c0, hv.1, hne, t1, t2, t3, q1']
    exact ⟨none, by unfold decs; rw [if_neg ok]; rfl, by unfold decC; rw [if_neg ok]; rfl⟩
end
end Go.Proofs.Ytleogcfmlpmbiaa
