/- ConfNotes, plain: notes and blanks say nothing. -/
import Derived.Test.YtbhoaiacnoiocaaDoorDE
import Derived.Test.YtbhoaiacnoiocaaDoorIrCn
namespace Go.Proofs.YtbhoaiacnoiocaaDoor
open Go Fw
set_option linter.unusedSimpArgs false
set_option linter.unusedVariables false
set_option linter.unusedSectionVars false

def pnv (p : Pr) : List UInt8 × List UInt8 := (p.n, p.v)
def snv (x : List UInt8 × List Pr) : List UInt8 × List (List UInt8 × List UInt8) := (x.1, x.2.map pnv)
structure SameF (F G : Fm) : Prop where
  d : F.dirs.length = G.dirs.length
  s : F.secs.map snv = G.secs.map snv
def SameR : Int ⊕ Fm → Int ⊕ Fm → Prop
  | .inl a, .inl b => a = b
  | .inr F, .inr G => SameF F G
  | _, _ => False
def SameT : (Int × Int) ⊕ Fm → (Int × Int) ⊕ Fm → Prop
  | .inl a, .inl b => a.2 = b.2
  | .inr F, .inr G => SameF F G
  | _, _ => False
theorem mixP_nv {q q' p p' : Pr} (more : Bool) (h : pnv q = pnv q') (hp : pnv p = pnv p') : pnv (mixP q p more) = pnv (mixP q' p' more) := by
  cases q; cases q'; cases p; cases p'
  simp only [pnv, Prod.mk.injEq] at h hp
  obtain ⟨rfl, rfl⟩ := h
  obtain ⟨rfl, rfl⟩ := hp
  unfold mixP
  simp only []
  split <;> rfl
theorem setP_nv {p p' : Pr} (hp : pnv p = pnv p') (more : Bool) : ∀ {l l' : List Pr}, l.map pnv = l'.map pnv → (setP l p more).map pnv = (setP l' p' more).map pnv
  | [], [], _ => by simp [setP, hp]
  | [], _ :: _, h => by simp at h
  | _ :: _, [], h => by simp at h
  | q :: r, q' :: r', h => by
    simp only [List.map_cons, List.cons.injEq] at h
    have hn : q.n = q'.n := congrArg Prod.fst h.1
    have hp1 : p.n = p'.n := congrArg Prod.fst hp
    simp only [setP, hn, hp1]
    split
    · simp [mixP_nv more h.1 hp, h.2]
    · simp [h.1, setP_nv hp more h.2]
theorem SameF.len {F G : Fm} (h : SameF F G) : F.secs.length = G.secs.length := by
  have := congrArg List.length h.s
  simpa using this
theorem SameF.at {F G : Fm} (h : SameF F G) {i : Nat} (hi : i < F.secs.length) (hj : i < G.secs.length) : snv F.secs[i] = snv G.secs[i] := by
  have := congrArg (fun l => l[i]?) h.s
  simpa [hi, hj] using this
theorem prop_same {icl : List UInt8 → Bool} {F G : Fm} (h : SameF F G) (n v : List UInt8) (more : Bool) (a b : Int) : SameR (propM icl F n v more a) (propM icl G n v more b) := by
  unfold propM
  have hl := h.len
  split
  · by_cases h0 : 0 < F.secs.length
    · have h1 : 0 < G.secs.length := by omega
      rw [dif_pos h0, dif_pos h1]
      refine ⟨h.d, ?_⟩
      simp only [List.map_set]
      have e := h.at (i := F.secs.length - 1) (by omega) (by omega)
      have e' : G.secs.length - 1 = F.secs.length - 1 := by omega
      simp only [e']
      rw [h.s]
      congr 1
      have e1 := congrArg Prod.fst e
      have e2 := congrArg Prod.snd e
      simp only [snv] at e1 e2 ⊢
      rw [e1, setP_nv (p := ⟨n, v, a⟩) (p' := ⟨n, v, b⟩) rfl more e2]
    · rw [dif_neg h0, dif_neg (by omega)]
      split
      · exact ⟨by simp [h.d], h.s⟩
      · rfl
  · rfl
theorem any_same {F G : Fm} (h : SameF F G) (nm : List UInt8) : F.secs.any (fun x => decide (x.1 = nm)) = G.secs.any (fun x => decide (x.1 = nm)) := by
  have h1 : ∀ l : List (List UInt8 × List Pr), l.any (fun x => decide (x.1 = nm)) = (l.map snv).any (fun y => decide (y.1 = nm)) := fun l => by
    rw [List.any_map]; rfl
  rw [h1, h1, h.s]
theorem line_same {icl : List UInt8 → Bool} {F G : Fm} (h : SameF F G) (s : List UInt8) (a b : Int) : SameR (lineM icl F s a) (lineM icl G s b) := by
  unfold lineM
  split
  · unfold beginM
    rw [any_same h]
    split
    · split
      · split
        · rfl
        · exact ⟨h.d, by simp [h.s]⟩
      · rfl
    · rfl
  · split
    · exact prop_same h _ _ _ _ _
    · rfl
/-! ### lines -/
def wide (x : List UInt8) : List UInt8 := 32 :: (x ++ [32, 35, 32, 121])
def noteL : List UInt8 := [35, 32, 120, 32, 61, 32, 49]
def blankL : List UInt8 := [32, 9]
def widen (w : Nat → Bool) : Nat → List (List UInt8) → List (List UInt8)
  | _, [] => []
  | i, x :: r => (if w i then [noteL, blankL] else []) ++ wide x :: widen w (i + 1) r
theorem wide_ok (x : List UInt8) : (wide x).all okL = x.all okL := by
  have h1 : okL 32 = true := by decide
  have h2 : okL 35 = true := by decide
  have h3 : okL 121 = true := by decide
  simp [wide, h1, h2, h3]
theorem trimF_c (y : List UInt8) : trimF (32 :: y) = trimF y := by
  have h : isBl 32 = true := by decide
  simp [trimF, List.dropWhile_cons, h]
theorem trimF_s (y : List UInt8) : trimF (y ++ [32]) = trimF y := by
  have h : isBl 32 = true := by decide
  unfold trimF
  rw [List.dropWhile_append]
  split
  · rename_i h1
    have h2 : y.dropWhile isBl = [] := by simpa using h1
    rw [h2]
    simp [List.dropWhile_cons, h]
  · simp [List.dropWhile_cons, h]
theorem wide_bare (x : List UInt8) : bareL (wide x) = bareL x := by
  unfold bareL wide
  have h0 : ((32 : UInt8) != 35) = true := by decide
  have h1 : ((35 : UInt8) != 35) = false := by decide
  rw [List.takeWhile_cons, h0, if_pos rfl, trimF_c, List.takeWhile_append]
  split
  · rename_i h
    have h2 : x.takeWhile (· != 35) = x := (List.takeWhile_prefix _).eq_of_length h
    rw [h2]
    simp only [List.takeWhile_cons, h0, h1, if_true]
    exact trimF_s x
  · rfl
theorem skip_M {icl : List UInt8 → Bool} {x : List UInt8} {r : List (List UInt8)} {i : Nat} {F : Fm} (h1 : x.all okL = true) (h2 : bareL x = []) : parseM icl (x :: r) i F = parseM icl r (i + 1) F := by
  simp only [parseM, h1, h2, if_true]
theorem wide_same {icl : List UInt8 → Bool} {F G : Fm} (h : SameF F G) (x : List UInt8) {r r' : List (List UInt8)} {i j : Nat} (hr : ∀ F' G', SameF F' G' → SameT (parseM icl r (i + 1) F') (parseM icl r' (j + 1) G')) :
    SameT (parseM icl (x :: r) i F) (parseM icl (wide x :: r') j G) := by
  simp only [parseM, wide_ok, wide_bare]
  split
  · split
    · exact hr F G h
    · have := line_same (icl := icl) h (bareL x) ((i : Int) + 1) ((j : Int) + 1)
      cases h1 : lineM icl F (bareL x) ((i : Int) + 1) with
      | inl a =>
        cases h2 : lineM icl G (bareL x) ((j : Int) + 1) with
        | inl b => rw [h1, h2] at this; exact this
        | inr b => rw [h1, h2] at this; exact this.elim
      | inr a =>
        cases h2 : lineM icl G (bareL x) ((j : Int) + 1) with
        | inl b => rw [h1, h2] at this; exact this.elim
        | inr b => rw [h1, h2] at this; exact hr a b this
  · rfl
theorem parse_same {icl : List UInt8 → Bool} (w : Nat → Bool) : ∀ (ls : List (List UInt8)) (k i j : Nat) (F G : Fm), SameF F G → SameT (parseM icl ls i F) (parseM icl (widen w k ls) j G)
  | [], k, i, j, F, G, h => h
  | x :: r, k, i, j, F, G, h => by
    simp only [widen]
    split
    · simp only [List.cons_append, List.nil_append]
      rw [skip_M (x := noteL) (by decide) (by decide), skip_M (x := blankL) (by decide) (by decide)]
      exact wide_same h x fun F' G' h' => parse_same w r (k + 1) _ _ F' G' h'
    · exact wide_same h x fun F' G' h' => parse_same w r (k + 1) _ _ F' G' h'
/-! ### the text -/
def segT (b : Bool) (x : List UInt8) : List UInt8 := (if b then noteL ++ (10 :: (blankL ++ [10])) else []) ++ wide x
def tlT (w : Nat → Bool) : Nat → List (List UInt8) → List UInt8
  | _, [] => []
  | i, x :: r => 10 :: (segT (w i) x ++ tlT w (i + 1) r)
theorem splitF_nosep (c : UInt8) : ∀ (l : List UInt8), ∀ x ∈ splitF c l, c ∉ x
  | [], x, h => by simp [splitF] at h; simp [h]
  | a :: l, x, h => by
    have ih := splitF_nosep c l
    simp only [splitF] at h
    by_cases hc : a = c
    · rw [if_pos hc] at h
      rcases List.mem_cons.1 h with rfl | h
      · simp
      · exact ih x h
    · rw [if_neg hc] at h
      cases hs : splitF c l with
      | nil => exact absurd hs (splitF_ne c l)
      | cons y r =>
        rw [hs] at h ih
        rcases List.mem_cons.1 h with rfl | h
        · have := ih y (by simp)
          simp only [List.mem_cons, not_or]
          exact ⟨fun e => hc e.symm, this⟩
        · exact ih x (by simp [h])
theorem splitF_sum (c : UInt8) : ∀ (l : List UInt8), ((splitF c l).map List.length).sum + (splitF c l).length = l.length + 1
  | [] => rfl
  | a :: l => by
    have ih := splitF_sum c l
    simp only [splitF]
    by_cases hc : a = c
    · rw [if_pos hc]
      simp only [List.map_cons, List.sum_cons, List.length_cons, List.length_nil]
      omega
    · rw [if_neg hc]
      cases hs : splitF c l with
      | nil => exact absurd hs (splitF_ne c l)
      | cons y r =>
        rw [hs] at ih
        simp only [List.map_cons, List.sum_cons, List.length_cons] at ih ⊢
        omega
theorem wide_no {x : List UInt8} (h : (10 : UInt8) ∉ x) : (10 : UInt8) ∉ wide x := by
  simp [wide, h]
theorem split_seg {x : List UInt8} (h : (10 : UInt8) ∉ x) (b : Bool) : splitF 10 (segT b x) = (if b then [noteL, blankL] else []) ++ [wide x] := by
  cases b with
  | true =>
    have : segT true x = noteL ++ 10 :: (blankL ++ 10 :: wide x) := by simp [segT]
    rw [this, splitF_app, splitF_app, splitF_no (wide_no h), splitF_no (by decide), splitF_no (by decide)]
    rfl
  | false =>
    have : segT false x = wide x := by simp [segT]
    rw [this, splitF_no (wide_no h)]
    rfl
theorem split_text (w : Nat → Bool) : ∀ (r : List (List UInt8)) (i : Nat) (x : List UInt8) (b : Bool), (10 : UInt8) ∉ x → (∀ y ∈ r, (10 : UInt8) ∉ y) → splitF 10 (segT b x ++ tlT w i r) = (if b then [noteL, blankL] else []) ++ wide x :: widen w i r
  | [], i, x, b, h, _ => by
    simp only [tlT, List.append_nil, widen]
    exact split_seg h b
  | y :: r, i, x, b, h, hr => by
    simp only [tlT, widen]
    rw [splitF_app, split_seg h b, split_text w r (i + 1) y (w i) (hr y (by simp)) (fun z hz => hr z (by simp [hz]))]
    simp
theorem segT_len (b : Bool) (x : List UInt8) : (segT b x).length ≤ x.length + 16 := by
  cases b <;> simp [segT, wide, noteL, blankL]
theorem tlT_len (w : Nat → Bool) : ∀ (r : List (List UInt8)) (i : Nat), (tlT w i r).length ≤ r.length * 17 + (r.map List.length).sum
  | [], i => by simp [tlT]
  | x :: r, i => by
    have h1 := tlT_len w r (i + 1)
    have h2 := segT_len (w i) x
    simp only [tlT, List.length_cons, List.length_append, List.map_cons, List.sum_cons]
    omega
theorem notes_plain {icl : List UInt8 → Bool} (w : Nat → Bool) {text x : List UInt8} {r : List (List UInt8)} (hl : text.length ≤ 4000) (hs : splitF 10 text = x :: r) (hn : (x :: r).length ≤ 100) :
    (segT (w 0) x ++ tlT w 1 r).length ≤ 16000 ∧ SameT (parseT icl text) (parseT icl (segT (w 0) x ++ tlT w 1 r)) := by
  have h1 := splitF_sum 10 text
  have h2 := segT_len (w 0) x
  have h3 := tlT_len w r 1
  have h4 := splitF_nosep 10 text
  rw [hs] at h1 h4
  simp only [List.map_cons, List.sum_cons, List.length_cons] at h1 hn
  have h5 : (segT (w 0) x ++ tlT w 1 r).length ≤ 16000 := by rw [List.length_append]; omega
  refine ⟨h5, ?_⟩
  unfold parseT
  rw [if_neg (by omega), if_neg (by omega), hs, split_text w r 1 x (w 0) (h4 x (by simp)) (fun z hz => h4 z (by simp [hz]))]
  exact parse_same w (x :: r) 0 0 0 _ _ ⟨rfl, rfl⟩
/-! ### what is read -/
def nD : PRes → Nat
  | .inl _ => 0
  | .inr b => (lst b.1).length
theorem pD_len (x : PRes) (H : Heap) : lenI H 1 (pD x) = some (.int .i64 (nD x), H) := by
  cases x with
  | inl a => rfl
  | inr b => exact lenI_sl
def SecSame (a b : Sec) : Prop := a.1 = b.1 ∧ (lst a.2).map pnv = (lst b.2).map pnv
theorem notes_res {A B : (Int × Int) ⊕ Fm} (h : SameT A B) {x y : PRes} (hx : PRel A x) (hy : PRel B y) : pE x = pE y ∧ nD x = nD y ∧ nS x = nS y ∧ ∀ b b', x = .inr b → y = .inr b' → ∀ i (hi : i < (lst b.2).length) (hj : i < (lst b'.2).length), SecSame (lst b.2)[i] (lst b'.2)[i] := by
  cases A with
  | inl a =>
    cases B with
    | inr G => exact h.elim
    | inl c =>
      cases x with
      | inr b => exact hx.elim
      | inl b =>
        cases y with
        | inr b => exact hy.elim
        | inl d =>
          have hx : a = b := hx
          have hy : c = d := hy
          subst hx; subst hy
          exact ⟨h, rfl, rfl, fun b b' hb => by cases hb⟩
  | inr F =>
    cases B with
    | inl c => exact h.elim
    | inr G =>
      cases x with
      | inl b => exact hx.elim
      | inr b =>
        cases y with
        | inl b => exact hy.elim
        | inr b' =>
          obtain ⟨d1, s1⟩ := hx
          obtain ⟨d2, s2⟩ := hy
          have h : SameF F G := h
          refine ⟨rfl, ?_, ?_, ?_⟩
          · show (lst b.1).length = (lst b'.1).length
            rw [d1, d2, h.d]
          · show (lst b.2).length = (lst b'.2).length
            rw [s1.len, s2.len, h.len]
          · intro c c' e1 e2 i hi hj
            cases e1; cases e2
            have e := h.s
            rw [← s1, ← s2] at e
            have := congrArg (fun l => l[i]?) e
            simp [hi, hj, snv] at this
            exact this
end Go.Proofs.YtbhoaiacnoiocaaDoor
/- The document's Split, and the text with notes. -/
namespace Go.Proofs.YtbhoaiacnoiocaaDoor
open Go Fw
set_option linter.unusedSimpArgs false
set_option linter.unusedVariables false
set_option linter.unusedSectionVars false

theorem u8_eq {a b : UInt8} : ((a.toNat : Int) = (b.toNat : Int)) ↔ a = b := by
  constructor
  · intro h
    exact UInt8.toNat_inj.1 (by omega)
  · rintro rfl; rfl
section
variable {T : Tab}
theorem loop_rsplit (l : List UInt8) (c : UInt8) (hl : l.length ≤ 100000000) : ∀ (k i f : Nat) (xs : List (List UInt8)) (env : Env) (v : Value) (H : Heap), i + k = l.length → f ≤ i → xs.length ≤ i → c ∉ (l.drop f).take (i - f) → xs ++ splitF c (l.drop f) = splitF c l → Acc strE [] v H xs →
    env 0 = strV l → env 1 = .int .u8 c.toNat → env 5 = v → env 6 = .int .i64 f → env 7 = .int .i64 i →
    W T (.loop F_ref04_Splitl0) env H fun x e h => x = .exit 0 ∧ ∃ v, Acc strE [] v h (splitF c l) ∧ e 5 = v := by
  intro k
  induction k with
  | zero =>
    intro i f xs env v H hi hf hx hn hs ha e0 e1 e5 e6 e7
    have hil : i = l.length := by omega
    subst hil
    have q1 : ((l.length : Int) ≤ l.length) := Int.le_refl _
    have d1 : decide ((l.length : Int) = l.length) = true := decide_eq_true rfl
    have q2 : ((f : Int) ≤ l.length) := by omega
    have q3 : (0 : Int) ≤ f := by omega
    have tk : (l.drop f).take (l.length - f) = l.drop f := List.take_of_length_le (by rw [List.length_drop]; exact Nat.le_refl _)
    rw [tk] at hn
    rw [splitF_no hn] at hs
    have w2 : IntKind.i64.wrap ((l.length : Int) + 1) = ((l.length + 1 : Nat) : Int) := by rw [wrapI64 (by omega) (by omega)]; rfl
    obtain ⟨v', H', a1, a2⟩ := ha.app (m := [l.drop f]) (n := 1) (eb := 16) (k := 1) rfl rfl (by simp; omega)
    have a1 : appV 1 16 H v [strV (l.drop f)] 1 = some (v', H') := a1
    have q4 : ¬ (((l.length + 1 : Nat) : Int) ≤ l.length) := by omega
    rw [w_loop]
    simp only [fws, cond_true, cond_false, if_true, if_false, unV, isNil, optI, iV, stepI, evalR, reduceIte, reduceCtorEq, Nat.reduceEqDiff, Int.reduceLT, Int.reduceLE, Int.reduceToNat, Nat.reduceLT, Nat.reduceLeDiff, Int.reduceEq, Int.reduceNeg, IntKind.bits, Nat.reduceAdd, Nat.reduceMul, Nat.reducePow, Int.reducePow, ini, fwh, lk, cellsAt, tagOf, spotOf, rdN, spl, fillL, zr, fwi, F_ref04_Splitr0_W, F_ref04_Splitr1_W, F_ref04_Splitr2_W, F_ref04_Splitr3_W, F_ref04_Splitr4_W, F_ref04_Splitr6_W, F_ref04_Splitr6_g4, F_ref04_Splitr7_W, F_ref04_Splitr8_W, F_ref04_Splitr5_W, F_ref04_Splitl0_W, F_ref04_Splitr9_W, F_ref04_Splitc_W, e0, e1, e5, e6, e7, q1, d1, q2, q3, tk, w2, lenI_str, srcOf_immV, a1, and_self, Int.le_refl]
    rw [w_loop]
    simp only [fws, cond_true, cond_false, if_true, if_false, unV, isNil, optI, iV, stepI, evalR, reduceIte, reduceCtorEq, Nat.reduceEqDiff, Int.reduceLT, Int.reduceLE, Int.reduceToNat, Nat.reduceLT, Nat.reduceLeDiff, Int.reduceEq, Int.reduceNeg, IntKind.bits, Nat.reduceAdd, Nat.reduceMul, Nat.reducePow, Int.reducePow, ini, fwh, lk, cellsAt, tagOf, spotOf, rdN, spl, fillL, zr, fwi, F_ref04_Splitr0_W, F_ref04_Splitr1_W, F_ref04_Splitr2_W, F_ref04_Splitr3_W, F_ref04_Splitr4_W, F_ref04_Splitr6_W, F_ref04_Splitr6_g4, F_ref04_Splitr7_W, F_ref04_Splitr8_W, F_ref04_Splitr5_W, F_ref04_Splitl0_W, F_ref04_Splitr9_W, F_ref04_Splitc_W, e0, e1, e5, e6, e7, q4, lenI_str]
    exact ⟨trivial, v', by rw [← hs]; exact a2, rfl⟩
  | succ k ih =>
    intro i f xs env v H hi hf hx hn hs ha e0 e1 e5 e6 e7
    have hix : i < l.length := by omega
    have q1 : ((i : Int) ≤ l.length) := by omega
    have d1 : decide ((i : Int) = l.length) = false := decide_eq_false (by omega)
    have q2 : ((f : Int) ≤ i) := by omega
    have q3 : (0 : Int) ≤ f := by omega
    have q4 : (0 : Int) ≤ i := by omega
    have q5 : (i : Int) < l.length := by omega
    have w2 : IntKind.i64.wrap ((i : Int) + 1) = ((i + 1 : Nat) : Int) := by rw [wrapI64 (by omega) (by omega)]; rfl
    have hg : l.getD i 0 = l[i] := getD_at hix
    have hdf : l.drop f = (l.drop f).take (i - f) ++ l[i] :: l.drop (i + 1) := by
      have h1 : (l.drop f).drop (i - f) = l.drop i := by rw [List.drop_drop]; congr 1; omega
      conv => lhs; rw [← List.take_append_drop (i - f) (l.drop f), h1, List.drop_eq_getElem_cons hix]
    rw [w_loop]
    by_cases hc : l[i] = c
    · have d2 : decide (((l[i]).toNat : Int) = c.toNat) = true := decide_eq_true (u8_eq.2 hc)
      obtain ⟨v', H', a1, a2⟩ := ha.app (m := [(l.drop f).take (i - f)]) (n := 1) (eb := 16) (k := 1) rfl rfl (by simp; omega)
      have a1 : appV 1 16 H v [strV ((l.drop f).take (i - f))] 1 = some (v', H') := a1
      rw [hdf, hc, splitF_app, splitF_no hn] at hs
      simp only [fws, cond_true, cond_false, if_true, if_false, unV, isNil, optI, iV, stepI, evalR, reduceIte, reduceCtorEq, Nat.reduceEqDiff, Int.reduceLT, Int.reduceLE, Int.reduceToNat, Nat.reduceLT, Nat.reduceLeDiff, Int.reduceEq, Int.reduceNeg, IntKind.bits, Nat.reduceAdd, Nat.reduceMul, Nat.reducePow, Int.reducePow, ini, fwh, lk, cellsAt, tagOf, spotOf, rdN, spl, fillL, zr, fwi, F_ref04_Splitr0_W, F_ref04_Splitr1_W, F_ref04_Splitr2_W, F_ref04_Splitr3_W, F_ref04_Splitr4_W, F_ref04_Splitr6_W, F_ref04_Splitr6_g4, F_ref04_Splitr7_W, F_ref04_Splitr8_W, F_ref04_Splitr5_W, F_ref04_Splitl0_W, F_ref04_Splitr9_W, F_ref04_Splitc_W, e0, e1, e5, e6, e7, q1, d1, q2, q3, q4, q5, hg, d2, w2, lenI_str, srcOf_immV, a1, and_self, Int.le_refl]
      refine ih (i + 1) (i + 1) (xs ++ [(l.drop f).take (i - f)]) _ v' H' (by omega) (Nat.le_refl _) (by simp; omega) (by simp) (by rw [← hs]; simp) a2 ?_ ?_ ?_ ?_ ?_
      all_goals (first | assumption | rfl)
    · have d2 : decide (((l[i]).toNat : Int) = c.toNat) = false := decide_eq_false fun h => hc (u8_eq.1 h)
      simp only [fws, cond_true, cond_false, if_true, if_false, unV, isNil, optI, iV, stepI, evalR, reduceIte, reduceCtorEq, Nat.reduceEqDiff, Int.reduceLT, Int.reduceLE, Int.reduceToNat, Nat.reduceLT, Nat.reduceLeDiff, Int.reduceEq, Int.reduceNeg, IntKind.bits, Nat.reduceAdd, Nat.reduceMul, Nat.reducePow, Int.reducePow, ini, fwh, lk, cellsAt, tagOf, spotOf, rdN, spl, fillL, zr, fwi, F_ref04_Splitr0_W, F_ref04_Splitr1_W, F_ref04_Splitr2_W, F_ref04_Splitr3_W, F_ref04_Splitr4_W, F_ref04_Splitr6_W, F_ref04_Splitr6_g4, F_ref04_Splitr7_W, F_ref04_Splitr8_W, F_ref04_Splitr5_W, F_ref04_Splitl0_W, F_ref04_Splitr9_W, F_ref04_Splitc_W, e0, e1, e5, e6, e7, q1, d1, q2, q3, q4, q5, hg, d2, w2, lenI_str, and_self, Int.le_refl]
      refine ih (i + 1) f xs _ v H (by omega) (by omega) (by omega) ?_ hs ha ?_ ?_ ?_ ?_ ?_
      · have h2 : (l.drop f).take (i + 1 - f) = (l.drop f).take (i - f) ++ [l[i]] := by
          have h3 : i + 1 - f = (i - f) + 1 := by omega
          rw [h3, List.take_add_one]
          congr 1
          rw [List.getElem?_drop, show f + (i - f) = i by omega, List.getElem?_eq_getElem hix]
          rfl
        rw [h2, List.mem_append, List.mem_singleton, not_or]
        exact ⟨hn, fun h => hc h.symm⟩
      all_goals (first | assumption | rfl)
theorem f_rsplit (h : T 11 = some F_ref04_Split) (l : List UInt8) (hl : l.length ≤ 100000000) (c : UInt8) : FnV T 11 [strV l, .int .u8 c.toNat] (imm strE (splitF c l)) := by
  refine FnV_of rfl ?_
  rw [Ev_fn h rfl]
  simp only [F_ref04_Split, fws, cond_true, cond_false, if_true, if_false, unV, isNil, optI, iV, stepI, evalR, reduceIte, reduceCtorEq, Nat.reduceEqDiff, Int.reduceLT, Int.reduceLE, Int.reduceToNat, Nat.reduceLT, Nat.reduceLeDiff, Int.reduceEq, Int.reduceNeg, IntKind.bits, Nat.reduceAdd, Nat.reduceMul, Nat.reducePow, Int.reducePow, ini, fwh, lk, cellsAt, tagOf, spotOf, rdN, spl, fillL, zr, fwi, F_ref04_Splitr0_W, F_ref04_Splitr1_W, F_ref04_Splitr2_W, F_ref04_Splitr3_W, F_ref04_Splitr4_W, F_ref04_Splitr6_W, F_ref04_Splitr6_g4, F_ref04_Splitr7_W, F_ref04_Splitr8_W, F_ref04_Splitr5_W, F_ref04_Splitr9_W, F_ref04_Splitc_W]
  refine W.mono (loop_rsplit l c hl l.length 0 0 [] _ _ [] (Nat.zero_add _) (Nat.le_refl _) (Nat.le_refl _) (by simp) (by simp) Acc.nil ?_ ?_ ?_ ?_ ?_) fun x e h ⟨q1, v, q2, e5⟩ => ?_
  all_goals try (first | assumption | rfl)
  subst q1
  simp only [fws, cond_true, cond_false, if_true, if_false, unV, isNil, optI, iV, stepI, evalR, reduceIte, reduceCtorEq, Nat.reduceEqDiff, Int.reduceLT, Int.reduceLE, Int.reduceToNat, Nat.reduceLT, Nat.reduceLeDiff, Int.reduceEq, Int.reduceNeg, IntKind.bits, Nat.reduceAdd, Nat.reduceMul, Nat.reducePow, Int.reducePow, ini, F_ref04_Splitr0_W, F_ref04_Splitr1_W, F_ref04_Splitr2_W, F_ref04_Splitr3_W, F_ref04_Splitr4_W, F_ref04_Splitr6_W, F_ref04_Splitr6_g4, F_ref04_Splitr7_W, F_ref04_Splitr8_W, F_ref04_Splitr5_W, F_ref04_Splitl0_W, F_ref04_Splitr9_W, F_ref04_Splitc_W, e5]
  exact q2.frz (k := 7) (by decide) (splitF_ne _ _)
/-! ### the text with notes -/
/-- Which lines have a note ahead of them. -/
def wch (o : Option (List Bool)) (i : Nat) : Bool := (lst o).getD i false
/-- The text behind some lines. -/
def txT (w : Nat → Bool) (ls : List (List UInt8)) : Nat → List UInt8
  | 0 => []
  | i + 1 => txT w ls i ++ ((if 0 < i then [10] else []) ++ segT (w i) (ls.getD i []))
theorem txT_len {w : Nat → Bool} {ls : List (List UInt8)} (h : ∀ x ∈ ls, x.length ≤ 4000) : ∀ i, (txT w ls i).length ≤ i * 5000
  | 0 => Nat.zero_le _
  | i + 1 => by
    have ih := txT_len (w := w) h i
    have h1 := segT_len (w i) (ls.getD i [])
    have h2 : (ls.getD i []).length ≤ 4000 := by
      rw [List.getD_eq_getElem?_getD]
      cases hx : ls[i]? with
      | none => exact Nat.zero_le _
      | some x => exact h x (List.mem_of_getElem? hx)
    have h3 : (if 0 < i then ([10] : List UInt8) else []).length ≤ 1 := by split <;> simp
    simp only [txT, List.length_append]
    omega
theorem txT_eq (w : Nat → Bool) (ls : List (List UInt8)) : ∀ (k i : Nat), i + k = ls.length → 0 < i → txT w ls ls.length = txT w ls i ++ tlT w i (ls.drop i)
  | 0, i, h, h0 => by
    have : i = ls.length := by omega
    subst this
    rw [List.drop_length]; simp [tlT]
  | k + 1, i, h, h0 => by
    have hi : i < ls.length := by omega
    rw [txT_eq w ls k (i + 1) (by omega) (by omega), List.drop_eq_getElem_cons hi]
    simp only [txT, tlT, if_pos h0]
    have : ls.getD i [] = ls[i] := by simp [List.getD_eq_getElem?_getD, hi]
    rw [this]
    simp
theorem txT_all (w : Nat → Bool) {x : List UInt8} {r : List (List UInt8)} : txT w (x :: r) (x :: r).length = segT (w 0) x ++ tlT w 1 r := by
  rw [txT_eq w (x :: r) r.length 1 (by simp; omega) (by omega)]
  simp [txT]
end
end Go.Proofs.YtbhoaiacnoiocaaDoor
/- The text with notes is made. -/
namespace Go.Proofs.YtbhoaiacnoiocaaDoor
open Go Fw
set_option linter.unusedSimpArgs false
set_option linter.unusedVariables false
set_option linter.unusedSectionVars false

section
variable {T : Tab} {env : Env} {H : Heap}
theorem cn_A {t : List UInt8} {i : Nat} (ht : t.length ≤ 1000000) (e6 : env 6 = strV t) (e7 : env 7 = .int .i64 i) :
    W T (.seq (.reg F_law18_ConfNotesr8) (.cond (.t 35) (.reg F_law18_ConfNotesr9) .skip)) env H (Kp fun x e h => h = H ∧ x = .normal ∧ e 0 = env 0 ∧ e 1 = env 1 ∧ e 5 = env 5 ∧ e 6 = strV (t ++ if 0 < i then [10] else []) ∧ e 7 = .int .i64 i) := by
  by_cases h0 : 0 < i
  · have q : (0 : Int) < i := by omega
    have z1 : t.length + 1 ≤ 9223372036854775807 := by omega
    rw [if_pos h0]
    simp only [fws, cond_true, cond_false, if_true, if_false, unV, isNil, optI, iV, stepI, evalR, reduceIte, reduceCtorEq, Nat.reduceEqDiff, Int.reduceLT, Int.reduceLE, Int.reduceToNat, Nat.reduceLT, Nat.reduceLeDiff, Int.reduceEq, Int.reduceNeg, IntKind.bits, Nat.reduceAdd, Nat.reduceMul, Nat.reducePow, Int.reducePow, ini, fwh, lk, cellsAt, tagOf, spotOf, rdN, spl, fillL, zr, fwi, F_law18_ConfNotesr0_W, F_law18_ConfNotesr1_W, F_law18_ConfNotesr2_W, F_law18_ConfNotesr2_g3, F_law18_ConfNotesr3_W, F_law18_ConfNotesr4_W, F_law18_ConfNotesr5_W, F_law18_ConfNotesr6_W, F_law18_ConfNotesr8_W, F_law18_ConfNotesr9_W, F_law18_ConfNotesr10_W, F_law18_ConfNotesr10_g4, F_law18_ConfNotesr11_W, F_law18_ConfNotesr12_W, F_law18_ConfNotesr7_W, F_law18_ConfNotesl0_W, F_law18_ConfNotesr13_W, F_law18_ConfNotesr14_W, F_law18_ConfNotesr15_W, F_law18_ConfNotesr15_g3, F_law18_ConfNotesr15_g12, F_law18_ConfNotesr16_W, F_law18_ConfNotesr17_W, F_law18_ConfNotesr18_W, F_law18_ConfNotesr20_W, F_law18_ConfNotesr20_len, F_law18_ConfNotesr20_i6, F_law18_ConfNotesr20_i9, F_law18_ConfNotesr21_W, F_law18_ConfNotesr21_g5, F_law18_ConfNotesr22_W, F_law18_ConfNotesr23_W, F_law18_ConfNotesr24_W, F_law18_ConfNotesr26_g13, F_law18_ConfNotesr26_W, F_law18_ConfNotesr27_W, F_law18_ConfNotesr25_W, F_law18_ConfNotesl2_W, F_law18_ConfNotesr19_W, F_law18_ConfNotesl1_W, F_law18_ConfNotesr28_W, F_law18_ConfNotesc_W, e6, e7, q, z1]
    exact ⟨rfl, rfl, rfl, rfl, rfl, rfl, e7⟩
  · have q : ¬ ((0 : Int) < i) := by omega
    rw [if_neg h0, List.append_nil]
    simp only [fws, cond_true, cond_false, if_true, if_false, unV, isNil, optI, iV, stepI, evalR, reduceIte, reduceCtorEq, Nat.reduceEqDiff, Int.reduceLT, Int.reduceLE, Int.reduceToNat, Nat.reduceLT, Nat.reduceLeDiff, Int.reduceEq, Int.reduceNeg, IntKind.bits, Nat.reduceAdd, Nat.reduceMul, Nat.reducePow, Int.reducePow, ini, fwh, lk, cellsAt, tagOf, spotOf, rdN, spl, fillL, zr, fwi, F_law18_ConfNotesr0_W, F_law18_ConfNotesr1_W, F_law18_ConfNotesr2_W, F_law18_ConfNotesr2_g3, F_law18_ConfNotesr3_W, F_law18_ConfNotesr4_W, F_law18_ConfNotesr5_W, F_law18_ConfNotesr6_W, F_law18_ConfNotesr8_W, F_law18_ConfNotesr9_W, F_law18_ConfNotesr10_W, F_law18_ConfNotesr10_g4, F_law18_ConfNotesr11_W, F_law18_ConfNotesr12_W, F_law18_ConfNotesr7_W, F_law18_ConfNotesl0_W, F_law18_ConfNotesr13_W, F_law18_ConfNotesr14_W, F_law18_ConfNotesr15_W, F_law18_ConfNotesr15_g3, F_law18_ConfNotesr15_g12, F_law18_ConfNotesr16_W, F_law18_ConfNotesr17_W, F_law18_ConfNotesr18_W, F_law18_ConfNotesr20_W, F_law18_ConfNotesr20_len, F_law18_ConfNotesr20_i6, F_law18_ConfNotesr20_i9, F_law18_ConfNotesr21_W, F_law18_ConfNotesr21_g5, F_law18_ConfNotesr22_W, F_law18_ConfNotesr23_W, F_law18_ConfNotesr24_W, F_law18_ConfNotesr26_g13, F_law18_ConfNotesr26_W, F_law18_ConfNotesr27_W, F_law18_ConfNotesr25_W, F_law18_ConfNotesl2_W, F_law18_ConfNotesr19_W, F_law18_ConfNotesl1_W, F_law18_ConfNotesr28_W, F_law18_ConfNotesc_W, e6, e7, q]
    exact ⟨rfl, rfl, rfl, rfl, rfl, e6, e7⟩
theorem cn_B {t : List UInt8} {i : Nat} {o : Option (List Bool)} (ht : t.length ≤ 1000000) (hi : i ≤ 1000000) (e1 : env 1 = slV boolE o) (e6 : env 6 = strV t) (e7 : env 7 = .int .i64 i) :
    W T (.seq (.reg F_law18_ConfNotesr10) (.cond (.t 47) (.reg F_law18_ConfNotesr11) .skip)) env H (Kp fun x e h => h = H ∧ x = .normal ∧ e 0 = env 0 ∧ e 1 = env 1 ∧ e 5 = env 5 ∧ e 6 = strV (t ++ if wch o i then noteL ++ (10 :: (blankL ++ [10])) else []) ∧ e 7 = .int .i64 i) := by
  by_cases h0 : i < (lst o).length
  · have q : (i : Int) < (lst o).length := by omega
    have hx := ix_sl (E := boolE) (o := o) (n := 1) rfl h0 .i64 H
    have hld : loadI H (atI boolE (lst o) i) = some (.bool (lst o)[i], H) := by
      rw [at_cons h0]; rfl
    have hw : wch o i = (lst o)[i] := by simp [wch, List.getD_eq_getElem?_getD, h0]
    rw [hw]
    cases hb : (lst o)[i] with
    | true =>
      have z1 : t.length + 11 ≤ 9223372036854775807 := by omega
      rw [hb] at hld
      rw [if_pos rfl]
      simp only [fws, cond_true, cond_false, if_true, if_false, unV, isNil, optI, iV, stepI, evalR, reduceIte, reduceCtorEq, Nat.reduceEqDiff, Int.reduceLT, Int.reduceLE, Int.reduceToNat, Nat.reduceLT, Nat.reduceLeDiff, Int.reduceEq, Int.reduceNeg, IntKind.bits, Nat.reduceAdd, Nat.reduceMul, Nat.reducePow, Int.reducePow, ini, fwh, lk, cellsAt, tagOf, spotOf, rdN, spl, fillL, zr, fwi, F_law18_ConfNotesr0_W, F_law18_ConfNotesr1_W, F_law18_ConfNotesr2_W, F_law18_ConfNotesr2_g3, F_law18_ConfNotesr3_W, F_law18_ConfNotesr4_W, F_law18_ConfNotesr5_W, F_law18_ConfNotesr6_W, F_law18_ConfNotesr8_W, F_law18_ConfNotesr9_W, F_law18_ConfNotesr10_W, F_law18_ConfNotesr10_g4, F_law18_ConfNotesr11_W, F_law18_ConfNotesr12_W, F_law18_ConfNotesr7_W, F_law18_ConfNotesl0_W, F_law18_ConfNotesr13_W, F_law18_ConfNotesr14_W, F_law18_ConfNotesr15_W, F_law18_ConfNotesr15_g3, F_law18_ConfNotesr15_g12, F_law18_ConfNotesr16_W, F_law18_ConfNotesr17_W, F_law18_ConfNotesr18_W, F_law18_ConfNotesr20_W, F_law18_ConfNotesr20_len, F_law18_ConfNotesr20_i6, F_law18_ConfNotesr20_i9, F_law18_ConfNotesr21_W, F_law18_ConfNotesr21_g5, F_law18_ConfNotesr22_W, F_law18_ConfNotesr23_W, F_law18_ConfNotesr24_W, F_law18_ConfNotesr26_g13, F_law18_ConfNotesr26_W, F_law18_ConfNotesr27_W, F_law18_ConfNotesr25_W, F_law18_ConfNotesl2_W, F_law18_ConfNotesr19_W, F_law18_ConfNotesl1_W, F_law18_ConfNotesr28_W, F_law18_ConfNotesc_W, e1, e6, e7, q, lenI_sl, hx, hld, z1]
      exact ⟨rfl, rfl, rfl, e1.symm ▸ rfl, rfl, rfl, e7⟩
    | false =>
      rw [hb] at hld
      rw [if_neg (by decide), List.append_nil]
      simp only [fws, cond_true, cond_false, if_true, if_false, unV, isNil, optI, iV, stepI, evalR, reduceIte, reduceCtorEq, Nat.reduceEqDiff, Int.reduceLT, Int.reduceLE, Int.reduceToNat, Nat.reduceLT, Nat.reduceLeDiff, Int.reduceEq, Int.reduceNeg, IntKind.bits, Nat.reduceAdd, Nat.reduceMul, Nat.reducePow, Int.reducePow, ini, fwh, lk, cellsAt, tagOf, spotOf, rdN, spl, fillL, zr, fwi, F_law18_ConfNotesr0_W, F_law18_ConfNotesr1_W, F_law18_ConfNotesr2_W, F_law18_ConfNotesr2_g3, F_law18_ConfNotesr3_W, F_law18_ConfNotesr4_W, F_law18_ConfNotesr5_W, F_law18_ConfNotesr6_W, F_law18_ConfNotesr8_W, F_law18_ConfNotesr9_W, F_law18_ConfNotesr10_W, F_law18_ConfNotesr10_g4, F_law18_ConfNotesr11_W, F_law18_ConfNotesr12_W, F_law18_ConfNotesr7_W, F_law18_ConfNotesl0_W, F_law18_ConfNotesr13_W, F_law18_ConfNotesr14_W, F_law18_ConfNotesr15_W, F_law18_ConfNotesr15_g3, F_law18_ConfNotesr15_g12, F_law18_ConfNotesr16_W, F_law18_ConfNotesr17_W, F_law18_ConfNotesr18_W, F_law18_ConfNotesr20_W, F_law18_ConfNotesr20_len, F_law18_ConfNotesr20_i6, F_law18_ConfNotesr20_i9, F_law18_ConfNotesr21_W, F_law18_ConfNotesr21_g5, F_law18_ConfNotesr22_W, F_law18_ConfNotesr23_W, F_law18_ConfNotesr24_W, F_law18_ConfNotesr26_g13, F_law18_ConfNotesr26_W, F_law18_ConfNotesr27_W, F_law18_ConfNotesr25_W, F_law18_ConfNotesl2_W, F_law18_ConfNotesr19_W, F_law18_ConfNotesl1_W, F_law18_ConfNotesr28_W, F_law18_ConfNotesc_W, e1, e6, e7, q, lenI_sl, hx, hld]
      exact ⟨rfl, rfl, rfl, e1.symm ▸ rfl, rfl, e6, e7⟩
  · have q : ¬ ((i : Int) < (lst o).length) := by omega
    have hw : wch o i = false := by simp [wch, List.getD_eq_getElem?_getD, h0]
    rw [hw, if_neg (by decide), List.append_nil]
    simp only [fws, cond_true, cond_false, if_true, if_false, unV, isNil, optI, iV, stepI, evalR, reduceIte, reduceCtorEq, Nat.reduceEqDiff, Int.reduceLT, Int.reduceLE, Int.reduceToNat, Nat.reduceLT, Nat.reduceLeDiff, Int.reduceEq, Int.reduceNeg, IntKind.bits, Nat.reduceAdd, Nat.reduceMul, Nat.reducePow, Int.reducePow, ini, fwh, lk, cellsAt, tagOf, spotOf, rdN, spl, fillL, zr, fwi, F_law18_ConfNotesr0_W, F_law18_ConfNotesr1_W, F_law18_ConfNotesr2_W, F_law18_ConfNotesr2_g3, F_law18_ConfNotesr3_W, F_law18_ConfNotesr4_W, F_law18_ConfNotesr5_W, F_law18_ConfNotesr6_W, F_law18_ConfNotesr8_W, F_law18_ConfNotesr9_W, F_law18_ConfNotesr10_W, F_law18_ConfNotesr10_g4, F_law18_ConfNotesr11_W, F_law18_ConfNotesr12_W, F_law18_ConfNotesr7_W, F_law18_ConfNotesl0_W, F_law18_ConfNotesr13_W, F_law18_ConfNotesr14_W, F_law18_ConfNotesr15_W, F_law18_ConfNotesr15_g3, F_law18_ConfNotesr15_g12, F_law18_ConfNotesr16_W, F_law18_ConfNotesr17_W, F_law18_ConfNotesr18_W, F_law18_ConfNotesr20_W, F_law18_ConfNotesr20_len, F_law18_ConfNotesr20_i6, F_law18_ConfNotesr20_i9, F_law18_ConfNotesr21_W, F_law18_ConfNotesr21_g5, F_law18_ConfNotesr22_W, F_law18_ConfNotesr23_W, F_law18_ConfNotesr24_W, F_law18_ConfNotesr26_g13, F_law18_ConfNotesr26_W, F_law18_ConfNotesr27_W, F_law18_ConfNotesr25_W, F_law18_ConfNotesl2_W, F_law18_ConfNotesr19_W, F_law18_ConfNotesl1_W, F_law18_ConfNotesr28_W, F_law18_ConfNotesc_W, e1, e6, e7, q, lenI_sl]
    exact ⟨rfl, rfl, rfl, e1.symm ▸ rfl, rfl, e6, e7⟩
theorem cn_C {t : List UInt8} {i : Nat} {ls : List (List UInt8)} (ht : t.length ≤ 1000000) (hi : i < ls.length) (hx : (ls[i]).length ≤ 4000) (e5 : env 5 = imm strE ls) (e6 : env 6 = strV t) (e7 : env 7 = .int .i64 i) :
    W T (.reg F_law18_ConfNotesr12) env H (Kp fun x e h => h = H ∧ x = .normal ∧ e 0 = env 0 ∧ e 1 = env 1 ∧ e 5 = env 5 ∧ e 6 = strV (t ++ wide ls[i]) ∧ e 7 = .int .i64 i) := by
  have hxx := ix_at (E := strE) (l := ls) (n := 1) rfl hi .i64 H
  have hld := ld_strs hi H
  generalize ls[i] = x at *
  have z1 : 1 + x.length ≤ 9223372036854775807 := by omega
  have z2 : x.length + 1 + 4 ≤ 9223372036854775807 := by omega
  have z3 : t.length + (x.length + 4 + 1) ≤ 9223372036854775807 := by omega
  have hq : t ++ wide x = t ++ 32 :: (x ++ [32, 35, 32, 121]) := rfl
  rw [hq]
  simp only [fws, cond_true, cond_false, if_true, if_false, unV, isNil, optI, iV, stepI, evalR, reduceIte, reduceCtorEq, Nat.reduceEqDiff, Int.reduceLT, Int.reduceLE, Int.reduceToNat, Nat.reduceLT, Nat.reduceLeDiff, Int.reduceEq, Int.reduceNeg, IntKind.bits, Nat.reduceAdd, Nat.reduceMul, Nat.reducePow, Int.reducePow, ini, fwh, lk, cellsAt, tagOf, spotOf, rdN, spl, fillL, zr, fwi, F_law18_ConfNotesr0_W, F_law18_ConfNotesr1_W, F_law18_ConfNotesr2_W, F_law18_ConfNotesr2_g3, F_law18_ConfNotesr3_W, F_law18_ConfNotesr4_W, F_law18_ConfNotesr5_W, F_law18_ConfNotesr6_W, F_law18_ConfNotesr8_W, F_law18_ConfNotesr9_W, F_law18_ConfNotesr10_W, F_law18_ConfNotesr10_g4, F_law18_ConfNotesr11_W, F_law18_ConfNotesr12_W, F_law18_ConfNotesr7_W, F_law18_ConfNotesl0_W, F_law18_ConfNotesr13_W, F_law18_ConfNotesr14_W, F_law18_ConfNotesr15_W, F_law18_ConfNotesr15_g3, F_law18_ConfNotesr15_g12, F_law18_ConfNotesr16_W, F_law18_ConfNotesr17_W, F_law18_ConfNotesr18_W, F_law18_ConfNotesr20_W, F_law18_ConfNotesr20_len, F_law18_ConfNotesr20_i6, F_law18_ConfNotesr20_i9, F_law18_ConfNotesr21_W, F_law18_ConfNotesr21_g5, F_law18_ConfNotesr22_W, F_law18_ConfNotesr23_W, F_law18_ConfNotesr24_W, F_law18_ConfNotesr26_g13, F_law18_ConfNotesr26_W, F_law18_ConfNotesr27_W, F_law18_ConfNotesr25_W, F_law18_ConfNotesl2_W, F_law18_ConfNotesr19_W, F_law18_ConfNotesl1_W, F_law18_ConfNotesr28_W, F_law18_ConfNotesc_W, e5, e6, e7, hxx, hld, z1, z2, z3]
  exact ⟨rfl, rfl, rfl, rfl, e5.symm ▸ rfl, rfl, e7⟩
end
end Go.Proofs.YtbhoaiacnoiocaaDoor
/- ConfNotes' loops. -/
namespace Go.Proofs.YtbhoaiacnoiocaaDoor
open Go Fw
set_option linter.unusedSimpArgs false
set_option linter.unusedVariables false
set_option linter.unusedSectionVars false

section
variable {T : Tab}
theorem loop_text {ls : List (List UInt8)} {o : Option (List Bool)} (hn : ls.length ≤ 100) (hx : ∀ x ∈ ls, x.length ≤ 4000) : ∀ (k i : Nat) (H : Heap) (env : Env), i + k = ls.length → env 1 = slV boolE o → env 5 = imm strE ls → env 6 = strV (txT (wch o) ls i) → env 7 = .int .i64 i →
    W T (.loop F_law18_ConfNotesl0) env H (Kp fun x e h => x = .exit 0 ∧ h = H ∧ e 0 = env 0 ∧ e 6 = strV (txT (wch o) ls ls.length)) := by
  intro k
  induction k with
  | zero =>
    intro i H env hi e1 e5 e6 e7
    have : i = ls.length := by omega
    subst this
    have q : ¬ ((ls.length : Int) < ls.length) := by omega
    rw [w_loop]
    simp only [fws, cond_true, cond_false, if_true, if_false, unV, isNil, optI, iV, stepI, evalR, reduceIte, reduceCtorEq, Nat.reduceEqDiff, Int.reduceLT, Int.reduceLE, Int.reduceToNat, Nat.reduceLT, Nat.reduceLeDiff, Int.reduceEq, Int.reduceNeg, IntKind.bits, Nat.reduceAdd, Nat.reduceMul, Nat.reducePow, Int.reducePow, ini, fwi, F_law18_ConfNotesr0_W, F_law18_ConfNotesr1_W, F_law18_ConfNotesr2_W, F_law18_ConfNotesr2_g3, F_law18_ConfNotesr3_W, F_law18_ConfNotesr4_W, F_law18_ConfNotesr5_W, F_law18_ConfNotesr6_W, F_law18_ConfNotesr8_W, F_law18_ConfNotesr9_W, F_law18_ConfNotesr10_W, F_law18_ConfNotesr10_g4, F_law18_ConfNotesr11_W, F_law18_ConfNotesr12_W, F_law18_ConfNotesr7_W, F_law18_ConfNotesl0_W, F_law18_ConfNotesr13_W, F_law18_ConfNotesr14_W, F_law18_ConfNotesr15_W, F_law18_ConfNotesr15_g3, F_law18_ConfNotesr15_g12, F_law18_ConfNotesr16_W, F_law18_ConfNotesr17_W, F_law18_ConfNotesr18_W, F_law18_ConfNotesr20_W, F_law18_ConfNotesr20_len, F_law18_ConfNotesr20_i6, F_law18_ConfNotesr20_i9, F_law18_ConfNotesr21_W, F_law18_ConfNotesr21_g5, F_law18_ConfNotesr22_W, F_law18_ConfNotesr23_W, F_law18_ConfNotesr24_W, F_law18_ConfNotesr26_g13, F_law18_ConfNotesr26_W, F_law18_ConfNotesr27_W, F_law18_ConfNotesr25_W, F_law18_ConfNotesl2_W, F_law18_ConfNotesr19_W, F_law18_ConfNotesl1_W, F_law18_ConfNotesr28_W, F_law18_ConfNotesc_W, e5, e7, q]
    exact ⟨rfl, rfl, rfl, e6⟩
  | succ k ih =>
    intro i H env hi e1 e5 e6 e7
    have hix : i < ls.length := by omega
    have q : ((i : Int) < ls.length) := by omega
    have w2 : IntKind.i64.wrap ((i : Int) + 1) = ((i + 1 : Nat) : Int) := by rw [wrapI64 (by omega) (by omega)]; rfl
    have hl := txT_len (w := wch o) hx i
    have h0 : ∀ env' : Env, env' 0 = env 0 → env' 1 = slV boolE o → env' 5 = imm strE ls → env' 6 = strV (txT (wch o) ls i) → env' 7 = .int .i64 i →
        W T (.seq (.seq (.reg F_law18_ConfNotesr8) (.cond (.t 35) (.reg F_law18_ConfNotesr9) .skip)) (.seq (.seq (.reg F_law18_ConfNotesr10) (.cond (.t 47) (.reg F_law18_ConfNotesr11) .skip)) (.reg F_law18_ConfNotesr12))) env' H
          (Kp fun x e h => h = H ∧ x = .normal ∧ e 0 = env 0 ∧ e 1 = slV boolE o ∧ e 5 = imm strE ls ∧ e 6 = strV (txT (wch o) ls (i + 1)) ∧ e 7 = .int .i64 i) := fun env' v0 v1 v5 v6 v7 => by
      rw [w_seq]
      refine W.mono (cn_A (by omega) v6 v7) fun x e h ⟨r1, r2, r3, r4, r5, r6, r7⟩ => ?_
      subst r1 r2
      rw [seqQ_normal, w_seq]
      refine W.mono (cn_B (o := o) (by rw [List.length_append]; split <;> simp <;> omega) (by omega) (r4.trans v1) r6 r7) fun x e h ⟨s1, s2, s3, s4, s5, s6, s7⟩ => ?_
      subst s1 s2
      rw [seqQ_normal]
      refine W.mono (cn_C (ls := ls) (i := i) (by rw [List.length_append, List.length_append]; split <;> split <;> simp [noteL, blankL] <;> omega) hix (hx _ (List.getElem_mem hix)) (s5.trans (r5.trans v5)) s6 s7) fun x e h ⟨t1, t2, t3, t4, t5, t6, t7⟩ => ?_
      refine ⟨t1, t2, t3.trans (s3.trans (r3.trans v0)), t4.trans (s4.trans (r4.trans v1)), t5.trans (s5.trans (r5.trans v5)), ?_, t7⟩
      rw [t6]
      simp only [txT, segT]
      have : ls.getD i [] = ls[i] := by simp [List.getD_eq_getElem?_getD, hix]
      rw [this, List.append_assoc, List.append_assoc]
    rw [w_loop]
    have h1 : W T (.seq (.seq (.reg F_law18_ConfNotesr6) (.cond (.t 31) .skip (.exit 0))) (.seq (.block 1 (.seq (.seq (.reg F_law18_ConfNotesr8) (.cond (.t 35) (.reg F_law18_ConfNotesr9) .skip)) (.seq (.seq (.reg F_law18_ConfNotesr10) (.cond (.t 47) (.reg F_law18_ConfNotesr11) .skip)) (.reg F_law18_ConfNotesr12)))) (.reg F_law18_ConfNotesr7))) env H (Kp fun x e h => h = H ∧ x = .normal ∧ e 0 = env 0 ∧ e 1 = slV boolE o ∧ e 5 = imm strE ls ∧ e 6 = strV (txT (wch o) ls (i + 1)) ∧ e 7 = .int .i64 ((i + 1 : Nat) : Int)) := by
      rw [w_seq]
      have st : W T (.seq (.reg F_law18_ConfNotesr6) (.cond (.t 31) .skip (.exit 0))) env H (Kp fun x e h => h = H ∧ x = .normal ∧ e 0 = env 0 ∧ e 1 = slV boolE o ∧ e 5 = imm strE ls ∧ e 6 = strV (txT (wch o) ls i) ∧ e 7 = .int .i64 i) := by
        simp only [fws, cond_true, cond_false, if_true, if_false, unV, isNil, optI, iV, stepI, evalR, reduceIte, reduceCtorEq, Nat.reduceEqDiff, Int.reduceLT, Int.reduceLE, Int.reduceToNat, Nat.reduceLT, Nat.reduceLeDiff, Int.reduceEq, Int.reduceNeg, IntKind.bits, Nat.reduceAdd, Nat.reduceMul, Nat.reducePow, Int.reducePow, ini, fwi, F_law18_ConfNotesr0_W, F_law18_ConfNotesr1_W, F_law18_ConfNotesr2_W, F_law18_ConfNotesr2_g3, F_law18_ConfNotesr3_W, F_law18_ConfNotesr4_W, F_law18_ConfNotesr5_W, F_law18_ConfNotesr6_W, F_law18_ConfNotesr8_W, F_law18_ConfNotesr9_W, F_law18_ConfNotesr10_W, F_law18_ConfNotesr10_g4, F_law18_ConfNotesr11_W, F_law18_ConfNotesr12_W, F_law18_ConfNotesr7_W, F_law18_ConfNotesl0_W, F_law18_ConfNotesr13_W, F_law18_ConfNotesr14_W, F_law18_ConfNotesr15_W, F_law18_ConfNotesr15_g3, F_law18_ConfNotesr15_g12, F_law18_ConfNotesr16_W, F_law18_ConfNotesr17_W, F_law18_ConfNotesr18_W, F_law18_ConfNotesr20_W, F_law18_ConfNotesr20_len, F_law18_ConfNotesr20_i6, F_law18_ConfNotesr20_i9, F_law18_ConfNotesr21_W, F_law18_ConfNotesr21_g5, F_law18_ConfNotesr22_W, F_law18_ConfNotesr23_W, F_law18_ConfNotesr24_W, F_law18_ConfNotesr26_g13, F_law18_ConfNotesr26_W, F_law18_ConfNotesr27_W, F_law18_ConfNotesr25_W, F_law18_ConfNotesl2_W, F_law18_ConfNotesr19_W, F_law18_ConfNotesl1_W, F_law18_ConfNotesr28_W, F_law18_ConfNotesc_W, e5, e7, q]
        exact ⟨rfl, rfl, rfl, e1, e5, e6, e7⟩
      refine W.mono st fun x e h ⟨r1, r2, r3, r4, r5, r6, r7⟩ => ?_
      subst r1 r2
      rw [seqQ_normal, w_seq, W_block]
      refine W.mono (h0 e r3 r4 r5 r6 r7) fun x e h ⟨s1, s2, s3, s4, s5, s6, s7⟩ => ?_
      subst s1 s2
      rw [blockQ_normal, seqQ_normal]
      simp only [fws, cond_true, cond_false, if_true, if_false, unV, isNil, optI, iV, stepI, evalR, reduceIte, reduceCtorEq, Nat.reduceEqDiff, Int.reduceLT, Int.reduceLE, Int.reduceToNat, Nat.reduceLT, Nat.reduceLeDiff, Int.reduceEq, Int.reduceNeg, IntKind.bits, Nat.reduceAdd, Nat.reduceMul, Nat.reducePow, Int.reducePow, ini, F_law18_ConfNotesr0_W, F_law18_ConfNotesr1_W, F_law18_ConfNotesr2_W, F_law18_ConfNotesr2_g3, F_law18_ConfNotesr3_W, F_law18_ConfNotesr4_W, F_law18_ConfNotesr5_W, F_law18_ConfNotesr6_W, F_law18_ConfNotesr8_W, F_law18_ConfNotesr9_W, F_law18_ConfNotesr10_W, F_law18_ConfNotesr10_g4, F_law18_ConfNotesr11_W, F_law18_ConfNotesr12_W, F_law18_ConfNotesr7_W, F_law18_ConfNotesl0_W, F_law18_ConfNotesr13_W, F_law18_ConfNotesr14_W, F_law18_ConfNotesr15_W, F_law18_ConfNotesr15_g3, F_law18_ConfNotesr15_g12, F_law18_ConfNotesr16_W, F_law18_ConfNotesr17_W, F_law18_ConfNotesr18_W, F_law18_ConfNotesr20_W, F_law18_ConfNotesr20_len, F_law18_ConfNotesr20_i6, F_law18_ConfNotesr20_i9, F_law18_ConfNotesr21_W, F_law18_ConfNotesr21_g5, F_law18_ConfNotesr22_W, F_law18_ConfNotesr23_W, F_law18_ConfNotesr24_W, F_law18_ConfNotesr26_g13, F_law18_ConfNotesr26_W, F_law18_ConfNotesr27_W, F_law18_ConfNotesr25_W, F_law18_ConfNotesl2_W, F_law18_ConfNotesr19_W, F_law18_ConfNotesl1_W, F_law18_ConfNotesr28_W, F_law18_ConfNotesc_W, s7, w2]
      exact ⟨rfl, rfl, s3, s4, s5, s6, rfl⟩
    refine W.mono h1 fun x e h ⟨r1, r2, r3, r4, r5, r6, r7⟩ => ?_
    subst r1 r2
    rw [seqQ_normal]
    refine W.mono (ih (i + 1) h e (by omega) r4 r5 r6 r7) fun x e' h' ⟨s1, s2, s3, s4⟩ => ?_
    exact ⟨s1, s2, s3.trans r3, s4⟩
/-! ### what is read is held against what is read -/
abbrev ptrT (a off : Nat) : Value := .pointer (some ⟨a, off, some 0⟩)
abbrev blkS (s : Sec) : Entry := ⟨1, .cells false 2 [strV s.1, slV PrE s.2]⟩
theorem ix_pr {o : Option (List Pr)} {k : Nat} (hk : k < (lst o).length) : ∃ r, ∀ H, ixaI H 3 (slV PrE o) (.int .i64 k) = some (iptrV (strV (lst o)[k].n :: strV (lst o)[k].v :: r), H) :=
  ⟨.int .i64 (lst o)[k].l :: PrE.cs ((lst o).drop (k + 1)), fun H => by rw [ix_sl (E := PrE) (n := 3) rfl hk, at_cons hk]; rfl⟩
theorem SecSame.len {a b : Sec} (h : SecSame a b) : (lst a.2).length = (lst b.2).length := by
  have := congrArg List.length h.2
  simpa using this
theorem SecSame.at {a b : Sec} (h : SecSame a b) {k : Nat} (hk : k < (lst a.2).length) (hk' : k < (lst b.2).length) : (lst a.2)[k].n = (lst b.2)[k].n ∧ (lst a.2)[k].v = (lst b.2)[k].v := by
  have := congrArg (fun l => l[k]?) h.2
  simpa [hk, hk', pnv] using this
theorem loop_props {a b : Sec} (hs : SecSame a b) (hl : (lst a.2).length ≤ 1000000) {p p' : Nat} : ∀ (k i : Nat) (H : Heap) (env : Env), i + k = (lst a.2).length → H[p]? = some (blkS a) → H[p']? = some (blkS b) → env 15 = ptrT p 0 → env 16 = ptrT p' 0 → env 17 = .int .i64 i →
    W T (.loop F_law18_ConfNotesl2) env H (Kp fun x e h => x = .exit 4 ∧ h = H ∧ e 8 = env 8 ∧ e 11 = env 11 ∧ e 14 = env 14) := by
  have hlen := hs.len
  intro k
  induction k with
  | zero =>
    intro i H env hi g1 g2 e15 e16 e17
    have q : ¬ ((i : Int) < (lst a.2).length) := by omega
    rw [w_loop]
    simp only [fws, cond_true, cond_false, if_true, if_false, unV, isNil, optI, iV, stepI, evalR, reduceIte, reduceCtorEq, Nat.reduceEqDiff, Int.reduceLT, Int.reduceLE, Int.reduceToNat, Nat.reduceLT, Nat.reduceLeDiff, Int.reduceEq, Int.reduceNeg, IntKind.bits, Nat.reduceAdd, Nat.reduceMul, Nat.reducePow, Int.reducePow, ini, fwh, lk, cellsAt, tagOf, spotOf, rdN, spl, fillL, zr, fwi, F_law18_ConfNotesr0_W, F_law18_ConfNotesr1_W, F_law18_ConfNotesr2_W, F_law18_ConfNotesr2_g3, F_law18_ConfNotesr3_W, F_law18_ConfNotesr4_W, F_law18_ConfNotesr5_W, F_law18_ConfNotesr6_W, F_law18_ConfNotesr8_W, F_law18_ConfNotesr9_W, F_law18_ConfNotesr10_W, F_law18_ConfNotesr10_g4, F_law18_ConfNotesr11_W, F_law18_ConfNotesr12_W, F_law18_ConfNotesr7_W, F_law18_ConfNotesl0_W, F_law18_ConfNotesr13_W, F_law18_ConfNotesr14_W, F_law18_ConfNotesr15_W, F_law18_ConfNotesr15_g3, F_law18_ConfNotesr15_g12, F_law18_ConfNotesr16_W, F_law18_ConfNotesr17_W, F_law18_ConfNotesr18_W, F_law18_ConfNotesr20_W, F_law18_ConfNotesr20_len, F_law18_ConfNotesr20_i6, F_law18_ConfNotesr20_i9, F_law18_ConfNotesr21_W, F_law18_ConfNotesr21_g5, F_law18_ConfNotesr22_W, F_law18_ConfNotesr23_W, F_law18_ConfNotesr24_W, F_law18_ConfNotesr26_g13, F_law18_ConfNotesr26_W, F_law18_ConfNotesr27_W, F_law18_ConfNotesr25_W, F_law18_ConfNotesl2_W, F_law18_ConfNotesr19_W, F_law18_ConfNotesl1_W, F_law18_ConfNotesr28_W, F_law18_ConfNotesc_W, lenI_sl, e15, e16, e17, g1, q]
    exact ⟨rfl, rfl, rfl, rfl, rfl⟩
  | succ k ih =>
    intro i H env hi g1 g2 e15 e16 e17
    have hk : i < (lst a.2).length := by omega
    have hk' : i < (lst b.2).length := by omega
    have q : ((i : Int) < (lst a.2).length) := by omega
    obtain ⟨r, hx⟩ := ix_pr hk
    obtain ⟨r', hx'⟩ := ix_pr hk'
    obtain ⟨n1, n2⟩ := hs.at hk hk'
    have d0 : ∀ x : List UInt8, decide (x = x) = true := fun x => decide_eq_true rfl
    have w2 : IntKind.i64.wrap ((i : Int) + 1) = ((i + 1 : Nat) : Int) := by rw [wrapI64 (by omega) (by omega)]; rfl
    rw [n1, n2] at hx
    rw [w_loop]
    simp only [fws, cond_true, cond_false, if_true, if_false, unV, isNil, optI, iV, stepI, evalR, reduceIte, reduceCtorEq, Nat.reduceEqDiff, Int.reduceLT, Int.reduceLE, Int.reduceToNat, Nat.reduceLT, Nat.reduceLeDiff, Int.reduceEq, Int.reduceNeg, IntKind.bits, Nat.reduceAdd, Nat.reduceMul, Nat.reducePow, Int.reducePow, ini, fwh, lk, cellsAt, tagOf, spotOf, rdN, spl, fillL, zr, fwi, F_law18_ConfNotesr0_W, F_law18_ConfNotesr1_W, F_law18_ConfNotesr2_W, F_law18_ConfNotesr2_g3, F_law18_ConfNotesr3_W, F_law18_ConfNotesr4_W, F_law18_ConfNotesr5_W, F_law18_ConfNotesr6_W, F_law18_ConfNotesr8_W, F_law18_ConfNotesr9_W, F_law18_ConfNotesr10_W, F_law18_ConfNotesr10_g4, F_law18_ConfNotesr11_W, F_law18_ConfNotesr12_W, F_law18_ConfNotesr7_W, F_law18_ConfNotesl0_W, F_law18_ConfNotesr13_W, F_law18_ConfNotesr14_W, F_law18_ConfNotesr15_W, F_law18_ConfNotesr15_g3, F_law18_ConfNotesr15_g12, F_law18_ConfNotesr16_W, F_law18_ConfNotesr17_W, F_law18_ConfNotesr18_W, F_law18_ConfNotesr20_W, F_law18_ConfNotesr20_len, F_law18_ConfNotesr20_i6, F_law18_ConfNotesr20_i9, F_law18_ConfNotesr21_W, F_law18_ConfNotesr21_g5, F_law18_ConfNotesr22_W, F_law18_ConfNotesr23_W, F_law18_ConfNotesr24_W, F_law18_ConfNotesr26_g13, F_law18_ConfNotesr26_W, F_law18_ConfNotesr27_W, F_law18_ConfNotesr25_W, F_law18_ConfNotesl2_W, F_law18_ConfNotesr19_W, F_law18_ConfNotesl1_W, F_law18_ConfNotesr28_W, F_law18_ConfNotesc_W, lenI_sl, e15, e16, e17, g1, g2, q, hx, hx', d0, w2]
    refine W.mono (ih (i + 1) H _ (by omega) g1 g2 ?_ ?_ ?_) fun x e h ⟨r1, r2, r3, r4, r5⟩ => ?_
    · (first | assumption | rfl)
    · (first | assumption | rfl)
    · (first | assumption | rfl)
    · exact ⟨r1, r2, r3, r4, r5⟩
end
end Go.Proofs.YtbhoaiacnoiocaaDoor
/- ConfNotes' steps. -/
namespace Go.Proofs.YtbhoaiacnoiocaaDoor
open Go Fw
set_option linter.unusedSimpArgs false
set_option linter.unusedVariables false
set_option linter.unusedSectionVars false

section
variable {T : Tab}
theorem cn_pair {H : Heap} {env : Env} {b b' : Option (List Pr) × Option (List Sec)} {i : Nat} (hm : i < (lst b.2).length) (hm' : i < (lst b'.2).length) (g1 : H[0]? = some (blkF (.inr b))) (g2 : H[1]? = some (blkF (.inr b'))) (e8 : env 8 = ptrC 0 0) (e11 : env 11 = ptrC 1 0) (e14 : env 14 = .int .i64 i) :
    W T (.resv 2 (.dreg F_law18_ConfNotesr20 [(6, 13), (9, 13)])) env H (Kp fun x e h => x = .normal ∧ h = H ++ [blkS (lst b.2)[i], blkS (lst b'.2)[i]] ∧ e 8 = ptrC 0 0 ∧ e 11 = ptrC 1 0 ∧ e 14 = .int .i64 i ∧ e 15 = ptrT H.length 0 ∧ e 16 = ptrT (H.length + 1) 0) := by
  have x1 := fun H => ix_sl (E := SecE) (o := b.2) (n := 2) rfl hm .i64 H
  have x2 := fun H => ix_sl (E := SecE) (o := b'.2) (n := 2) rfl hm' .i64 H
  have y1 := fun H => sec_ld hm H
  have y2 := fun H => sec_ld hm' H
  have hH : 1 < H.length := (List.getElem?_eq_some_iff.1 g2).1
  have g1' : ∀ t, (H ++ t)[0]? = some (blkF (.inr b)) := fun t => by rw [List.getElem?_append_left (by omega)]; exact g1
  have g2' : ∀ t, (H ++ t)[1]? = some (blkF (.inr b')) := fun t => by rw [List.getElem?_append_left (by omega)]; exact g2
  simp only [fws, cond_true, cond_false, if_true, if_false, unV, isNil, optI, iV, stepI, evalR, reduceIte, reduceCtorEq, Nat.reduceEqDiff, Int.reduceLT, Int.reduceLE, Int.reduceToNat, Nat.reduceLT, Nat.reduceLeDiff, Int.reduceEq, Int.reduceNeg, IntKind.bits, Nat.reduceAdd, Nat.reduceMul, Nat.reducePow, Int.reducePow, ini, fwh, lk, cellsAt, tagOf, spotOf, rdN, spl, fillL, zr, fwi, F_law18_ConfNotesr0_W, F_law18_ConfNotesr1_W, F_law18_ConfNotesr2_W, F_law18_ConfNotesr2_g3, F_law18_ConfNotesr3_W, F_law18_ConfNotesr4_W, F_law18_ConfNotesr5_W, F_law18_ConfNotesr6_W, F_law18_ConfNotesr8_W, F_law18_ConfNotesr9_W, F_law18_ConfNotesr10_W, F_law18_ConfNotesr10_g4, F_law18_ConfNotesr11_W, F_law18_ConfNotesr12_W, F_law18_ConfNotesr7_W, F_law18_ConfNotesl0_W, F_law18_ConfNotesr13_W, F_law18_ConfNotesr14_W, F_law18_ConfNotesr15_W, F_law18_ConfNotesr15_g3, F_law18_ConfNotesr15_g12, F_law18_ConfNotesr16_W, F_law18_ConfNotesr17_W, F_law18_ConfNotesr18_W, F_law18_ConfNotesr20_W, F_law18_ConfNotesr20_len, F_law18_ConfNotesr20_i6, F_law18_ConfNotesr20_i9, F_law18_ConfNotesr21_W, F_law18_ConfNotesr21_g5, F_law18_ConfNotesr22_W, F_law18_ConfNotesr23_W, F_law18_ConfNotesr24_W, F_law18_ConfNotesr26_g13, F_law18_ConfNotesr26_W, F_law18_ConfNotesr27_W, F_law18_ConfNotesr25_W, F_law18_ConfNotesl2_W, F_law18_ConfNotesr19_W, F_law18_ConfNotesl1_W, F_law18_ConfNotesr28_W, F_law18_ConfNotesc_W, e8, e11, e14, g1, g2, g1', g2', pS, x1, x2, y1, y2, oneC_sl]
  refine WR_nilT rfl (by decide) ⟨fun c hc => ?_, ⟨rfl, rfl, e8, e11, e14, rfl, rfl⟩⟩
  simp only [List.mem_cons, List.not_mem_nil, or_false] at hc
  rcases hc with rfl | rfl
  · intro _
    show (stepI _ _ (.load (.t 103))).map (·.1) = (stepI _ _ (.load (.t 103))).map (·.1)
    simp only [fws, cond_true, cond_false, if_true, if_false, unV, isNil, optI, iV, stepI, evalR, reduceIte, reduceCtorEq, Nat.reduceEqDiff, Int.reduceLT, Int.reduceLE, Int.reduceToNat, Nat.reduceLT, Nat.reduceLeDiff, Int.reduceEq, Int.reduceNeg, IntKind.bits, Nat.reduceAdd, Nat.reduceMul, Nat.reducePow, Int.reducePow, ini, fwh, lk, cellsAt, tagOf, spotOf, rdN, spl, fillL, zr, fwi, g2']
  · intro _
    show (stepI _ _ (.loadN 2 (.t 106))).map (·.1) = (stepI _ _ (.loadN 2 (.t 106))).map (·.1)
    simp only [fws, cond_true, cond_false, if_true, if_false, unV, isNil, optI, iV, stepI, evalR, reduceIte, reduceCtorEq, Nat.reduceEqDiff, Int.reduceLT, Int.reduceLE, Int.reduceToNat, Nat.reduceLT, Nat.reduceLeDiff, Int.reduceEq, Int.reduceNeg, IntKind.bits, Nat.reduceAdd, Nat.reduceMul, Nat.reducePow, Int.reducePow, ini, fwi, y2]
theorem loop_secs {b b' : Option (List Pr) × Option (List Sec)} (hl : (lst b.2).length = (lst b'.2).length) (hl1 : (lst b.2).length ≤ 1000000) (hs : ∀ i (hi : i < (lst b.2).length) (hj : i < (lst b'.2).length), SecSame (lst b.2)[i] (lst b'.2)[i]) (hp : ∀ x ∈ lst b.2, (lst x.2).length ≤ 1000000) :
    ∀ (k i : Nat) (H : Heap) (env : Env), i + k = (lst b.2).length → H[0]? = some (blkF (.inr b)) → H[1]? = some (blkF (.inr b')) → env 8 = ptrC 0 0 → env 11 = ptrC 1 0 → env 14 = .int .i64 i →
    W T (.loop F_law18_ConfNotesl1) env H (Kp fun x e h => x = .exit 2) := by
  intro k
  induction k with
  | zero =>
    intro i H env hi g1 g2 e8 e11 e14
    have q : ¬ ((i : Int) < (lst b.2).length) := by omega
    rw [w_loop]
    simp only [fws, cond_true, cond_false, if_true, if_false, unV, isNil, optI, iV, stepI, evalR, reduceIte, reduceCtorEq, Nat.reduceEqDiff, Int.reduceLT, Int.reduceLE, Int.reduceToNat, Nat.reduceLT, Nat.reduceLeDiff, Int.reduceEq, Int.reduceNeg, IntKind.bits, Nat.reduceAdd, Nat.reduceMul, Nat.reducePow, Int.reducePow, ini, fwh, lk, cellsAt, tagOf, spotOf, rdN, spl, fillL, zr, fwi, F_law18_ConfNotesr0_W, F_law18_ConfNotesr1_W, F_law18_ConfNotesr2_W, F_law18_ConfNotesr2_g3, F_law18_ConfNotesr3_W, F_law18_ConfNotesr4_W, F_law18_ConfNotesr5_W, F_law18_ConfNotesr6_W, F_law18_ConfNotesr8_W, F_law18_ConfNotesr9_W, F_law18_ConfNotesr10_W, F_law18_ConfNotesr10_g4, F_law18_ConfNotesr11_W, F_law18_ConfNotesr12_W, F_law18_ConfNotesr7_W, F_law18_ConfNotesl0_W, F_law18_ConfNotesr13_W, F_law18_ConfNotesr14_W, F_law18_ConfNotesr15_W, F_law18_ConfNotesr15_g3, F_law18_ConfNotesr15_g12, F_law18_ConfNotesr16_W, F_law18_ConfNotesr17_W, F_law18_ConfNotesr18_W, F_law18_ConfNotesr20_W, F_law18_ConfNotesr20_len, F_law18_ConfNotesr20_i6, F_law18_ConfNotesr20_i9, F_law18_ConfNotesr21_W, F_law18_ConfNotesr21_g5, F_law18_ConfNotesr22_W, F_law18_ConfNotesr23_W, F_law18_ConfNotesr24_W, F_law18_ConfNotesr26_g13, F_law18_ConfNotesr26_W, F_law18_ConfNotesr27_W, F_law18_ConfNotesr25_W, F_law18_ConfNotesl2_W, F_law18_ConfNotesr19_W, F_law18_ConfNotesl1_W, F_law18_ConfNotesr28_W, F_law18_ConfNotesc_W, pS, lenI_sl, e8, e11, e14, g1, q]
    rfl
  | succ k ih =>
    intro i H env hi g1 g2 e8 e11 e14
    have hk : i < (lst b.2).length := by omega
    have hk' : i < (lst b'.2).length := by omega
    have q : ((i : Int) < (lst b.2).length) := by omega
    have w2 : IntKind.i64.wrap ((i : Int) + 1) = ((i + 1 : Nat) : Int) := by rw [wrapI64 (by omega) (by omega)]; rfl
    have hss := hs i hk hk'
    have hpl := hp _ (List.getElem_mem hk)
    have hH : 1 < H.length := (List.getElem?_eq_some_iff.1 g2).1
    have hbody : W T F_law18_ConfNotesl1 env H (Kp fun x e h => x = .normal ∧ h[0]? = some (blkF (.inr b)) ∧ h[1]? = some (blkF (.inr b')) ∧ e 8 = ptrC 0 0 ∧ e 11 = ptrC 1 0 ∧ e 14 = .int .i64 ((i + 1 : Nat) : Int)) := by
      rw [F_law18_ConfNotesl1_W, w_seq]
      have st : W T (.seq (.reg F_law18_ConfNotesr18) (.cond (.t 95) .skip (.exit 2))) env H (Kp fun x e h => x = .normal ∧ h = H ∧ e 8 = ptrC 0 0 ∧ e 11 = ptrC 1 0 ∧ e 14 = .int .i64 i) := by
        simp only [fws, cond_true, cond_false, if_true, if_false, unV, isNil, optI, iV, stepI, evalR, reduceIte, reduceCtorEq, Nat.reduceEqDiff, Int.reduceLT, Int.reduceLE, Int.reduceToNat, Nat.reduceLT, Nat.reduceLeDiff, Int.reduceEq, Int.reduceNeg, IntKind.bits, Nat.reduceAdd, Nat.reduceMul, Nat.reducePow, Int.reducePow, ini, fwh, lk, cellsAt, tagOf, spotOf, rdN, spl, fillL, zr, fwi, F_law18_ConfNotesr0_W, F_law18_ConfNotesr1_W, F_law18_ConfNotesr2_W, F_law18_ConfNotesr2_g3, F_law18_ConfNotesr3_W, F_law18_ConfNotesr4_W, F_law18_ConfNotesr5_W, F_law18_ConfNotesr6_W, F_law18_ConfNotesr8_W, F_law18_ConfNotesr9_W, F_law18_ConfNotesr10_W, F_law18_ConfNotesr10_g4, F_law18_ConfNotesr11_W, F_law18_ConfNotesr12_W, F_law18_ConfNotesr7_W, F_law18_ConfNotesl0_W, F_law18_ConfNotesr13_W, F_law18_ConfNotesr14_W, F_law18_ConfNotesr15_W, F_law18_ConfNotesr15_g3, F_law18_ConfNotesr15_g12, F_law18_ConfNotesr16_W, F_law18_ConfNotesr17_W, F_law18_ConfNotesr18_W, F_law18_ConfNotesr20_W, F_law18_ConfNotesr20_len, F_law18_ConfNotesr20_i6, F_law18_ConfNotesr20_i9, F_law18_ConfNotesr21_W, F_law18_ConfNotesr21_g5, F_law18_ConfNotesr22_W, F_law18_ConfNotesr23_W, F_law18_ConfNotesr24_W, F_law18_ConfNotesr26_g13, F_law18_ConfNotesr26_W, F_law18_ConfNotesr27_W, F_law18_ConfNotesr25_W, F_law18_ConfNotesl2_W, F_law18_ConfNotesr19_W, F_law18_ConfNotesl1_W, F_law18_ConfNotesr28_W, F_law18_ConfNotesc_W, pS, lenI_sl, e8, e11, e14, g1, q]
        exact ⟨rfl, rfl, e8, e11, e14⟩
      refine W.mono st fun x e h ⟨r1, r2, r3, r4, r5⟩ => ?_
      subst r1 r2
      rw [seqQ_normal, w_seq, W_block, w_seq]
      refine W.mono (cn_pair hk hk' g1 g2 r3 r4 r5) fun x e h' ⟨r1, r2, s3, s4, s5, s6, s7⟩ => ?_
      have g3 : h'[h.length]? = some (blkS (lst b.2)[i]) := by rw [r2]; simp
      have g4 : h'[h.length + 1]? = some (blkS (lst b'.2)[i]) := by rw [r2]; simp
      have g1' : h'[0]? = some (blkF (.inr b)) := by rw [r2, List.getElem?_append_left (by omega)]; exact g1
      have g2' : h'[1]? = some (blkF (.inr b')) := by rw [r2, List.getElem?_append_left (by omega)]; exact g2
      clear r2
      subst r1
      rw [seqQ_normal, w_seq]
      have st21 : W T (.seq (.reg F_law18_ConfNotesr21) (.cond (.t 121) (.seq (.reg F_law18_ConfNotesr22) .ret) .skip)) e h' (Kp fun x e' h'' => x = .normal ∧ h'' = h' ∧ e' 8 = ptrC 0 0 ∧ e' 11 = ptrC 1 0 ∧ e' 14 = .int .i64 i ∧ e' 15 = ptrT h.length 0 ∧ e' 16 = ptrT (h.length + 1) 0) := by
        have d0 : ∀ x : List UInt8, decide (x = x) = true := fun x => decide_eq_true rfl
        have d1 : ∀ x : Int, decide (x = x) = true := fun x => decide_eq_true rfl
        have n1 := hss.1
        have n2 := hss.len
        simp only [fws, cond_true, cond_false, if_true, if_false, unV, isNil, optI, iV, stepI, evalR, reduceIte, reduceCtorEq, Nat.reduceEqDiff, Int.reduceLT, Int.reduceLE, Int.reduceToNat, Nat.reduceLT, Nat.reduceLeDiff, Int.reduceEq, Int.reduceNeg, IntKind.bits, Nat.reduceAdd, Nat.reduceMul, Nat.reducePow, Int.reducePow, ini, fwh, lk, cellsAt, tagOf, spotOf, rdN, spl, fillL, zr, fwi, F_law18_ConfNotesr0_W, F_law18_ConfNotesr1_W, F_law18_ConfNotesr2_W, F_law18_ConfNotesr2_g3, F_law18_ConfNotesr3_W, F_law18_ConfNotesr4_W, F_law18_ConfNotesr5_W, F_law18_ConfNotesr6_W, F_law18_ConfNotesr8_W, F_law18_ConfNotesr9_W, F_law18_ConfNotesr10_W, F_law18_ConfNotesr10_g4, F_law18_ConfNotesr11_W, F_law18_ConfNotesr12_W, F_law18_ConfNotesr7_W, F_law18_ConfNotesl0_W, F_law18_ConfNotesr13_W, F_law18_ConfNotesr14_W, F_law18_ConfNotesr15_W, F_law18_ConfNotesr15_g3, F_law18_ConfNotesr15_g12, F_law18_ConfNotesr16_W, F_law18_ConfNotesr17_W, F_law18_ConfNotesr18_W, F_law18_ConfNotesr20_W, F_law18_ConfNotesr20_len, F_law18_ConfNotesr20_i6, F_law18_ConfNotesr20_i9, F_law18_ConfNotesr21_W, F_law18_ConfNotesr21_g5, F_law18_ConfNotesr22_W, F_law18_ConfNotesr23_W, F_law18_ConfNotesr24_W, F_law18_ConfNotesr26_g13, F_law18_ConfNotesr26_W, F_law18_ConfNotesr27_W, F_law18_ConfNotesr25_W, F_law18_ConfNotesl2_W, F_law18_ConfNotesr19_W, F_law18_ConfNotesl1_W, F_law18_ConfNotesr28_W, F_law18_ConfNotesc_W, s6, s7, g3, g4, lenI_sl, n1, n2, d0, d1]
        exact ⟨rfl, rfl, s3, s4, s5, s6, s7⟩
      refine W.mono st21 fun x e h'' ⟨r1, r2, s3, s4, s5, s6, s7⟩ => ?_
      subst r1 r2
      rw [seqQ_normal, w_seq]
      have st23 : W T (.reg F_law18_ConfNotesr23) e h'' (Kp fun x e' h' => x = .normal ∧ h' = h'' ∧ e' 8 = ptrC 0 0 ∧ e' 11 = ptrC 1 0 ∧ e' 14 = .int .i64 i ∧ e' 15 = ptrT h.length 0 ∧ e' 16 = ptrT (h.length + 1) 0 ∧ e' 17 = .int .i64 ((0 : Nat) : Int)) := by
        simp only [fws, cond_true, cond_false, if_true, if_false, unV, isNil, optI, iV, stepI, evalR, reduceIte, reduceCtorEq, Nat.reduceEqDiff, Int.reduceLT, Int.reduceLE, Int.reduceToNat, Nat.reduceLT, Nat.reduceLeDiff, Int.reduceEq, Int.reduceNeg, IntKind.bits, Nat.reduceAdd, Nat.reduceMul, Nat.reducePow, Int.reducePow, ini, F_law18_ConfNotesr0_W, F_law18_ConfNotesr1_W, F_law18_ConfNotesr2_W, F_law18_ConfNotesr2_g3, F_law18_ConfNotesr3_W, F_law18_ConfNotesr4_W, F_law18_ConfNotesr5_W, F_law18_ConfNotesr6_W, F_law18_ConfNotesr8_W, F_law18_ConfNotesr9_W, F_law18_ConfNotesr10_W, F_law18_ConfNotesr10_g4, F_law18_ConfNotesr11_W, F_law18_ConfNotesr12_W, F_law18_ConfNotesr7_W, F_law18_ConfNotesl0_W, F_law18_ConfNotesr13_W, F_law18_ConfNotesr14_W, F_law18_ConfNotesr15_W, F_law18_ConfNotesr15_g3, F_law18_ConfNotesr15_g12, F_law18_ConfNotesr16_W, F_law18_ConfNotesr17_W, F_law18_ConfNotesr18_W, F_law18_ConfNotesr20_W, F_law18_ConfNotesr20_len, F_law18_ConfNotesr20_i6, F_law18_ConfNotesr20_i9, F_law18_ConfNotesr21_W, F_law18_ConfNotesr21_g5, F_law18_ConfNotesr22_W, F_law18_ConfNotesr23_W, F_law18_ConfNotesr24_W, F_law18_ConfNotesr26_g13, F_law18_ConfNotesr26_W, F_law18_ConfNotesr27_W, F_law18_ConfNotesr25_W, F_law18_ConfNotesl2_W, F_law18_ConfNotesr19_W, F_law18_ConfNotesl1_W, F_law18_ConfNotesr28_W, F_law18_ConfNotesc_W]
        exact ⟨rfl, rfl, s3, s4, s5, s6, s7, rfl⟩
      refine W.mono st23 fun x e h' ⟨r1, r2, s3, s4, s5, s6, s7, s8⟩ => ?_
      subst r1 r2
      rw [seqQ_normal, W_block]
      refine W.mono (loop_props hss hpl _ 0 h' e (Nat.zero_add _) g3 g4 s6 s7 s8) fun x e' h'' ⟨r1, r2, t3, t4, t5⟩ => ?_
      subst r1 r2
      have t5' := t5.trans s5
      simp only [fws, cond_true, cond_false, if_true, if_false, unV, isNil, optI, iV, stepI, evalR, reduceIte, reduceCtorEq, Nat.reduceEqDiff, Int.reduceLT, Int.reduceLE, Int.reduceToNat, Nat.reduceLT, Nat.reduceLeDiff, Int.reduceEq, Int.reduceNeg, IntKind.bits, Nat.reduceAdd, Nat.reduceMul, Nat.reducePow, Int.reducePow, ini, F_law18_ConfNotesr0_W, F_law18_ConfNotesr1_W, F_law18_ConfNotesr2_W, F_law18_ConfNotesr2_g3, F_law18_ConfNotesr3_W, F_law18_ConfNotesr4_W, F_law18_ConfNotesr5_W, F_law18_ConfNotesr6_W, F_law18_ConfNotesr8_W, F_law18_ConfNotesr9_W, F_law18_ConfNotesr10_W, F_law18_ConfNotesr10_g4, F_law18_ConfNotesr11_W, F_law18_ConfNotesr12_W, F_law18_ConfNotesr7_W, F_law18_ConfNotesl0_W, F_law18_ConfNotesr13_W, F_law18_ConfNotesr14_W, F_law18_ConfNotesr15_W, F_law18_ConfNotesr15_g3, F_law18_ConfNotesr15_g12, F_law18_ConfNotesr16_W, F_law18_ConfNotesr17_W, F_law18_ConfNotesr18_W, F_law18_ConfNotesr20_W, F_law18_ConfNotesr20_len, F_law18_ConfNotesr20_i6, F_law18_ConfNotesr20_i9, F_law18_ConfNotesr21_W, F_law18_ConfNotesr21_g5, F_law18_ConfNotesr22_W, F_law18_ConfNotesr23_W, F_law18_ConfNotesr24_W, F_law18_ConfNotesr26_g13, F_law18_ConfNotesr26_W, F_law18_ConfNotesr27_W, F_law18_ConfNotesr25_W, F_law18_ConfNotesl2_W, F_law18_ConfNotesr19_W, F_law18_ConfNotesl1_W, F_law18_ConfNotesr28_W, F_law18_ConfNotesc_W, t5', w2]
      exact ⟨rfl, g1', g2', t3.trans s3, t4.trans s4, rfl⟩
    rw [w_loop]
    refine W.mono hbody fun x e h ⟨r1, r2, r3, r4, r5, r6⟩ => ?_
    subst r1
    rw [seqQ_normal]
    exact ih (i + 1) h e (by omega) r2 r3 r4 r5 r6
end
end Go.Proofs.YtbhoaiacnoiocaaDoor
/- ConfNotes. -/
namespace Go.Proofs.YtbhoaiacnoiocaaDoor
open Go Fw
set_option linter.unusedSimpArgs false
set_option linter.unusedVariables false
set_option linter.unusedSectionVars false

section
variable {T : Tab}
structure Law2 (T : Tab) : Prop where
  cf : CF T
  split : T 11 = some F_ref04_Split
  alive : FnV T 9 [] (.bool true)
theorem law_ConfNotes (t : Law2 T) (hlaw : T 4 = some F_law18_ConfNotes) (a : List UInt8) (o : Option (List Bool)) (hl : a.length ≤ 100000000) : Ev T 4 [strV a, slV boolE o] [] fun u h => u = .bool true := by
  have ex : ∀ l : List UInt8, ∃ b : Bool, l.length ≤ 1000000 → FnV T 34 [strV l] (.bool b) := fun l => by
    by_cases hl : l.length ≤ 1000000
    · obtain ⟨b, _, h⟩ := f_isclean t.cf.lf t.cf.pa l (by omega)
      exact ⟨b, fun _ => h⟩
    · exact ⟨true, fun h => absurd h hl⟩
  have hicl := fun l => Classical.choose_spec (ex l)
  have c0 := f_rsplit t.split a hl 10
  have c0 : FnV T 11 [strV a, .int .u8 10] (imm strE (splitF 10 a)) := c0
  have ca := t.alive
  rw [Ev_fn hlaw rfl]
  unfold F_law18_ConfNotes F_law18_ConfNotesc
  rw [w_seq]
  have st0 : W T (.reg F_law18_ConfNotesr0) (ini [strV a, slV boolE o]) [] (Kp (fun x e h => h = [] ∧ x = .normal ∧ e 0 = strV a ∧ e 1 = slV boolE o)) := by
    simp only [fws, cond_true, cond_false, if_true, if_false, unV, isNil, optI, iV, stepI, evalR, reduceIte, reduceCtorEq, Nat.reduceEqDiff, Int.reduceLT, Int.reduceLE, Int.reduceToNat, Nat.reduceLT, Nat.reduceLeDiff, Int.reduceEq, Int.reduceNeg, IntKind.bits, Nat.reduceAdd, Nat.reduceMul, Nat.reducePow, Int.reducePow, ini, fwh, lk, cellsAt, tagOf, spotOf, rdN, spl, fillL, zr, F_law18_ConfNotesr0_W, F_law18_ConfNotesr1_W, F_law18_ConfNotesr2_W, F_law18_ConfNotesr2_g3, F_law18_ConfNotesr3_W, F_law18_ConfNotesr4_W, F_law18_ConfNotesr5_W, F_law18_ConfNotesr6_W, F_law18_ConfNotesr8_W, F_law18_ConfNotesr9_W, F_law18_ConfNotesr10_W, F_law18_ConfNotesr10_g4, F_law18_ConfNotesr11_W, F_law18_ConfNotesr12_W, F_law18_ConfNotesr7_W, F_law18_ConfNotesl0_W, F_law18_ConfNotesr13_W, F_law18_ConfNotesr14_W, F_law18_ConfNotesr15_W, F_law18_ConfNotesr15_g3, F_law18_ConfNotesr15_g12, F_law18_ConfNotesr16_W, F_law18_ConfNotesr17_W, F_law18_ConfNotesr18_W, F_law18_ConfNotesr20_W, F_law18_ConfNotesr20_len, F_law18_ConfNotesr20_i6, F_law18_ConfNotesr20_i9, F_law18_ConfNotesr21_W, F_law18_ConfNotesr21_g5, F_law18_ConfNotesr22_W, F_law18_ConfNotesr23_W, F_law18_ConfNotesr24_W, F_law18_ConfNotesr26_g13, F_law18_ConfNotesr26_W, F_law18_ConfNotesr27_W, F_law18_ConfNotesr25_W, F_law18_ConfNotesl2_W, F_law18_ConfNotesr19_W, F_law18_ConfNotesl1_W, F_law18_ConfNotesr28_W, F_law18_ConfNotesc_W]
    exact ⟨rfl, rfl, rfl, rfl⟩
  refine W.mono st0 fun x e h ⟨q1, q2, e0, e1⟩ => ?_
  subst q1 q2
  rw [seqQ_normal, w_seq]
  have st1 : W T (.reg F_law18_ConfNotesr1) e [] (Kp (fun x e h => h = [] ∧ x = .normal ∧ e 0 = strV a ∧ e 1 = slV boolE o ∧ e 5 = imm strE (splitF 10 a))) := by
    simp only [fws, cond_true, cond_false, if_true, if_false, unV, isNil, optI, iV, stepI, evalR, reduceIte, reduceCtorEq, Nat.reduceEqDiff, Int.reduceLT, Int.reduceLE, Int.reduceToNat, Nat.reduceLT, Nat.reduceLeDiff, Int.reduceEq, Int.reduceNeg, IntKind.bits, Nat.reduceAdd, Nat.reduceMul, Nat.reducePow, Int.reducePow, ini, fwh, lk, cellsAt, tagOf, spotOf, rdN, spl, fillL, zr, fwi, F_law18_ConfNotesr0_W, F_law18_ConfNotesr1_W, F_law18_ConfNotesr2_W, F_law18_ConfNotesr2_g3, F_law18_ConfNotesr3_W, F_law18_ConfNotesr4_W, F_law18_ConfNotesr5_W, F_law18_ConfNotesr6_W, F_law18_ConfNotesr8_W, F_law18_ConfNotesr9_W, F_law18_ConfNotesr10_W, F_law18_ConfNotesr10_g4, F_law18_ConfNotesr11_W, F_law18_ConfNotesr12_W, F_law18_ConfNotesr7_W, F_law18_ConfNotesl0_W, F_law18_ConfNotesr13_W, F_law18_ConfNotesr14_W, F_law18_ConfNotesr15_W, F_law18_ConfNotesr15_g3, F_law18_ConfNotesr15_g12, F_law18_ConfNotesr16_W, F_law18_ConfNotesr17_W, F_law18_ConfNotesr18_W, F_law18_ConfNotesr20_W, F_law18_ConfNotesr20_len, F_law18_ConfNotesr20_i6, F_law18_ConfNotesr20_i9, F_law18_ConfNotesr21_W, F_law18_ConfNotesr21_g5, F_law18_ConfNotesr22_W, F_law18_ConfNotesr23_W, F_law18_ConfNotesr24_W, F_law18_ConfNotesr26_g13, F_law18_ConfNotesr26_W, F_law18_ConfNotesr27_W, F_law18_ConfNotesr25_W, F_law18_ConfNotesl2_W, F_law18_ConfNotesr19_W, F_law18_ConfNotesl1_W, F_law18_ConfNotesr28_W, F_law18_ConfNotesc_W, e0, CC_of c0]
    exact ⟨rfl, rfl, e0, e1, rfl⟩
  refine W.mono st1 fun x e h ⟨q1, q2, e0, e1, e5⟩ => ?_
  subst q1 q2
  rw [seqQ_normal, w_seq]
  have st2 : W T (.seq (.reg F_law18_ConfNotesr2) (.cond (.t 27) (.seq (.reg F_law18_ConfNotesr3) .ret) .skip)) e [] (Kp (fun x e h => (x = .ret ∧ e 4 = .bool true) ∨ (x = .normal ∧ h = [] ∧ e 0 = strV a ∧ e 1 = slV boolE o ∧ e 5 = imm strE (splitF 10 a) ∧ a.length ≤ 4000 ∧ (splitF 10 a).length ≤ 100))) := by
    by_cases k1 : a.length ≤ 4000
    · have q1 : ¬ ((4000 : Int) < a.length) := by omega
      by_cases k2 : (splitF 10 a).length ≤ 100
      · have q2 : ¬ ((100 : Int) < (splitF 10 a).length) := by omega
        simp only [fws, cond_true, cond_false, if_true, if_false, unV, isNil, optI, iV, stepI, evalR, reduceIte, reduceCtorEq, Nat.reduceEqDiff, Int.reduceLT, Int.reduceLE, Int.reduceToNat, Nat.reduceLT, Nat.reduceLeDiff, Int.reduceEq, Int.reduceNeg, IntKind.bits, Nat.reduceAdd, Nat.reduceMul, Nat.reducePow, Int.reducePow, ini, fwh, lk, cellsAt, tagOf, spotOf, rdN, spl, fillL, zr, fwi, F_law18_ConfNotesr0_W, F_law18_ConfNotesr1_W, F_law18_ConfNotesr2_W, F_law18_ConfNotesr2_g3, F_law18_ConfNotesr3_W, F_law18_ConfNotesr4_W, F_law18_ConfNotesr5_W, F_law18_ConfNotesr6_W, F_law18_ConfNotesr8_W, F_law18_ConfNotesr9_W, F_law18_ConfNotesr10_W, F_law18_ConfNotesr10_g4, F_law18_ConfNotesr11_W, F_law18_ConfNotesr12_W, F_law18_ConfNotesr7_W, F_law18_ConfNotesl0_W, F_law18_ConfNotesr13_W, F_law18_ConfNotesr14_W, F_law18_ConfNotesr15_W, F_law18_ConfNotesr15_g3, F_law18_ConfNotesr15_g12, F_law18_ConfNotesr16_W, F_law18_ConfNotesr17_W, F_law18_ConfNotesr18_W, F_law18_ConfNotesr20_W, F_law18_ConfNotesr20_len, F_law18_ConfNotesr20_i6, F_law18_ConfNotesr20_i9, F_law18_ConfNotesr21_W, F_law18_ConfNotesr21_g5, F_law18_ConfNotesr22_W, F_law18_ConfNotesr23_W, F_law18_ConfNotesr24_W, F_law18_ConfNotesr26_g13, F_law18_ConfNotesr26_W, F_law18_ConfNotesr27_W, F_law18_ConfNotesr25_W, F_law18_ConfNotesl2_W, F_law18_ConfNotesr19_W, F_law18_ConfNotesl1_W, F_law18_ConfNotesr28_W, F_law18_ConfNotesc_W, e0, e5, lenI_str, q1, q2]
        exact .inr ⟨rfl, rfl, e0, e1, e5, k1, k2⟩
      · have q2 : ((100 : Int) < (splitF 10 a).length) := by omega
        simp only [fws, cond_true, cond_false, if_true, if_false, unV, isNil, optI, iV, stepI, evalR, reduceIte, reduceCtorEq, Nat.reduceEqDiff, Int.reduceLT, Int.reduceLE, Int.reduceToNat, Nat.reduceLT, Nat.reduceLeDiff, Int.reduceEq, Int.reduceNeg, IntKind.bits, Nat.reduceAdd, Nat.reduceMul, Nat.reducePow, Int.reducePow, ini, fwh, lk, cellsAt, tagOf, spotOf, rdN, spl, fillL, zr, fwi, F_law18_ConfNotesr0_W, F_law18_ConfNotesr1_W, F_law18_ConfNotesr2_W, F_law18_ConfNotesr2_g3, F_law18_ConfNotesr3_W, F_law18_ConfNotesr4_W, F_law18_ConfNotesr5_W, F_law18_ConfNotesr6_W, F_law18_ConfNotesr8_W, F_law18_ConfNotesr9_W, F_law18_ConfNotesr10_W, F_law18_ConfNotesr10_g4, F_law18_ConfNotesr11_W, F_law18_ConfNotesr12_W, F_law18_ConfNotesr7_W, F_law18_ConfNotesl0_W, F_law18_ConfNotesr13_W, F_law18_ConfNotesr14_W, F_law18_ConfNotesr15_W, F_law18_ConfNotesr15_g3, F_law18_ConfNotesr15_g12, F_law18_ConfNotesr16_W, F_law18_ConfNotesr17_W, F_law18_ConfNotesr18_W, F_law18_ConfNotesr20_W, F_law18_ConfNotesr20_len, F_law18_ConfNotesr20_i6, F_law18_ConfNotesr20_i9, F_law18_ConfNotesr21_W, F_law18_ConfNotesr21_g5, F_law18_ConfNotesr22_W, F_law18_ConfNotesr23_W, F_law18_ConfNotesr24_W, F_law18_ConfNotesr26_g13, F_law18_ConfNotesr26_W, F_law18_ConfNotesr27_W, F_law18_ConfNotesr25_W, F_law18_ConfNotesl2_W, F_law18_ConfNotesr19_W, F_law18_ConfNotesl1_W, F_law18_ConfNotesr28_W, F_law18_ConfNotesc_W, e0, e5, lenI_str, q1, q2]
        exact .inl ⟨rfl, rfl⟩
    · have q1 : ((4000 : Int) < a.length) := by omega
      simp only [fws, cond_true, cond_false, if_true, if_false, unV, isNil, optI, iV, stepI, evalR, reduceIte, reduceCtorEq, Nat.reduceEqDiff, Int.reduceLT, Int.reduceLE, Int.reduceToNat, Nat.reduceLT, Nat.reduceLeDiff, Int.reduceEq, Int.reduceNeg, IntKind.bits, Nat.reduceAdd, Nat.reduceMul, Nat.reducePow, Int.reducePow, ini, fwh, lk, cellsAt, tagOf, spotOf, rdN, spl, fillL, zr, fwi, F_law18_ConfNotesr0_W, F_law18_ConfNotesr1_W, F_law18_ConfNotesr2_W, F_law18_ConfNotesr2_g3, F_law18_ConfNotesr3_W, F_law18_ConfNotesr4_W, F_law18_ConfNotesr5_W, F_law18_ConfNotesr6_W, F_law18_ConfNotesr8_W, F_law18_ConfNotesr9_W, F_law18_ConfNotesr10_W, F_law18_ConfNotesr10_g4, F_law18_ConfNotesr11_W, F_law18_ConfNotesr12_W, F_law18_ConfNotesr7_W, F_law18_ConfNotesl0_W, F_law18_ConfNotesr13_W, F_law18_ConfNotesr14_W, F_law18_ConfNotesr15_W, F_law18_ConfNotesr15_g3, F_law18_ConfNotesr15_g12, F_law18_ConfNotesr16_W, F_law18_ConfNotesr17_W, F_law18_ConfNotesr18_W, F_law18_ConfNotesr20_W, F_law18_ConfNotesr20_len, F_law18_ConfNotesr20_i6, F_law18_ConfNotesr20_i9, F_law18_ConfNotesr21_W, F_law18_ConfNotesr21_g5, F_law18_ConfNotesr22_W, F_law18_ConfNotesr23_W, F_law18_ConfNotesr24_W, F_law18_ConfNotesr26_g13, F_law18_ConfNotesr26_W, F_law18_ConfNotesr27_W, F_law18_ConfNotesr25_W, F_law18_ConfNotesl2_W, F_law18_ConfNotesr19_W, F_law18_ConfNotesl1_W, F_law18_ConfNotesr28_W, F_law18_ConfNotesc_W, e0, e5, lenI_str, q1]
      exact .inl ⟨rfl, rfl⟩
  refine W.mono st2 fun x e h hq => ?_
  rcases hq with ⟨rfl, e4⟩ | ⟨rfl, rfl, e0, e1, e5, k1, k2⟩
  · rw [seqQ_ret]
    simp only [fws, cond_true, cond_false, if_true, if_false, unV, isNil, optI, iV, stepI, evalR, reduceIte, reduceCtorEq, Nat.reduceEqDiff, Int.reduceLT, Int.reduceLE, Int.reduceToNat, Nat.reduceLT, Nat.reduceLeDiff, Int.reduceEq, Int.reduceNeg, IntKind.bits, Nat.reduceAdd, Nat.reduceMul, Nat.reducePow, Int.reducePow, ini, e4]
  rw [seqQ_normal, w_seq]
  have st4 : W T (.reg F_law18_ConfNotesr4) e [] (Kp (fun x e h => h = [] ∧ x = .normal ∧ e 0 = strV a ∧ e 1 = slV boolE o ∧ e 5 = imm strE (splitF 10 a) ∧ e 6 = strV [])) := by
    simp only [fws, cond_true, cond_false, if_true, if_false, unV, isNil, optI, iV, stepI, evalR, reduceIte, reduceCtorEq, Nat.reduceEqDiff, Int.reduceLT, Int.reduceLE, Int.reduceToNat, Nat.reduceLT, Nat.reduceLeDiff, Int.reduceEq, Int.reduceNeg, IntKind.bits, Nat.reduceAdd, Nat.reduceMul, Nat.reducePow, Int.reducePow, ini, F_law18_ConfNotesr0_W, F_law18_ConfNotesr1_W, F_law18_ConfNotesr2_W, F_law18_ConfNotesr2_g3, F_law18_ConfNotesr3_W, F_law18_ConfNotesr4_W, F_law18_ConfNotesr5_W, F_law18_ConfNotesr6_W, F_law18_ConfNotesr8_W, F_law18_ConfNotesr9_W, F_law18_ConfNotesr10_W, F_law18_ConfNotesr10_g4, F_law18_ConfNotesr11_W, F_law18_ConfNotesr12_W, F_law18_ConfNotesr7_W, F_law18_ConfNotesl0_W, F_law18_ConfNotesr13_W, F_law18_ConfNotesr14_W, F_law18_ConfNotesr15_W, F_law18_ConfNotesr15_g3, F_law18_ConfNotesr15_g12, F_law18_ConfNotesr16_W, F_law18_ConfNotesr17_W, F_law18_ConfNotesr18_W, F_law18_ConfNotesr20_W, F_law18_ConfNotesr20_len, F_law18_ConfNotesr20_i6, F_law18_ConfNotesr20_i9, F_law18_ConfNotesr21_W, F_law18_ConfNotesr21_g5, F_law18_ConfNotesr22_W, F_law18_ConfNotesr23_W, F_law18_ConfNotesr24_W, F_law18_ConfNotesr26_g13, F_law18_ConfNotesr26_W, F_law18_ConfNotesr27_W, F_law18_ConfNotesr25_W, F_law18_ConfNotesl2_W, F_law18_ConfNotesr19_W, F_law18_ConfNotesl1_W, F_law18_ConfNotesr28_W, F_law18_ConfNotesc_W]
    exact ⟨rfl, rfl, e0, e1, e5, rfl⟩
  refine W.mono st4 fun x e h ⟨q1, q2, e0, e1, e5, e6⟩ => ?_
  subst q1 q2
  rw [seqQ_normal, w_seq, w_seq]
  have st5 : W T (.reg F_law18_ConfNotesr5) e [] (Kp (fun x e h => h = [] ∧ x = .normal ∧ e 0 = strV a ∧ e 1 = slV boolE o ∧ e 5 = imm strE (splitF 10 a) ∧ e 6 = strV [] ∧ e 7 = .int .i64 ((0 : Nat) : Int))) := by
    simp only [fws, cond_true, cond_false, if_true, if_false, unV, isNil, optI, iV, stepI, evalR, reduceIte, reduceCtorEq, Nat.reduceEqDiff, Int.reduceLT, Int.reduceLE, Int.reduceToNat, Nat.reduceLT, Nat.reduceLeDiff, Int.reduceEq, Int.reduceNeg, IntKind.bits, Nat.reduceAdd, Nat.reduceMul, Nat.reducePow, Int.reducePow, ini, F_law18_ConfNotesr0_W, F_law18_ConfNotesr1_W, F_law18_ConfNotesr2_W, F_law18_ConfNotesr2_g3, F_law18_ConfNotesr3_W, F_law18_ConfNotesr4_W, F_law18_ConfNotesr5_W, F_law18_ConfNotesr6_W, F_law18_ConfNotesr8_W, F_law18_ConfNotesr9_W, F_law18_ConfNotesr10_W, F_law18_ConfNotesr10_g4, F_law18_ConfNotesr11_W, F_law18_ConfNotesr12_W, F_law18_ConfNotesr7_W, F_law18_ConfNotesl0_W, F_law18_ConfNotesr13_W, F_law18_ConfNotesr14_W, F_law18_ConfNotesr15_W, F_law18_ConfNotesr15_g3, F_law18_ConfNotesr15_g12, F_law18_ConfNotesr16_W, F_law18_ConfNotesr17_W, F_law18_ConfNotesr18_W, F_law18_ConfNotesr20_W, F_law18_ConfNotesr20_len, F_law18_ConfNotesr20_i6, F_law18_ConfNotesr20_i9, F_law18_ConfNotesr21_W, F_law18_ConfNotesr21_g5, F_law18_ConfNotesr22_W, F_law18_ConfNotesr23_W, F_law18_ConfNotesr24_W, F_law18_ConfNotesr26_g13, F_law18_ConfNotesr26_W, F_law18_ConfNotesr27_W, F_law18_ConfNotesr25_W, F_law18_ConfNotesl2_W, F_law18_ConfNotesr19_W, F_law18_ConfNotesl1_W, F_law18_ConfNotesr28_W, F_law18_ConfNotesc_W]
    exact ⟨rfl, rfl, e0, e1, e5, e6, rfl⟩
  refine W.mono st5 fun x e h ⟨q1, q2, e0, e1, e5, e6, e7⟩ => ?_
  subst q1 q2
  rw [seqQ_normal, W_block]
  refine W.mono (loop_text (o := o) k2 (fun x hx => Nat.le_trans (splitF_mem x hx) k1) _ 0 [] e (Nat.zero_add _) e1 e5 e6 e7) fun x e' h ⟨q1, q2, e0', e6⟩ => ?_
  subst q1 q2
  rw [e0] at e0'
  have hb : blockQ 0 (seqQ T (.seq (.reg F_law18_ConfNotesr13) (.seq (.reg F_law18_ConfNotesr14) (.seq (.seq (.reg F_law18_ConfNotesr15) (.cond (.t 90) (.seq (.reg F_law18_ConfNotesr16) .ret) .skip)) (.seq (.seq (.reg F_law18_ConfNotesr17) (.block 2 (.loop F_law18_ConfNotesl1))) (.seq (.reg F_law18_ConfNotesr28) .ret))))) (retQ [.tmp 4] fun u h => u = .bool true)) (.exit 0) e' [] := by
    rw [blockQ_ex, if_pos rfl, seqQ_normal, w_seq]
    -- both are read
    obtain ⟨l0, lr, hls⟩ : ∃ x r, splitF 10 a = x :: r := by
      cases hs : splitF 10 a with
      | nil => exact absurd hs (splitF_ne _ _)
      | cons x r => exact ⟨x, r, rfl⟩
    rw [hls] at e6 k2
    rw [txT_all] at e6
    obtain ⟨z0, hpl⟩ := notes_plain (icl := fun l => Classical.choose (ex l)) (wch o) k1 hls k2
    generalize segT (wch o 0) l0 ++ tlT (wch o) 1 lr = more at *
    obtain ⟨x, hx, c1⟩ := f_Parse t.cf hicl a (by omega)
    obtain ⟨y, hy, c2⟩ := f_Parse t.cf hicl more (by omega)
    obtain ⟨r1, r2, r3, r4⟩ := notes_res hpl hx hy
    rw [PV_eq] at c1 c2
    have ox1 := pD_one x
    have ox2 := pS_one x
    have oy1 := pD_one y
    have oy2 := pS_one y
    have st13 : W T (.reg F_law18_ConfNotesr13) e' [] (Kp (fun z e h => h = [blkF x] ∧ z = .normal ∧ e 6 = strV more ∧ e 8 = ptrC 0 0 ∧ e 10 = .int .i64 (pE x))) := by
      simp only [fws, cond_true, cond_false, if_true, if_false, unV, isNil, optI, iV, stepI, evalR, reduceIte, reduceCtorEq, Nat.reduceEqDiff, Int.reduceLT, Int.reduceLE, Int.reduceToNat, Nat.reduceLT, Nat.reduceLeDiff, Int.reduceEq, Int.reduceNeg, IntKind.bits, Nat.reduceAdd, Nat.reduceMul, Nat.reducePow, Int.reducePow, ini, fwh, lk, cellsAt, tagOf, spotOf, rdN, spl, fillL, zr, fwi, F_law18_ConfNotesr0_W, F_law18_ConfNotesr1_W, F_law18_ConfNotesr2_W, F_law18_ConfNotesr2_g3, F_law18_ConfNotesr3_W, F_law18_ConfNotesr4_W, F_law18_ConfNotesr5_W, F_law18_ConfNotesr6_W, F_law18_ConfNotesr8_W, F_law18_ConfNotesr9_W, F_law18_ConfNotesr10_W, F_law18_ConfNotesr10_g4, F_law18_ConfNotesr11_W, F_law18_ConfNotesr12_W, F_law18_ConfNotesr7_W, F_law18_ConfNotesl0_W, F_law18_ConfNotesr13_W, F_law18_ConfNotesr14_W, F_law18_ConfNotesr15_W, F_law18_ConfNotesr15_g3, F_law18_ConfNotesr15_g12, F_law18_ConfNotesr16_W, F_law18_ConfNotesr17_W, F_law18_ConfNotesr18_W, F_law18_ConfNotesr20_W, F_law18_ConfNotesr20_len, F_law18_ConfNotesr20_i6, F_law18_ConfNotesr20_i9, F_law18_ConfNotesr21_W, F_law18_ConfNotesr21_g5, F_law18_ConfNotesr22_W, F_law18_ConfNotesr23_W, F_law18_ConfNotesr24_W, F_law18_ConfNotesr26_g13, F_law18_ConfNotesr26_W, F_law18_ConfNotesr27_W, F_law18_ConfNotesr25_W, F_law18_ConfNotesl2_W, F_law18_ConfNotesr19_W, F_law18_ConfNotesl1_W, F_law18_ConfNotesr28_W, F_law18_ConfNotesc_W, e0', CC_of c1, ox1, ox2]
      exact ⟨rfl, rfl, e6, rfl, rfl⟩
    refine W.mono st13 fun z e h ⟨q1, q2, e6, e8, e10⟩ => ?_
    subst q1 q2
    rw [seqQ_normal, w_seq]
    have st14 : W T (.reg F_law18_ConfNotesr14) e [blkF x] (Kp (fun z e h => h = [blkF x, blkF y] ∧ z = .normal ∧ e 8 = ptrC 0 0 ∧ e 10 = .int .i64 (pE x) ∧ e 11 = ptrC 1 0 ∧ e 13 = .int .i64 (pE y))) := by
      simp only [fws, cond_true, cond_false, if_true, if_false, unV, isNil, optI, iV, stepI, evalR, reduceIte, reduceCtorEq, Nat.reduceEqDiff, Int.reduceLT, Int.reduceLE, Int.reduceToNat, Nat.reduceLT, Nat.reduceLeDiff, Int.reduceEq, Int.reduceNeg, IntKind.bits, Nat.reduceAdd, Nat.reduceMul, Nat.reducePow, Int.reducePow, ini, fwh, lk, cellsAt, tagOf, spotOf, rdN, spl, fillL, zr, fwi, F_law18_ConfNotesr0_W, F_law18_ConfNotesr1_W, F_law18_ConfNotesr2_W, F_law18_ConfNotesr2_g3, F_law18_ConfNotesr3_W, F_law18_ConfNotesr4_W, F_law18_ConfNotesr5_W, F_law18_ConfNotesr6_W, F_law18_ConfNotesr8_W, F_law18_ConfNotesr9_W, F_law18_ConfNotesr10_W, F_law18_ConfNotesr10_g4, F_law18_ConfNotesr11_W, F_law18_ConfNotesr12_W, F_law18_ConfNotesr7_W, F_law18_ConfNotesl0_W, F_law18_ConfNotesr13_W, F_law18_ConfNotesr14_W, F_law18_ConfNotesr15_W, F_law18_ConfNotesr15_g3, F_law18_ConfNotesr15_g12, F_law18_ConfNotesr16_W, F_law18_ConfNotesr17_W, F_law18_ConfNotesr18_W, F_law18_ConfNotesr20_W, F_law18_ConfNotesr20_len, F_law18_ConfNotesr20_i6, F_law18_ConfNotesr20_i9, F_law18_ConfNotesr21_W, F_law18_ConfNotesr21_g5, F_law18_ConfNotesr22_W, F_law18_ConfNotesr23_W, F_law18_ConfNotesr24_W, F_law18_ConfNotesr26_g13, F_law18_ConfNotesr26_W, F_law18_ConfNotesr27_W, F_law18_ConfNotesr25_W, F_law18_ConfNotesl2_W, F_law18_ConfNotesr19_W, F_law18_ConfNotesl1_W, F_law18_ConfNotesr28_W, F_law18_ConfNotesc_W, e6, CC_of c2, oy1, oy2]
      exact ⟨rfl, rfl, e8, e10, rfl, rfl⟩
    refine W.mono st14 fun z e h ⟨q1, q2, e8, e10, e11, e13⟩ => ?_
    subst q1 q2
    rw [seqQ_normal, w_seq]
    have g1 : ([blkF x, blkF y] : Heap)[0]? = some (blkF x) := rfl
    have g2 : ([blkF x, blkF y] : Heap)[1]? = some (blkF y) := rfl
    have l1 := pS_len x
    have l2 := pS_len y
    have l3 := pD_len x
    have l4 := pD_len y
    generalize hH : ([blkF x, blkF y] : Heap) = H at *
    have st15 : W T (.seq (.reg F_law18_ConfNotesr15) (.cond (.t 90) (.seq (.reg F_law18_ConfNotesr16) .ret) .skip)) e H (Kp (fun z e h => z = .normal ∧ h = H ∧ e 8 = ptrC 0 0 ∧ e 11 = ptrC 1 0)) := by
      have d1 : ∀ x : Int, decide (x = x) = true := fun x => decide_eq_true rfl
      simp only [fws, cond_true, cond_false, if_true, if_false, unV, isNil, optI, iV, stepI, evalR, reduceIte, reduceCtorEq, Nat.reduceEqDiff, Int.reduceLT, Int.reduceLE, Int.reduceToNat, Nat.reduceLT, Nat.reduceLeDiff, Int.reduceEq, Int.reduceNeg, IntKind.bits, Nat.reduceAdd, Nat.reduceMul, Nat.reducePow, Int.reducePow, ini, fwh, lk, cellsAt, tagOf, spotOf, rdN, spl, fillL, zr, fwi, F_law18_ConfNotesr0_W, F_law18_ConfNotesr1_W, F_law18_ConfNotesr2_W, F_law18_ConfNotesr2_g3, F_law18_ConfNotesr3_W, F_law18_ConfNotesr4_W, F_law18_ConfNotesr5_W, F_law18_ConfNotesr6_W, F_law18_ConfNotesr8_W, F_law18_ConfNotesr9_W, F_law18_ConfNotesr10_W, F_law18_ConfNotesr10_g4, F_law18_ConfNotesr11_W, F_law18_ConfNotesr12_W, F_law18_ConfNotesr7_W, F_law18_ConfNotesl0_W, F_law18_ConfNotesr13_W, F_law18_ConfNotesr14_W, F_law18_ConfNotesr15_W, F_law18_ConfNotesr15_g3, F_law18_ConfNotesr15_g12, F_law18_ConfNotesr16_W, F_law18_ConfNotesr17_W, F_law18_ConfNotesr18_W, F_law18_ConfNotesr20_W, F_law18_ConfNotesr20_len, F_law18_ConfNotesr20_i6, F_law18_ConfNotesr20_i9, F_law18_ConfNotesr21_W, F_law18_ConfNotesr21_g5, F_law18_ConfNotesr22_W, F_law18_ConfNotesr23_W, F_law18_ConfNotesr24_W, F_law18_ConfNotesr26_g13, F_law18_ConfNotesr26_W, F_law18_ConfNotesr27_W, F_law18_ConfNotesr25_W, F_law18_ConfNotesl2_W, F_law18_ConfNotesr19_W, F_law18_ConfNotesl1_W, F_law18_ConfNotesr28_W, F_law18_ConfNotesc_W, e8, e10, e11, e13, g1, g2, l1, l2, l3, l4, r1, r2, r3, d1]
      exact ⟨rfl, rfl, e8, e11⟩
    refine W.mono st15 fun z e h ⟨q1, q2, e8, e11⟩ => ?_
    subst q1 q2
    rw [seqQ_normal, w_seq, w_seq]
    have st17 : W T (.reg F_law18_ConfNotesr17) e h (Kp (fun z e h' => z = .normal ∧ h' = h ∧ e 8 = ptrC 0 0 ∧ e 11 = ptrC 1 0 ∧ e 14 = .int .i64 ((0 : Nat) : Int))) := by
      simp only [fws, cond_true, cond_false, if_true, if_false, unV, isNil, optI, iV, stepI, evalR, reduceIte, reduceCtorEq, Nat.reduceEqDiff, Int.reduceLT, Int.reduceLE, Int.reduceToNat, Nat.reduceLT, Nat.reduceLeDiff, Int.reduceEq, Int.reduceNeg, IntKind.bits, Nat.reduceAdd, Nat.reduceMul, Nat.reducePow, Int.reducePow, ini, F_law18_ConfNotesr0_W, F_law18_ConfNotesr1_W, F_law18_ConfNotesr2_W, F_law18_ConfNotesr2_g3, F_law18_ConfNotesr3_W, F_law18_ConfNotesr4_W, F_law18_ConfNotesr5_W, F_law18_ConfNotesr6_W, F_law18_ConfNotesr8_W, F_law18_ConfNotesr9_W, F_law18_ConfNotesr10_W, F_law18_ConfNotesr10_g4, F_law18_ConfNotesr11_W, F_law18_ConfNotesr12_W, F_law18_ConfNotesr7_W, F_law18_ConfNotesl0_W, F_law18_ConfNotesr13_W, F_law18_ConfNotesr14_W, F_law18_ConfNotesr15_W, F_law18_ConfNotesr15_g3, F_law18_ConfNotesr15_g12, F_law18_ConfNotesr16_W, F_law18_ConfNotesr17_W, F_law18_ConfNotesr18_W, F_law18_ConfNotesr20_W, F_law18_ConfNotesr20_len, F_law18_ConfNotesr20_i6, F_law18_ConfNotesr20_i9, F_law18_ConfNotesr21_W, F_law18_ConfNotesr21_g5, F_law18_ConfNotesr22_W, F_law18_ConfNotesr23_W, F_law18_ConfNotesr24_W, F_law18_ConfNotesr26_g13, F_law18_ConfNotesr26_W, F_law18_ConfNotesr27_W, F_law18_ConfNotesr25_W, F_law18_ConfNotesl2_W, F_law18_ConfNotesr19_W, F_law18_ConfNotesl1_W, F_law18_ConfNotesr28_W, F_law18_ConfNotesc_W]
      exact ⟨rfl, rfl, e8, e11, rfl⟩
    refine W.mono st17 fun z e h' ⟨q1, q2, e8, e11, e14⟩ => ?_
    subst q1 q2
    rw [seqQ_normal, W_block]
    have hlp : W T (.loop F_law18_ConfNotesl1) e h' (Kp fun x e h => x = .exit 2) := by
      cases x with
      | inl b =>
        have q : ¬ (((0 : Nat) : Int) < ((0 : Nat) : Int)) := by omega
        have l1 : ∀ H, lenI H 1 (pS (.inl b)) = some (.int .i64 ((0 : Nat) : Int), H) := fun H => l1 H
        rw [w_loop]
        simp only [fws, cond_true, cond_false, if_true, if_false, unV, isNil, optI, iV, stepI, evalR, reduceIte, reduceCtorEq, Nat.reduceEqDiff, Int.reduceLT, Int.reduceLE, Int.reduceToNat, Nat.reduceLT, Nat.reduceLeDiff, Int.reduceEq, Int.reduceNeg, IntKind.bits, Nat.reduceAdd, Nat.reduceMul, Nat.reducePow, Int.reducePow, ini, fwh, lk, cellsAt, tagOf, spotOf, rdN, spl, fillL, zr, fwi, F_law18_ConfNotesr0_W, F_law18_ConfNotesr1_W, F_law18_ConfNotesr2_W, F_law18_ConfNotesr2_g3, F_law18_ConfNotesr3_W, F_law18_ConfNotesr4_W, F_law18_ConfNotesr5_W, F_law18_ConfNotesr6_W, F_law18_ConfNotesr8_W, F_law18_ConfNotesr9_W, F_law18_ConfNotesr10_W, F_law18_ConfNotesr10_g4, F_law18_ConfNotesr11_W, F_law18_ConfNotesr12_W, F_law18_ConfNotesr7_W, F_law18_ConfNotesl0_W, F_law18_ConfNotesr13_W, F_law18_ConfNotesr14_W, F_law18_ConfNotesr15_W, F_law18_ConfNotesr15_g3, F_law18_ConfNotesr15_g12, F_law18_ConfNotesr16_W, F_law18_ConfNotesr17_W, F_law18_ConfNotesr18_W, F_law18_ConfNotesr20_W, F_law18_ConfNotesr20_len, F_law18_ConfNotesr20_i6, F_law18_ConfNotesr20_i9, F_law18_ConfNotesr21_W, F_law18_ConfNotesr21_g5, F_law18_ConfNotesr22_W, F_law18_ConfNotesr23_W, F_law18_ConfNotesr24_W, F_law18_ConfNotesr26_g13, F_law18_ConfNotesr26_W, F_law18_ConfNotesr27_W, F_law18_ConfNotesr25_W, F_law18_ConfNotesl2_W, F_law18_ConfNotesr19_W, F_law18_ConfNotesl1_W, F_law18_ConfNotesr28_W, F_law18_ConfNotesc_W, l1, e8, e11, e14, g1, q]
        rfl
      | inr b =>
        cases y with
        | inl b' =>
          have r3 : (lst b.2).length = 0 := r3
          have q : ¬ (((0 : Nat) : Int) < ((0 : Nat) : Int)) := by omega
          have l1 : ∀ H, lenI H 1 (pS (.inr b)) = some (.int .i64 ((0 : Nat) : Int), H) := fun H => by rw [l1 H]; show some (Value.int .i64 ((lst b.2).length : Int), H) = _; rw [r3]
          rw [w_loop]
          simp only [fws, cond_true, cond_false, if_true, if_false, unV, isNil, optI, iV, stepI, evalR, reduceIte, reduceCtorEq, Nat.reduceEqDiff, Int.reduceLT, Int.reduceLE, Int.reduceToNat, Nat.reduceLT, Nat.reduceLeDiff, Int.reduceEq, Int.reduceNeg, IntKind.bits, Nat.reduceAdd, Nat.reduceMul, Nat.reducePow, Int.reducePow, ini, fwh, lk, cellsAt, tagOf, spotOf, rdN, spl, fillL, zr, fwi, F_law18_ConfNotesr0_W, F_law18_ConfNotesr1_W, F_law18_ConfNotesr2_W, F_law18_ConfNotesr2_g3, F_law18_ConfNotesr3_W, F_law18_ConfNotesr4_W, F_law18_ConfNotesr5_W, F_law18_ConfNotesr6_W, F_law18_ConfNotesr8_W, F_law18_ConfNotesr9_W, F_law18_ConfNotesr10_W, F_law18_ConfNotesr10_g4, F_law18_ConfNotesr11_W, F_law18_ConfNotesr12_W, F_law18_ConfNotesr7_W, F_law18_ConfNotesl0_W, F_law18_ConfNotesr13_W, F_law18_ConfNotesr14_W, F_law18_ConfNotesr15_W, F_law18_ConfNotesr15_g3, F_law18_ConfNotesr15_g12, F_law18_ConfNotesr16_W, F_law18_ConfNotesr17_W, F_law18_ConfNotesr18_W, F_law18_ConfNotesr20_W, F_law18_ConfNotesr20_len, F_law18_ConfNotesr20_i6, F_law18_ConfNotesr20_i9, F_law18_ConfNotesr21_W, F_law18_ConfNotesr21_g5, F_law18_ConfNotesr22_W, F_law18_ConfNotesr23_W, F_law18_ConfNotesr24_W, F_law18_ConfNotesr26_g13, F_law18_ConfNotesr26_W, F_law18_ConfNotesr27_W, F_law18_ConfNotesr25_W, F_law18_ConfNotesl2_W, F_law18_ConfNotesr19_W, F_law18_ConfNotesl1_W, F_law18_ConfNotesr28_W, F_law18_ConfNotesc_W, l1, e8, e11, e14, g1, q]
          rfl
        | inr b' =>
          have hF : ∃ F, parseT (fun l => Classical.choose (ex l)) a = .inr F ∧ lst b.1 = F.dirs ∧ SecM (lst b.2) F.secs := by
            cases hp : parseT (fun l => Classical.choose (ex l)) a with
            | inl z => rw [hp] at hx; exact hx.elim
            | inr F => rw [hp] at hx; exact ⟨F, rfl, hx⟩
          obtain ⟨F, hp, _, hsm⟩ := hF
          obtain ⟨_, n1, n2⟩ := parse_ok hp
          have hlen := hsm.len
          refine loop_secs r3 (by omega) (r4 b b' rfl rfl) (fun z hz => ?_) _ 0 h' e (Nat.zero_add _) g1 g2 e8 e11 e14
          obtain ⟨i, hi, rfl⟩ := List.mem_iff_getElem.1 hz
          rw [hsm.at hi (by omega)]
          have := (n2 _ (List.getElem_mem (show i < F.secs.length by omega))).1
          omega
    refine W.mono hlp fun z e h q => ?_
    have q : z = .exit 2 := q
    subst q
    simp only [fws, cond_true, cond_false, if_true, if_false, unV, isNil, optI, iV, stepI, evalR, reduceIte, reduceCtorEq, Nat.reduceEqDiff, Int.reduceLT, Int.reduceLE, Int.reduceToNat, Nat.reduceLT, Nat.reduceLeDiff, Int.reduceEq, Int.reduceNeg, IntKind.bits, Nat.reduceAdd, Nat.reduceMul, Nat.reducePow, Int.reducePow, ini, F_law18_ConfNotesr0_W, F_law18_ConfNotesr1_W, F_law18_ConfNotesr2_W, F_law18_ConfNotesr2_g3, F_law18_ConfNotesr3_W, F_law18_ConfNotesr4_W, F_law18_ConfNotesr5_W, F_law18_ConfNotesr6_W, F_law18_ConfNotesr8_W, F_law18_ConfNotesr9_W, F_law18_ConfNotesr10_W, F_law18_ConfNotesr10_g4, F_law18_ConfNotesr11_W, F_law18_ConfNotesr12_W, F_law18_ConfNotesr7_W, F_law18_ConfNotesl0_W, F_law18_ConfNotesr13_W, F_law18_ConfNotesr14_W, F_law18_ConfNotesr15_W, F_law18_ConfNotesr15_g3, F_law18_ConfNotesr15_g12, F_law18_ConfNotesr16_W, F_law18_ConfNotesr17_W, F_law18_ConfNotesr18_W, F_law18_ConfNotesr20_W, F_law18_ConfNotesr20_len, F_law18_ConfNotesr20_i6, F_law18_ConfNotesr20_i9, F_law18_ConfNotesr21_W, F_law18_ConfNotesr21_g5, F_law18_ConfNotesr22_W, F_law18_ConfNotesr23_W, F_law18_ConfNotesr24_W, F_law18_ConfNotesr26_g13, F_law18_ConfNotesr26_W, F_law18_ConfNotesr27_W, F_law18_ConfNotesr25_W, F_law18_ConfNotesl2_W, F_law18_ConfNotesr19_W, F_law18_ConfNotesl1_W, F_law18_ConfNotesr28_W, F_law18_ConfNotesc_W, CC_of ca]
  exact hb
end
end Go.Proofs.YtbhoaiacnoiocaaDoor
/- ConfNotes at the table. -/
namespace Go.Proofs.YtbhoaiacnoiocaaDoor
open Go Fw
set_option linter.unusedSimpArgs false
set_option linter.unusedVariables false
set_option linter.unusedSectionVars false

theorem cn_alive : FnV TCn 9 [] (.bool true) := FnV_run 200 rfl (by kernel_rfl)
theorem lf_n : LF TCn := by constructor <;> rfl
theorem pa_n : PaF TCn := by constructor <;> rfl
theorem cf_n : CF TCn := ⟨lf_n, pa_n, rfl, rfl, rfl, rfl, rfl, rfl, rfl, rfl, rfl, rfl⟩
theorem law2_n : Law2 TCn := ⟨cf_n, rfl, cn_alive⟩
theorem notes_t (a : List UInt8) (o : Option (List Bool)) (hl : a.length ≤ 1048576) : Ev TCn 4 [strV a, slV boolE o] [] fun v _ => v = .bool true := law_ConfNotes law2_n rfl a o (by omega)
end Go.Proofs.YtbhoaiacnoiocaaDoor
