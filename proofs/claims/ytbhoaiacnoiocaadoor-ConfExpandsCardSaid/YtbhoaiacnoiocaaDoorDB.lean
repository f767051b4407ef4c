/- A property is told. -/
import Derived.Test.YtbhoaiacnoiocaaDoorDA
namespace Go.Proofs.YtbhoaiacnoiocaaDoor
open Go Fw
set_option linter.unusedSimpArgs false
set_option linter.unusedVariables false
set_option linter.unusedSectionVars false

structure Pr where
  n : List UInt8
  v : List UInt8
  l : Int
def PrE : Enc Pr where
  e p := [strV p.n, strV p.v, .int .i64 p.l]
  u := 3
  d := 0
  hu _ := rfl
  hp k p := by simp [pure_string, pure_int]
  ho p := by simp [oneC_string, oneC_int]
abbrev prA (p : Pr) : Value := .agg #[strV p.n, strV p.v, .int .i64 p.l]
/-- What a property is, behind what it was. -/
def mixP (q p : Pr) (more : Bool) : Pr := if more = true ∧ q.v ≠ [] then ⟨p.n, q.v ++ (betw p.n ++ p.v), p.l⟩ else p
def setP : List Pr → Pr → Bool → List Pr
  | [], p, _ => [p]
  | q :: r, p, more => if q.n = p.n then mixP q p more :: r else q :: setP r p more
/-- Where the first property of a name stands. -/
def findP (n : List UInt8) : List Pr → Option Nat
  | [] => none
  | q :: r => if q.n = n then some 0 else (findP n r).map (· + 1)
theorem setP_none {p : Pr} {more : Bool} : ∀ {l : List Pr}, findP p.n l = none → setP l p more = l ++ [p]
  | [], _ => rfl
  | q :: r, h => by
    simp only [findP] at h
    split at h
    · cases h
    · rename_i hne
      simp only [setP]
      rw [if_neg hne, setP_none (by simpa using h)]
      rfl
theorem setP_some {p : Pr} {more : Bool} : ∀ {l : List Pr} {i : Nat}, findP p.n l = some i → ∃ h : i < l.length, l[i].n = p.n ∧ (∀ j (hj : j < i), (l[j]'(by omega)).n ≠ p.n) ∧ setP l p more = l.set i (mixP l[i] p more)
  | [], i, h => by cases h
  | q :: r, i, h => by
    simp only [findP] at h
    split at h
    · rename_i he
      cases h
      refine ⟨by simp, he, fun j hj => by omega, ?_⟩
      simp only [setP]
      rw [if_pos he]
      rfl
    · rename_i hne
      simp only [Option.map_eq_some_iff] at h
      obtain ⟨k, hk, rfl⟩ := h
      obtain ⟨h1, h2, h3, h4⟩ := setP_some (more := more) hk
      refine ⟨by simp; omega, h2, fun j hj => ?_, ?_⟩
      · cases j with
        | zero => exact hne
        | succ j => exact h3 j (by omega)
      · simp only [setP]
        rw [if_neg hne, h4]
        rfl
theorem findP_no {n : List UInt8} : ∀ {l : List Pr}, findP n l = none → ∀ j (hj : j < l.length), l[j].n ≠ n
  | [], _, j, hj => by simp at hj
  | q :: r, h, j, hj => by
    simp only [findP] at h
    split at h
    · cases h
    · rename_i hne
      cases j with
      | zero => exact hne
      | succ j => exact findP_no (by simpa using h) j (by simpa using hj)
/-- A property in a list of its own: its cells. -/
theorem Own.pr {H : Heap} {v : Value} {l : List Pr} (h : Own PrE H v l) {i : Nat} (hi : i < l.length) (k : IntKind) : ∃ a tag b, blkV v = some b ∧ a.block = b ∧ ixaI H 3 v (.int k i) = some (.pointer (some a), H) ∧ lk H a = some ⟨tag, .cells false 3 (PrE.cs l)⟩ ∧ a.off + 3 ≤ (PrE.cs l).length ∧ (PrE.cs l).drop a.off = strV l[i].n :: strV l[i].v :: .int .i64 l[i].l :: PrE.cs (l.drop (i + 1)) ∧
    ∀ x : Pr, Own PrE (H.set b ⟨tag, .cells false 3 (((((PrE.cs l).set a.off (strV x.n)).set (a.off + 1) (strV x.v))).set (a.off + 1 + 1) (.int .i64 x.l))⟩) v (l.set i x) := by
  obtain ⟨a, tag, b, hb, ha, hab, hlk, hoff, hset⟩ := h.ix (n := 3) rfl hi k
  have hmul : (i + 1) * 3 ≤ l.length * 3 := Nat.mul_le_mul_right _ hi
  refine ⟨a, tag, b, hb, hab, ha, hlk, ?_, ?_, fun x => hset x⟩
  · rw [cs_length, hoff]; show i * 3 + 3 ≤ l.length * 3; omega
  · rw [hoff]
    have h2 := cs_drop (E := PrE) l i
    have h3 : i * PrE.u = i * 3 := rfl
    rw [← h3, h2, List.drop_eq_getElem_cons hi, cs_cons]
    rfl
end Go.Proofs.YtbhoaiacnoiocaaDoor
/- A property is told: the walk. -/
namespace Go.Proofs.YtbhoaiacnoiocaaDoor
open Go Fw
set_option linter.unusedSimpArgs false
set_option linter.unusedVariables false
set_option linter.unusedSectionVars false

abbrev blk3 (cs : List Value) : Entry := ⟨0, .cells false 3 cs⟩
abbrev ptrC (a off : Nat) : Value := .pointer (some ⟨a, off, none⟩)
/-- A part of a section, in a row of sections. -/
structure SP (H : Heap) (b off stag : Nat) (scs : List Value) (pv : Value) (ps : List Pr) : Prop where
  s : H[b]? = some ⟨stag, .cells false 2 scs⟩
  c : ∃ tl, scs.drop (off + 1) = pv :: tl
  own : Own PrE H pv ps
  nb : blkV pv ≠ some b
theorem SP.set_same {H : Heap} {b off stag : Nat} {scs : List Value} {pv : Value} {ps : List Pr} (h : SP H b off stag scs pv ps) : scs.set (off + 1) pv = scs := by
  obtain ⟨tl, h1⟩ := h.c
  have hlt : off + 1 < scs.length := by
    have := congrArg List.length h1
    rw [List.length_drop, List.length_cons] at this
    omega
  have h2 : scs[off + 1] = pv := by
    rw [List.drop_eq_getElem_cons hlt] at h1
    exact (List.cons.inj h1).1
  rw [← h2]
  exact List.set_getElem_self hlt
theorem SP.lt {H : Heap} {b off stag : Nat} {scs : List Value} {pv : Value} {ps : List Pr} (h : SP H b off stag scs pv ps) : off + 1 < scs.length := by
  obtain ⟨tl, h1⟩ := h.c
  have := congrArg List.length h1
  rw [List.length_drop, List.length_cons] at this
  omega
/-- What has become of the heap. -/
structure SetOk (H h : Heap) (b off stag : Nat) (scs : List Value) (pv : Value) (ps' : List Pr) : Prop where
  len : H.length ≤ h.length
  old : ∀ q, q < H.length → q ≠ b → blkV pv ≠ some q → h[q]? = H[q]?
  ex : ∃ pv', h[b]? = some ⟨stag, .cells false 2 (scs.set (off + 1) pv')⟩ ∧ Own PrE h pv' ps' ∧ (blkV pv' = blkV pv ∨ (blkV pv = none ∧ ∃ c, blkV pv' = some c ∧ H.length ≤ c)) ∧ oneC pv' = true
theorem Own.oneC' {α : Type} {E : Enc α} {H : Heap} {v : Value} {l : List α} (h : Own E H v l) : v.cells = #[v] ∧ oneAll v = true ∧ oneC v = true := by
  rcases h with ⟨_, rfl⟩ | ⟨b, t, rfl, _⟩ <;> exact ⟨rfl, oneAll_slice, rfl⟩
structure WSet (e : Env) (hl b off stag : Nat) (pv : Value) (more : Bool) (n : Nat) (i : Nat) : Prop where
  e0 : e 0 = .pointer (some ⟨b, off, spotOf stag⟩)
  e2 : e 2 = .bool more
  e4 : e 4 = ptrC hl 0
  e12 : e 12 = .int .i64 n
  e13 : e 13 = .int .i64 i
section
variable {T : Tab} {H : Heap} {b off stag : Nat} {scs : List Value} {pv : Value} {ps : List Pr} {p : Pr} {more : Bool}
theorem SP.app (h : SP H b off stag scs pv ps) (g : Heap) : SP (H ++ g) b off stag scs pv ps :=
  ⟨by rw [List.getElem?_append_left (List.getElem?_eq_some_iff.1 h.s).1]; exact h.s, h.c, h.own.mono g, h.nb⟩
theorem set_skip {h : Heap} {hl : Nat} {env : Env} {i : Nat} {Q : Post} (s : SP h b off stag scs pv ps) (hb : h[hl]? = some (blk3 [strV p.n, strV p.v, .int .i64 p.l])) (hi : i < ps.length) (hn : ps.length ≤ 1000000) (hne : ps[i].n ≠ p.n) (he : WSet env hl b off stag pv more ps.length i)
    (hN : ∀ e, WSet e hl b off stag pv more ps.length (i + 1) → W T (.loop F_conf_Section_setl0) e h Q) : W T (.loop F_conf_Section_setl0) env h Q := by
  obtain ⟨e0, e2, e4, e12, e13⟩ := he
  obtain ⟨tl, hc⟩ := s.c
  have hlk : lk h ⟨b, off + 1, spotOf stag⟩ = some ⟨stag, .cells false 2 scs⟩ := own_lk s.s
  have hla : loadI h (.pointer (some ⟨b, off + 1, spotOf stag⟩)) = some (pv, h) := by rw [loadI_ptr]; simp only [cellsAt, hlk, hc]
  have hlb : loadI h (ptrC hl 0) = some (strV p.n, h) := by rw [loadI_ptr]; simp only [cellsAt, lk, hb, tagOf, Nat.beq_refl, cond_true, List.drop_zero]
  obtain ⟨a, tag, ab, _, _, a1, a2, a3, a4, _⟩ := Own.pr s.own hi .i64
  have hlq : loadI h (.pointer (some ⟨a.block, a.off + 0, a.spot⟩)) = some (strV ps[i].n, h) := by
    rw [loadI_ptr]
    have h4 : lk h ⟨a.block, a.off + 0, a.spot⟩ = some ⟨tag, .cells false 3 (PrE.cs ps)⟩ := a2
    have h5 : (PrE.cs ps).drop (a.off + 0) = strV ps[i].n :: strV ps[i].v :: .int .i64 ps[i].l :: PrE.cs (ps.drop (i + 1)) := a4
    simp only [cellsAt, h4, h5]
  have q : ((i : Int) < ps.length) := by omega
  have b0 : strEq ⟨(ps[i].n).toArray⟩ ⟨p.n.toArray⟩ = false := by rw [strEq_str]; exact decide_eq_false hne
  have w2 : IntKind.i64.wrap ((i : Int) + 1) = ((i + 1 : Nat) : Int) := by rw [wrapI64 (by omega) (by omega)]; rfl
  rw [w_loop]
  simp only [fws, cond_true, cond_false, if_true, if_false, unV, isNil, optI, iV, stepI, evalR, reduceIte, reduceCtorEq, Nat.reduceEqDiff, Int.reduceLT, Int.reduceLE, Int.reduceToNat, Nat.reduceLT, Nat.reduceLeDiff, Int.reduceEq, Int.reduceNeg, IntKind.bits, Nat.reduceAdd, Nat.reduceMul, Nat.reducePow, Int.reducePow, ini, faI_ptr, F_conf_Section_setr0_W, F_conf_Section_setr1_W, F_conf_Section_setr2_W, F_conf_Section_setr3_W, F_conf_Section_setr4_W, F_conf_Section_setr5_W, F_conf_Section_setr6_W, F_conf_Section_setr6_g1, F_conf_Section_setr7_W, F_conf_Section_setr8_W, F_conf_Section_setr9_W, F_conf_Section_setl0_W, F_conf_Section_setr10_W, F_conf_Section_setc_W, e0, e2, e4, e12, e13, q, hla, hlb, a1, hlq, b0, w2]
  refine hN _ ⟨?_, ?_, ?_, ?_, ?_⟩
  all_goals (first | assumption | rfl)
theorem set_hit {env : Env} {i : Nat} (t : LF T) (hbt : T 45 = some F_conf_between) (s : SP H b off stag scs pv ps) {h : Heap} (hh : h = H ++ [blk3 [strV p.n, strV p.v, .int .i64 p.l]]) (hi : i < ps.length) (hn : ps.length ≤ 1000000) (heq : ps[i].n = p.n) (he : WSet env H.length b off stag pv more ps.length i)
    (hv : ps[i].v.length ≤ 1000000000000) (hpv : p.v.length ≤ 1000000000) (hpn : p.n.length ≤ 100000000) :
    W T (.loop F_conf_Section_setl0) env h fun x e h' => x = .ret ∧ SetOk H h' b off stag scs pv (ps.set i (mixP ps[i] p more)) := by
  obtain ⟨e0, e2, e4, e12, e13⟩ := he
  have s1 : SP h b off stag scs pv ps := by rw [hh]; exact s.app _
  have hb : h[H.length]? = some (blk3 [strV p.n, strV p.v, .int .i64 p.l]) := by rw [hh, List.getElem?_append_right (Nat.le_refl _), Nat.sub_self]; rfl
  have hlen : H.length < h.length := by rw [hh, List.length_append]; simp
  obtain ⟨tl, hc⟩ := s1.c
  have hlk : lk h ⟨b, off + 1, spotOf stag⟩ = some ⟨stag, .cells false 2 scs⟩ := own_lk s1.s
  have hla : loadI h (.pointer (some ⟨b, off + 1, spotOf stag⟩)) = some (pv, h) := by rw [loadI_ptr]; simp only [cellsAt, hlk, hc]
  have hlb : loadI h (ptrC H.length 0) = some (strV p.n, h) := by rw [loadI_ptr]; simp only [cellsAt, lk, hb, tagOf, Nat.beq_refl, cond_true, List.drop_zero]
  have hlb1 : loadI h (ptrC H.length 1) = some (strV p.v, h) := by rw [loadI_ptr]; simp only [cellsAt, lk, hb, tagOf, Nat.beq_refl, cond_true, List.drop_zero, List.drop_succ_cons]
  obtain ⟨a, tag, ab, hab, hab', a1, a2, a3, a4, a5⟩ := Own.pr s1.own hi .i64
  have hlq : loadI h (.pointer (some ⟨a.block, a.off + 0, a.spot⟩)) = some (strV ps[i].n, h) := by
    rw [loadI_ptr]
    have h4 : lk h ⟨a.block, a.off + 0, a.spot⟩ = some ⟨tag, .cells false 3 (PrE.cs ps)⟩ := a2
    have h5 : (PrE.cs ps).drop (a.off + 0) = strV ps[i].n :: strV ps[i].v :: .int .i64 ps[i].l :: PrE.cs (ps.drop (i + 1)) := a4
    simp only [cellsAt, h4, h5]
  have hlq0 : loadI h (.pointer (some ⟨a.block, a.off, a.spot⟩)) = some (strV ps[i].n, h) := hlq
  have hlq1 : loadI h (.pointer (some ⟨a.block, a.off + 1, a.spot⟩)) = some (strV ps[i].v, h) := by
    rw [loadI_ptr]
    have h4 : lk h ⟨a.block, a.off + 1, a.spot⟩ = some ⟨tag, .cells false 3 (PrE.cs ps)⟩ := a2
    have h5 : (PrE.cs ps).drop (a.off + 1) = strV ps[i].v :: .int .i64 ps[i].l :: PrE.cs (ps.drop (i + 1)) := by rw [← List.drop_drop, a4]; rfl
    simp only [cellsAt, h4, h5]
  have hcb : cellsAt h ⟨H.length, 0, none⟩ = some [strV p.n, strV p.v, .int .i64 p.l] := by simp only [cellsAt, lk, hb, tagOf, Nat.beq_refl, cond_true, List.drop_zero]
  have hkb : lk h ⟨H.length, 1, none⟩ = some (blk3 [strV p.n, strV p.v, .int .i64 p.l]) := by simp only [lk, hb, tagOf, Nat.beq_refl, cond_true]
  have hablt : ab < H.length := s.own.lt hab
  have hbH : b < H.length := (List.getElem?_eq_some_iff.1 s.s).1
  have habb : ab ≠ b := fun e => s.nb (by rw [hab, e])
  have q : ((i : Int) < ps.length) := by omega
  have b0 : strEq ⟨(ps[i].n).toArray⟩ ⟨p.n.toArray⟩ = true := by rw [strEq_str]; exact decide_eq_true heq
  have bst : decide (a.off + 3 ≤ (PrE.cs ps).length) = true := decide_eq_true a3
  -- what is stored at last
  have fin : ∀ (h2 : Heap) (x : Pr), h2.length = h.length → (∀ q, q < H.length → h2[q]? = h[q]?) → SetOk H (h2.set a.block ⟨tag, .cells false 3 (((((PrE.cs ps).set a.off (strV x.n)).set (a.off + 1) (strV x.v))).set (a.off + 1 + 1) (.int .i64 x.l))⟩) b off stag scs pv (ps.set i x) := by
    intro h2 x hl2 hs2
    rw [hab']
    refine ⟨by rw [List.length_set]; omega, fun q hq hqb hqp => ?_, pv, ?_, ?_, .inl rfl, (Own.oneC' s.own).2.2⟩
    · rw [List.getElem?_set_ne (fun e => hqp (by rw [hab, e])), hs2 q hq, hh, List.getElem?_append_left hq]
    · rw [s.set_same, List.getElem?_set_ne habb, hs2 b hbH]; exact s1.s
    · have h3 := a5 x
      refine h3.keep fun c hc2 => ?_
      rw [hab] at hc2
      obtain rfl := Option.some.inj hc2
      rw [List.getElem?_set_self (by omega), List.getElem?_set_self (by omega)]
  rw [w_loop]
  by_cases hm : more = true ∧ ps[i].v ≠ []
  · obtain ⟨hm1, hm2⟩ := hm
    subst hm1
    have hmx : mixP ps[i] p true = ⟨p.n, ps[i].v ++ (betw p.n ++ p.v), p.l⟩ := by unfold mixP; rw [if_pos ⟨rfl, hm2⟩]
    have b1 : strEq ⟨(ps[i].v).toArray⟩ ⟨#[]⟩ = false := ne_str hm2
    have c1 := f_between t hbt p.n hpn
    have hbl : (betw p.n).length = 1 := by unfold betw; split <;> rfl
    have q1 : ps[i].v.length + (betw p.n).length ≤ 9223372036854775807 := by rw [hbl]; omega
    have q2 : ps[i].v.length + (betw p.n).length + p.v.length ≤ 9223372036854775807 := by rw [hbl]; omega
    rw [hmx]
    have := fin (h.set H.length (blk3 [strV p.n, strV (ps[i].v ++ (betw p.n ++ p.v)), .int .i64 p.l])) ⟨p.n, ps[i].v ++ (betw p.n ++ p.v), p.l⟩ (by rw [List.length_set]) (fun q hq => List.getElem?_set_ne (by omega))
    have hs := fun X => List.getElem?_set_self (a := X) hlen
    have a2' : lk (h.set H.length (blk3 [strV p.n, strV (ps[i].v ++ (betw p.n ++ p.v)), .int .i64 p.l])) a = some ⟨tag, .cells false 3 (PrE.cs ps)⟩ := by
      rw [← a2]
      simp only [lk]
      rw [List.getElem?_set_ne (by omega)]
    have hcb' : cellsAt (h.set H.length (blk3 [strV p.n, strV (ps[i].v ++ (betw p.n ++ p.v)), .int .i64 p.l])) ⟨H.length, 0, none⟩ = some [strV p.n, strV (ps[i].v ++ (betw p.n ++ p.v)), .int .i64 p.l] := by simp only [cellsAt, lk, hs, tagOf, Nat.beq_refl, cond_true, List.drop_zero]
    simp only [fws, cond_true, cond_false, if_true, if_false, unV, isNil, optI, iV, stepI, evalR, reduceIte, reduceCtorEq, Nat.reduceEqDiff, Int.reduceLT, Int.reduceLE, Int.reduceToNat, Nat.reduceLT, Nat.reduceLeDiff, Int.reduceEq, Int.reduceNeg, IntKind.bits, Nat.reduceAdd, Nat.reduceMul, Nat.reducePow, Int.reducePow, ini, fwh, spl, rdN, faI_ptr, fwi, F_conf_Section_setr0_W, F_conf_Section_setr1_W, F_conf_Section_setr2_W, F_conf_Section_setr3_W, F_conf_Section_setr4_W, F_conf_Section_setr5_W, F_conf_Section_setr6_W, F_conf_Section_setr6_g1, F_conf_Section_setr7_W, F_conf_Section_setr8_W, F_conf_Section_setr9_W, F_conf_Section_setl0_W, F_conf_Section_setr10_W, F_conf_Section_setc_W, e0, e2, e4, e12, e13, q, hla, hlb, hlb1, a1, hlq, hlq0, hlq1, b0, b1, CC_of c1, q1, q2, hcb, hkb, a2', hcb', bst]
    exact ⟨trivial, this⟩
  · have hmx : mixP ps[i] p more = p := by unfold mixP; rw [if_neg hm]
    rw [hmx]
    have := fin h p rfl (fun _ _ => rfl)
    cases more with
    | false =>
      simp only [fws, cond_true, cond_false, if_true, if_false, unV, isNil, optI, iV, stepI, evalR, reduceIte, reduceCtorEq, Nat.reduceEqDiff, Int.reduceLT, Int.reduceLE, Int.reduceToNat, Nat.reduceLT, Nat.reduceLeDiff, Int.reduceEq, Int.reduceNeg, IntKind.bits, Nat.reduceAdd, Nat.reduceMul, Nat.reducePow, Int.reducePow, ini, faI_ptr, fwi, F_conf_Section_setr0_W, F_conf_Section_setr1_W, F_conf_Section_setr2_W, F_conf_Section_setr3_W, F_conf_Section_setr4_W, F_conf_Section_setr5_W, F_conf_Section_setr6_W, F_conf_Section_setr6_g1, F_conf_Section_setr7_W, F_conf_Section_setr8_W, F_conf_Section_setr9_W, F_conf_Section_setl0_W, F_conf_Section_setr10_W, F_conf_Section_setc_W, e0, e2, e4, e12, e13, q, hla, hlb, hlb1, a1, hlq, hlq0, hlq1, b0, hcb, a2, bst, fwh, spl, rdN]
      exact ⟨trivial, this⟩
    | true =>
      have hv0 : ps[i].v = [] := by
        by_cases h : ps[i].v = []
        · exact h
        · exact absurd ⟨rfl, h⟩ hm
      have b1 : strEq ⟨(ps[i].v).toArray⟩ ⟨#[]⟩ = true := by rw [hv0]; rfl
      simp only [fws, cond_true, cond_false, if_true, if_false, unV, isNil, optI, iV, stepI, evalR, reduceIte, reduceCtorEq, Nat.reduceEqDiff, Int.reduceLT, Int.reduceLE, Int.reduceToNat, Nat.reduceLT, Nat.reduceLeDiff, Int.reduceEq, Int.reduceNeg, IntKind.bits, Nat.reduceAdd, Nat.reduceMul, Nat.reducePow, Int.reducePow, ini, faI_ptr, fwi, F_conf_Section_setr0_W, F_conf_Section_setr1_W, F_conf_Section_setr2_W, F_conf_Section_setr3_W, F_conf_Section_setr4_W, F_conf_Section_setr5_W, F_conf_Section_setr6_W, F_conf_Section_setr6_g1, F_conf_Section_setr7_W, F_conf_Section_setr8_W, F_conf_Section_setr9_W, F_conf_Section_setl0_W, F_conf_Section_setr10_W, F_conf_Section_setc_W, e0, e2, e4, e12, e13, q, hla, hlb, hlb1, a1, hlq, hlq0, hlq1, b0, b1, hcb, a2, bst, fwh, spl, rdN]
      exact ⟨trivial, this⟩
end
end Go.Proofs.YtbhoaiacnoiocaaDoor
/- A property is told: whole. -/
namespace Go.Proofs.YtbhoaiacnoiocaaDoor
open Go Fw
set_option linter.unusedSimpArgs false
set_option linter.unusedVariables false
set_option linter.unusedSectionVars false

section
variable {T : Tab} {H : Heap} {b off stag : Nat} {scs : List Value} {pv : Value} {ps : List Pr} {p : Pr} {more : Bool}
theorem set_skips {h : Heap} {hl : Nat} {Q : Post} (s : SP h b off stag scs pv ps) (hb : h[hl]? = some (blk3 [strV p.n, strV p.v, .int .i64 p.l])) (hn : ps.length ≤ 1000000) (j : Nat) (hj : j ≤ ps.length) (hne : ∀ i (hi : i < j), (ps[i]'(by omega)).n ≠ p.n)
    (hN : ∀ e, WSet e hl b off stag pv more ps.length j → W T (.loop F_conf_Section_setl0) e h Q) : ∀ (k i : Nat), i + k = j → ∀ env, WSet env hl b off stag pv more ps.length i → W T (.loop F_conf_Section_setl0) env h Q := by
  intro k
  induction k with
  | zero =>
    intro i hi env he
    have : i = j := by omega
    subst this
    exact hN env he
  | succ k ih =>
    intro i hi env he
    exact set_skip s hb (by omega) hn (hne i (by omega)) he fun e he' => ih (i + 1) (by omega) e he'
theorem set_end (s : SP H b off stag scs pv ps) {h : Heap} (hh : h = H ++ [blk3 [strV p.n, strV p.v, .int .i64 p.l]]) (hn : ps.length ≤ 1000000) {env : Env} (e0 : env 0 = .pointer (some ⟨b, off, spotOf stag⟩)) (e4 : env 4 = ptrC H.length 0) :
    W T (.dreg F_conf_Section_setr10 []) env h fun x e h' => x = .normal ∧ SetOk H h' b off stag scs pv (ps ++ [p]) := by
  have s1 : SP h b off stag scs pv ps := by rw [hh]; exact s.app _
  have hb : h[H.length]? = some (blk3 [strV p.n, strV p.v, .int .i64 p.l]) := by rw [hh, List.getElem?_append_right (Nat.le_refl _), Nat.sub_self]; rfl
  obtain ⟨tl, hc⟩ := s1.c
  have hlk : lk h ⟨b, off + 1, spotOf stag⟩ = some ⟨stag, .cells false 2 scs⟩ := own_lk s1.s
  have hla : loadI h (.pointer (some ⟨b, off + 1, spotOf stag⟩)) = some (pv, h) := by rw [loadI_ptr]; simp only [cellsAt, hlk, hc]
  have hcb : cellsAt h ⟨H.length, 0, none⟩ = some [strV p.n, strV p.v, .int .i64 p.l] := by simp only [cellsAt, lk, hb, tagOf, Nat.beq_refl, cond_true, List.drop_zero]
  have hbH : b < H.length := (List.getElem?_eq_some_iff.1 s.s).1
  obtain ⟨v', h2, a1, a2, a3⟩ := s1.own.app (m := [p]) (n := 3) (eb := 40) (k := 1) rfl rfl (by simp; omega)
  have a1 : appV 3 40 h pv [strV p.n, strV p.v, .int .i64 p.l] 1 = some (v', h2) := a1
  have hbs : h2[b]? = some ⟨stag, .cells false 2 scs⟩ := by rw [a3.same b (List.getElem?_eq_some_iff.1 s1.s).1 s.nb]; exact s1.s
  have hlk2 : lk h2 ⟨b, off + 1, spotOf stag⟩ = some ⟨stag, .cells false 2 scs⟩ := own_lk hbs
  obtain ⟨u1, u2, u3⟩ := Own.oneC' a2
  have bst : decide (off + 1 + 1 ≤ scs.length) = true := decide_eq_true (by have := s.lt; omega)
  have hlen : H.length ≤ h.length := by rw [hh, List.length_append]; omega
  have hnb : blkV v' ≠ some b := by
    rcases a3.blk with e | ⟨_, c, e, e1⟩
    · rw [e]; exact s.nb
    · rw [e]; intro hc; cases hc; omega
  simp only [fws, cond_true, cond_false, if_true, if_false, unV, isNil, optI, iV, stepI, evalR, reduceIte, reduceCtorEq, Nat.reduceEqDiff, Int.reduceLT, Int.reduceLE, Int.reduceToNat, Nat.reduceLT, Nat.reduceLeDiff, Int.reduceEq, Int.reduceNeg, IntKind.bits, Nat.reduceAdd, Nat.reduceMul, Nat.reducePow, Int.reducePow, ini, fwh, spl, rdN, fillL, zr, faI_ptr, fwi, F_conf_Section_setr0_W, F_conf_Section_setr1_W, F_conf_Section_setr2_W, F_conf_Section_setr3_W, F_conf_Section_setr4_W, F_conf_Section_setr5_W, F_conf_Section_setr6_W, F_conf_Section_setr6_g1, F_conf_Section_setr7_W, F_conf_Section_setr8_W, F_conf_Section_setr9_W, F_conf_Section_setl0_W, F_conf_Section_setr10_W, F_conf_Section_setc_W, e0, e4, hla, hcb, srcOf_immV, a1, u1, u2, hlk2, bst]
  refine ⟨trivial, ⟨by rw [List.length_set]; have := a3.len; omega, fun q hq hqb hqp => ?_, v', ?_, ?_, ?_, u3⟩⟩
  · rw [List.getElem?_set_ne (fun e => hqb e.symm), a3.same q (by omega) hqp, hh, List.getElem?_append_left hq]
  · rw [List.getElem?_set_self (List.getElem?_eq_some_iff.1 hbs).1]
  · exact a2.keep fun c hc => List.getElem?_set_ne fun e => hnb (by rw [hc, e])
  · rcases a3.blk with e | ⟨e0, c, e, e1⟩
    · exact .inl e
    · exact .inr ⟨e0, c, e, by omega⟩
theorem ev_set (t : LF T) (hbt : T 45 = some F_conf_between) (hst : T 32 = some F_conf_Section_set) (s : SP H b off stag scs pv ps) (hn : ps.length ≤ 1000000)
    (hv : ∀ q ∈ ps, q.v.length ≤ 1000000000000) (hpv : p.v.length ≤ 1000000000) (hpn : p.n.length ≤ 100000000) :
    Ev T 32 [.pointer (some ⟨b, off, spotOf stag⟩), prA p, .bool more] H fun v h => v = .tuple #[] ∧ SetOk H h b off stag scs pv (setP ps p more) := by
  rw [Ev_fn hst rfl]
  have s1 : SP (H ++ [blk3 [strV p.n, strV p.v, .int .i64 p.l]]) b off stag scs pv ps := s.app _
  have hb : (H ++ [blk3 [strV p.n, strV p.v, .int .i64 p.l]])[H.length]? = some (blk3 [strV p.n, strV p.v, .int .i64 p.l]) := by rw [List.getElem?_append_right (Nat.le_refl _), Nat.sub_self]; rfl
  obtain ⟨tl, hc⟩ := s1.c
  have hlk : lk (H ++ [blk3 [strV p.n, strV p.v, .int .i64 p.l]]) ⟨b, off + 1, spotOf stag⟩ = some ⟨stag, .cells false 2 scs⟩ := own_lk s1.s
  have hla : loadI (H ++ [blk3 [strV p.n, strV p.v, .int .i64 p.l]]) (.pointer (some ⟨b, off + 1, spotOf stag⟩)) = some (pv, (H ++ [blk3 [strV p.n, strV p.v, .int .i64 p.l]])) := by rw [loadI_ptr]; simp only [cellsAt, hlk, hc]
  have hln := s1.own.len
  generalize hh : H ++ [blk3 [strV p.n, strV p.v, .int .i64 p.l]] = h at *
  show W T F_conf_Section_setc _ _ (retQ [] _)
  unfold F_conf_Section_setc
  rw [w_seq]
  have st0 : W T (.reg F_conf_Section_setr0) (ini [.pointer (some ⟨b, off, spotOf stag⟩), prA p, .bool more]) H fun x e h' => h' = h ∧ x = .normal ∧ e 0 = .pointer (some ⟨b, off, spotOf stag⟩) ∧ e 2 = .bool more ∧ e 4 = ptrC H.length 0 := by
    rw [← hh]
    simp only [fws, cond_true, cond_false, if_true, if_false, unV, isNil, optI, iV, stepI, evalR, reduceIte, reduceCtorEq, Nat.reduceEqDiff, Int.reduceLT, Int.reduceLE, Int.reduceToNat, Nat.reduceLT, Nat.reduceLeDiff, Int.reduceEq, Int.reduceNeg, IntKind.bits, Nat.reduceAdd, Nat.reduceMul, Nat.reducePow, Int.reducePow, ini, fwh, F_conf_Section_setr0_W, F_conf_Section_setr1_W, F_conf_Section_setr2_W, F_conf_Section_setr3_W, F_conf_Section_setr4_W, F_conf_Section_setr5_W, F_conf_Section_setr6_W, F_conf_Section_setr6_g1, F_conf_Section_setr7_W, F_conf_Section_setr8_W, F_conf_Section_setr9_W, F_conf_Section_setl0_W, F_conf_Section_setr10_W, F_conf_Section_setc_W]
    exact ⟨trivial, trivial, trivial, trivial, trivial⟩
  refine W.mono st0 fun x e h' ⟨q1, q2, e0, e2, e4⟩ => ?_
  subst h' q2
  rw [seqQ_normal, w_seq, w_seq]
  have st1 : W T (.reg F_conf_Section_setr1) e h fun x e h' => h' = h ∧ x = .normal ∧ WSet e H.length b off stag pv more ps.length 0 := by
    simp only [fws, cond_true, cond_false, if_true, if_false, unV, isNil, optI, iV, stepI, evalR, reduceIte, reduceCtorEq, Nat.reduceEqDiff, Int.reduceLT, Int.reduceLE, Int.reduceToNat, Nat.reduceLT, Nat.reduceLeDiff, Int.reduceEq, Int.reduceNeg, IntKind.bits, Nat.reduceAdd, Nat.reduceMul, Nat.reducePow, Int.reducePow, ini, faI_ptr, F_conf_Section_setr0_W, F_conf_Section_setr1_W, F_conf_Section_setr2_W, F_conf_Section_setr3_W, F_conf_Section_setr4_W, F_conf_Section_setr5_W, F_conf_Section_setr6_W, F_conf_Section_setr6_g1, F_conf_Section_setr7_W, F_conf_Section_setr8_W, F_conf_Section_setr9_W, F_conf_Section_setl0_W, F_conf_Section_setr10_W, F_conf_Section_setc_W, e0, hla, hln]
    exact ⟨trivial, trivial, ⟨e0, e2, e4, rfl, rfl⟩⟩
  refine W.mono st1 fun x e h' ⟨q1, q2, he⟩ => ?_
  subst h' q2
  rw [seqQ_normal, W_block]
  cases hf : findP p.n ps with
  | some k =>
    obtain ⟨hk, hkn, hkj, hks⟩ := setP_some (more := more) hf
    rw [hks]
    refine set_skips s1 hb hn k (by omega) hkj (fun e he => ?_) k 0 (Nat.zero_add _) e he
    refine W.mono (set_hit t hbt s hh.symm hk hn hkn he (hv _ (List.getElem_mem hk)) hpv hpn) fun x e h' ⟨q1, q2⟩ => ?_
    subst q1
    simp only [fws, cond_true, cond_false, if_true, if_false, unV, isNil, optI, iV, stepI, evalR, reduceIte, reduceCtorEq, Nat.reduceEqDiff, Int.reduceLT, Int.reduceLE, Int.reduceToNat, Nat.reduceLT, Nat.reduceLeDiff, Int.reduceEq, Int.reduceNeg, IntKind.bits, Nat.reduceAdd, Nat.reduceMul, Nat.reducePow, Int.reducePow, ini]
    exact ⟨trivial, q2⟩
  | none =>
    rw [setP_none hf]
    refine set_skips s1 hb hn ps.length (Nat.le_refl _) (fun i hi => findP_no hf i hi) (fun e he => ?_) ps.length 0 (Nat.zero_add _) e he
    have q : ¬ ((ps.length : Int) < ps.length) := by omega
    obtain ⟨e0, e2, e4, e12, e13⟩ := he
    rw [w_loop]
    simp only [fws, cond_true, cond_false, if_true, if_false, unV, isNil, optI, iV, stepI, evalR, reduceIte, reduceCtorEq, Nat.reduceEqDiff, Int.reduceLT, Int.reduceLE, Int.reduceToNat, Nat.reduceLT, Nat.reduceLeDiff, Int.reduceEq, Int.reduceNeg, IntKind.bits, Nat.reduceAdd, Nat.reduceMul, Nat.reducePow, Int.reducePow, ini, F_conf_Section_setr0_W, F_conf_Section_setr1_W, F_conf_Section_setr2_W, F_conf_Section_setr3_W, F_conf_Section_setr4_W, F_conf_Section_setr5_W, F_conf_Section_setr6_W, F_conf_Section_setr6_g1, F_conf_Section_setr7_W, F_conf_Section_setr8_W, F_conf_Section_setr9_W, F_conf_Section_setl0_W, F_conf_Section_setc_W, e12, e13, q]
    refine W.mono (set_end s hh.symm hn (env := _) e0 e4) fun x e h' ⟨q1, q2⟩ => ?_
    subst q1
    simp only [fws, cond_true, cond_false, if_true, if_false, unV, isNil, optI, iV, stepI, evalR, reduceIte, reduceCtorEq, Nat.reduceEqDiff, Int.reduceLT, Int.reduceLE, Int.reduceToNat, Nat.reduceLT, Nat.reduceLeDiff, Int.reduceEq, Int.reduceNeg, IntKind.bits, Nat.reduceAdd, Nat.reduceMul, Nat.reducePow, Int.reducePow, ini]
    exact ⟨trivial, q2⟩
end
end Go.Proofs.YtbhoaiacnoiocaaDoor
/- A configuration, in memory. -/
namespace Go.Proofs.YtbhoaiacnoiocaaDoor
open Go Fw
set_option linter.unusedSimpArgs false
set_option linter.unusedVariables false
set_option linter.unusedSectionVars false

structure Fm where
  dirs : List Pr
  secs : List (List UInt8 × List Pr)
abbrev Row := List UInt8 × Value
def cellsR (rs : List Row) : List Value := rs.flatMap fun x => [strV x.1, x.2]
theorem cellsR_len (rs : List Row) : (cellsR rs).length = rs.length * 2 := by
  induction rs with
  | nil => rfl
  | cons x r ih => show ([strV x.1, x.2] ++ cellsR r).length = _; rw [List.length_append, ih, List.length_cons]; simp; omega
theorem cellsR_app (rs qs : List Row) : cellsR (rs ++ qs) = cellsR rs ++ cellsR qs := by simp [cellsR]
theorem cellsR_drop : ∀ (rs : List Row) (i : Nat) (hi : i < rs.length), (cellsR rs).drop (i * 2) = strV rs[i].1 :: rs[i].2 :: cellsR (rs.drop (i + 1))
  | [], i, hi => by simp at hi
  | x :: r, 0, _ => rfl
  | x :: r, i + 1, hi => by
    have : (i + 1) * 2 = i * 2 + 2 := by omega
    rw [this]
    show ((strV x.1 :: x.2 :: cellsR r).drop (i * 2 + 2)) = _
    rw [List.drop_succ_cons, List.drop_succ_cons, cellsR_drop r i (by simpa using hi)]
    rfl
theorem cellsR_set : ∀ (rs : List Row) (i : Nat) (hi : i < rs.length) (v : Value), (cellsR rs).set (i * 2 + 1) v = cellsR (rs.set i (rs[i].1, v))
  | [], i, hi, v => by simp at hi
  | x :: r, 0, _, v => rfl
  | x :: r, i + 1, hi, v => by
    have : (i + 1) * 2 + 1 = i * 2 + 1 + 1 + 1 := by omega
    rw [this]
    show ((strV x.1 :: x.2 :: cellsR r).set (i * 2 + 1 + 1 + 1) v) = _
    rw [List.set_cons_succ, List.set_cons_succ, cellsR_set r i (by simpa using hi)]
    rfl
/-- A configuration lies at kf: its folders' list, its sections' row, each section's list; who: whose a block is. -/
structure RF (H : Heap) (kf : Nat) (F : Fm) (dv sv : Value) (rs : List Row) (who : Nat → Nat) : Prop where
  cell : H[kf]? = some ⟨0, .cells false 2 [dv, sv]⟩
  k0 : who kf = 0
  dO : Own PrE H dv F.dirs
  dw : ∀ b, blkV dv = some b → who b = 1
  sO : (rs = [] ∧ sv = .slice none 0 0) ∨ ∃ b tag, sv = own b tag rs.length ∧ H[b]? = some ⟨tag, .cells false 2 (cellsR rs)⟩
  sw : ∀ b, blkV sv = some b → who b = 2
  rl : rs.length = F.secs.length
  rn : ∀ i (hi : i < rs.length) (hj : i < F.secs.length), rs[i].1 = F.secs[i].1 ∧ Own PrE H rs[i].2 F.secs[i].2
  rw : ∀ i (hi : i < rs.length) b, blkV rs[i].2 = some b → who b = 3 + i
  z : H[0]? = some ⟨0, .cells false 2 [.slice none 0 0, .slice none 0 0]⟩
  z0 : who 0 = 0
  zk : kf ≠ 0
section
variable {H : Heap} {kf : Nat} {F : Fm} {dv sv : Value} {rs : List Row} {who : Nat → Nat}
theorem RF.kfl (r : RF H kf F dv sv rs who) : kf < H.length := (List.getElem?_eq_some_iff.1 r.cell).1
theorem RF.sl (r : RF H kf F dv sv rs who) {b : Nat} (hb : blkV sv = some b) : b < H.length := by
  rcases r.sO with ⟨_, rfl⟩ | ⟨b', tag, rfl, h⟩
  · cases hb
  · cases hb; exact (List.getElem?_eq_some_iff.1 h).1
theorem RF.slen (r : RF H kf F dv sv rs who) : lenI H 1 sv = some (.int .i64 F.secs.length, H) := by
  rw [← r.rl]
  rcases r.sO with ⟨rfl, rfl⟩ | ⟨b', tag, rfl, h⟩ <;> rfl
theorem RF.one (r : RF H kf F dv sv rs who) : sv.cells = #[sv] ∧ oneAll sv = true ∧ oneC sv = true := by
  rcases r.sO with ⟨_, rfl⟩ | ⟨b', tag, rfl, h⟩ <;> exact ⟨rfl, oneAll_slice, rfl⟩
/-- More blocks. -/
theorem RF.app (r : RF H kf F dv sv rs who) (g : Heap) : RF (H ++ g) kf F dv sv rs who :=
  ⟨by rw [List.getElem?_append_left r.kfl]; exact r.cell, r.k0, r.dO.mono g, r.dw, by
    rcases r.sO with h | ⟨b, tag, h1, h2⟩
    · exact .inl h
    · exact .inr ⟨b, tag, h1, by rw [List.getElem?_append_left (List.getElem?_eq_some_iff.1 h2).1]; exact h2⟩, r.sw, r.rl, fun i hi hj => ⟨(r.rn i hi hj).1, (r.rn i hi hj).2.mono g⟩, r.rw, by rw [List.getElem?_append_left (by have := r.kfl; omega)]; exact r.z, r.z0, r.zk⟩
/-- A folder more. -/
theorem RF.dir (r : RF H kf F dv sv rs who) (hl : F.dirs.length ≤ 1000000) (p : Pr) : ∃ dv' H' who', appV 3 40 H dv [strV p.n, strV p.v, .int .i64 p.l] 1 = some (dv', H') ∧ dv'.cells = #[dv'] ∧ oneAll dv' = true ∧ H'[kf]? = some ⟨0, .cells false 2 [dv, sv]⟩ ∧ H.length ≤ H'.length ∧
    RF (H'.set kf ⟨0, .cells false 2 [dv', sv]⟩) kf ⟨F.dirs ++ [p], F.secs⟩ dv' sv rs who' := by
  obtain ⟨dv', H', a1, a2, a3⟩ := r.dO.app (m := [p]) (n := 3) (eb := 40) (k := 1) rfl rfl (by simp; omega)
  have a1 : appV 3 40 H dv [strV p.n, strV p.v, .int .i64 p.l] 1 = some (dv', H') := a1
  obtain ⟨u1, u2, _⟩ := Own.oneC' a2
  have hkf := r.kfl
  have hsame : ∀ q, q < H.length → who q ≠ 1 → H'[q]? = H[q]? := fun q hq hw => a3.same q hq fun e => hw (r.dw q e)
  have hfin : ∀ q, q < H.length → who q ≠ 1 → who q ≠ 0 → (H'.set kf ⟨0, .cells false 2 [dv', sv]⟩)[q]? = H[q]? := fun q hq h1 h2 => by
    rw [List.getElem?_set_ne (fun e => h2 (by rw [← e]; exact r.k0))]; exact hsame q hq h1
  refine ⟨dv', H', fun q => if q < H.length then who q else 1, a1, u1, u2, by rw [hsame kf hkf (by rw [r.k0]; decide)]; exact r.cell, a3.len, ⟨?_, ?_, ?_, ?_, ?_, ?_, r.rl, ?_, ?_, by rw [List.getElem?_set_ne r.zk, hsame 0 (by omega) (by rw [r.z0]; decide)]; exact r.z, by simp only [show 0 < H.length by omega, if_true]; exact r.z0, r.zk⟩⟩
  · exact List.getElem?_set_self (by have := a3.len; omega)
  · simp only [hkf, if_true]; exact r.k0
  · refine a2.keep fun b hb => List.getElem?_set_ne fun e => ?_
    rcases a3.blk with h | ⟨_, c, h, h1⟩
    · have := r.dw b (h ▸ hb); rw [← e, r.k0] at this; cases this
    · rw [h] at hb; cases hb; omega
  · intro b hb
    show (if b < H.length then who b else 1) = 1
    split
    · rename_i hlt
      rcases a3.blk with h | ⟨_, c, h, h1⟩
      · exact r.dw b (h ▸ hb)
      · rw [h] at hb; cases hb; omega
    · rfl
  · rcases r.sO with h | ⟨b, tag, h1, h2⟩
    · exact .inl h
    · have hb : blkV sv = some b := by rw [h1]; rfl
      exact .inr ⟨b, tag, h1, by rw [hfin b (List.getElem?_eq_some_iff.1 h2).1 (by rw [r.sw b hb]; decide) (by rw [r.sw b hb]; decide)]; exact h2⟩
  · intro b hb
    simp only [r.sl hb, if_true]; exact r.sw b hb
  · intro i hi hj
    obtain ⟨h1, h2⟩ := r.rn i hi hj
    refine ⟨h1, h2.keep fun b hb => hfin b (h2.lt hb) ?_ ?_⟩ <;> (rw [r.rw i hi b hb]; omega)
  · intro i hi b hb
    have h2 := (r.rn i hi (by have := r.rl; omega)).2
    simp only [h2.lt hb, if_true]; exact r.rw i hi b hb
theorem app_raw {n eb b tag k l : Nat} {cs src : List Value} (hH : H[b]? = some ⟨tag, .cells false n cs⟩) (hl : cs.length = l * n) (hb : (l + k) * eb ≤ 140737488355328) :
    appV n eb H (own b tag l) src k = some (own b (tag + 1) (l + k), H.set b ⟨tag + 1, .cells false n (cs ++ src)⟩) := by
  have hlk : lk H ⟨b, 0, spotOf tag⟩ = some ⟨tag, .cells false n cs⟩ := own_lk hH
  rw [own, appV_full hlk (by rw [Nat.zero_add, hl])]
  simp only [appV0, hlk]
  rw [if_pos ⟨trivial, by rw [Nat.zero_add, hl], hb⟩, List.drop_zero]
/-- A section more. -/
theorem RF.sec (r : RF H kf F dv sv rs who) (hl : F.secs.length ≤ 1000000) (n : List UInt8) : ∃ sv' H' who', appV 2 40 H sv [strV n, .slice none 0 0] 1 = some (sv', H') ∧ sv'.cells = #[sv'] ∧ oneAll sv' = true ∧ H'[kf]? = some ⟨0, .cells false 2 [dv, sv]⟩ ∧ H.length ≤ H'.length ∧
    RF (H'.set kf ⟨0, .cells false 2 [dv, sv']⟩) kf ⟨F.dirs, F.secs ++ [(n, [])]⟩ dv sv' (rs ++ [(n, .slice none 0 0)]) who' := by
  have hkf := r.kfl
  have hrl := r.rl
  -- the new row, wherever it lies
  have main : ∀ (b tag : Nat) (H' : Heap) (who' : Nat → Nat), H'[b]? = some ⟨tag, .cells false 2 (cellsR (rs ++ [(n, .slice none 0 0)]))⟩ → who' b = 2 → H.length ≤ H'.length → (∀ q, q < H.length → who q ≠ 2 → H'[q]? = H[q]?) → (∀ q, q < H.length → who' q = who q) →
      H'[kf]? = some ⟨0, .cells false 2 [dv, sv]⟩ ∧ RF (H'.set kf ⟨0, .cells false 2 [dv, own b tag (rs.length + 1)]⟩) kf ⟨F.dirs, F.secs ++ [(n, [])]⟩ dv (own b tag (rs.length + 1)) (rs ++ [(n, .slice none 0 0)]) who' := by
    intro b tag H' who' hb hwb hlen hsame hwho
    have hkb : kf ≠ b := fun e => by have := hwho kf hkf; rw [r.k0, e, hwb] at this; cases this
    have hfin : ∀ q, q < H.length → who q ≠ 2 → who q ≠ 0 → (H'.set kf ⟨0, .cells false 2 [dv, own b tag (rs.length + 1)]⟩)[q]? = H[q]? := fun q hq h1 h2 => by
      rw [List.getElem?_set_ne (fun e => h2 (by rw [← e]; exact r.k0))]; exact hsame q hq h1
    refine ⟨by rw [hsame kf hkf (by rw [r.k0]; decide)]; exact r.cell, ⟨?_, ?_, ?_, ?_, ?_, ?_, ?_, ?_, ?_, by rw [List.getElem?_set_ne r.zk, hsame 0 (by omega) (by rw [r.z0]; decide)]; exact r.z, by rw [hwho 0 (by omega)]; exact r.z0, r.zk⟩⟩
    · exact List.getElem?_set_self (by omega)
    · rw [hwho kf hkf]; exact r.k0
    · exact r.dO.keep fun c hc => hfin c (r.dO.lt hc) (by rw [r.dw c hc]; decide) (by rw [r.dw c hc]; decide)
    · intro c hc
      rw [hwho c (r.dO.lt hc)]; exact r.dw c hc
    · exact .inr ⟨b, tag, by rw [List.length_append]; rfl, by rw [List.getElem?_set_ne hkb]; exact hb⟩
    · intro c hc; cases hc; exact hwb
    · rw [List.length_append, List.length_append, hrl]; rfl
    · intro i hi hj
      by_cases hlt : i < rs.length
      · have e1 : (rs ++ [(n, Value.slice none 0 0)])[i] = rs[i] := List.getElem_append_left hlt
        have e2 : (F.secs ++ [(n, ([] : List Pr))])[i] = F.secs[i]'(by omega) := List.getElem_append_left (by omega)
        obtain ⟨h1, h2⟩ := r.rn i hlt (by omega)
        refine ⟨by simp only [e1, e2]; exact h1, ?_⟩
        simp only [e1, e2]
        exact h2.keep fun c hc => hfin c (h2.lt hc) (by rw [r.rw i hlt c hc]; omega) (by rw [r.rw i hlt c hc]; omega)
      · have hie : i = rs.length := by rw [List.length_append, List.length_singleton] at hi; omega
        subst hie
        have e1 : (rs ++ [(n, Value.slice none 0 0)])[rs.length] = (n, .slice none 0 0) := by simp
        have e2 : (F.secs ++ [(n, ([] : List Pr))])[rs.length] = (n, []) := by simp [hrl]
        simp only [e1, e2]
        exact ⟨trivial, Own.nil⟩
    · intro i hi c hc
      by_cases hlt : i < rs.length
      · have e1 : (rs ++ [(n, Value.slice none 0 0)])[i] = rs[i] := List.getElem_append_left hlt
        simp only [e1] at hc
        have h2 := (r.rn i hlt (by omega)).2
        rw [hwho c (h2.lt hc)]; exact r.rw i hlt c hc
      · have hie : i = rs.length := by rw [List.length_append, List.length_singleton] at hi; omega
        subst hie
        have e1 : (rs ++ [(n, Value.slice none 0 0)])[rs.length] = (n, .slice none 0 0) := by simp
        simp only [e1] at hc
        cases hc
  rcases r.sO with ⟨h1, h2⟩ | ⟨b, tag, h1, h2⟩
  · subst h1 h2
    obtain ⟨m1, m2⟩ := main H.length 0 (H ++ [⟨0, .cells false 2 [strV n, .slice none 0 0]⟩]) (fun q => if q < H.length then who q else 2) (by rw [List.getElem?_append_right (Nat.le_refl _), Nat.sub_self]; rfl) (by simp) (by rw [List.length_append]; omega) (fun q hq _ => List.getElem?_append_left hq) (fun q hq => by simp [hq])
    exact ⟨own H.length 0 1, _, _, rfl, rfl, oneAll_slice, m1, by rw [List.length_append]; omega, m2⟩
  · subst h1
    have hsb : blkV (own b tag rs.length) = some b := rfl
    have hbl := (List.getElem?_eq_some_iff.1 h2).1
    have a1 := app_raw (eb := 40) (k := 1) (src := [strV n, .slice none 0 0]) h2 (cellsR_len rs) (by omega)
    obtain ⟨m1, m2⟩ := main b (tag + 1) (H.set b ⟨tag + 1, .cells false 2 (cellsR rs ++ [strV n, .slice none 0 0])⟩) who (by rw [List.getElem?_set_self hbl, cellsR_app]; rfl) (r.sw b hsb) (by rw [List.length_set]; exact Nat.le_refl _) (fun q hq hw => List.getElem?_set_ne fun e => hw (by rw [← e]; exact r.sw b hsb)) (fun q hq => rfl)
    exact ⟨own b (tag + 1) (rs.length + 1), _, who, a1, rfl, oneAll_slice, m1, by rw [List.length_set]; exact Nat.le_refl _, m2⟩
/-- The last section's list, as a part. -/
theorem RF.last (r : RF H kf F dv sv rs who) {n : Nat} (hn : F.secs.length = n + 1) : ∃ b tag, sv = own b tag (n + 1) ∧ who b = 2 ∧ SP H b (n * 2) tag (cellsR rs) (rs[n]'(by have := r.rl; omega)).2 (F.secs[n]'(by omega)).2 := by
  have hrl := r.rl
  rcases r.sO with ⟨h1, _⟩ | ⟨b, tag, h1, h2⟩
  · rw [h1] at hrl; simp at hrl; omega
  · have hsb : blkV sv = some b := by rw [h1]; rfl
    have hd := cellsR_drop rs n (by omega)
    refine ⟨b, tag, by rw [h1, hrl, hn], r.sw b hsb, ⟨h2, ⟨cellsR (rs.drop (n + 1)), ?_⟩, (r.rn n (by omega) (by omega)).2, fun e => ?_⟩⟩
    · rw [← List.drop_drop, hd]; rfl
    · have := r.rw n (by omega) b e; rw [r.sw b hsb] at this; omega
/-- A property of the last section is told. -/
theorem RF.set (r : RF H kf F dv sv rs who) {n b tag : Nat} (hn : F.secs.length = n + 1) (hsv : sv = own b tag (n + 1)) (hwb : who b = 2) {h : Heap} {ps' : List Pr} (s : SetOk H h b (n * 2) tag (cellsR rs) (rs[n]'(by have := r.rl; omega)).2 ps') :
    ∃ rs' who', RF h kf ⟨F.dirs, F.secs.set n ((F.secs[n]'(by omega)).1, ps')⟩ dv sv rs' who' := by
  have hrl := r.rl
  have hnr : n < rs.length := by omega
  obtain ⟨pv', e1, e2, e3, e4⟩ := s.ex
  have hkf := r.kfl
  have hlen := s.len
  have hold : ∀ q, q < H.length → who q ≠ 2 → who q ≠ 3 + n → h[q]? = H[q]? := fun q hq h1 h2 => s.old q hq (fun e => h1 (by rw [e]; exact hwb)) fun e => h2 (r.rw n hnr q e)
  have hbl : b < H.length := r.sl (by rw [hsv]; rfl)
  refine ⟨rs.set n (rs[n].1, pv'), fun q => if q < H.length then who q else 3 + n, ⟨?_, ?_, ?_, ?_, ?_, ?_, ?_, ?_, ?_, ?_, ?_, r.zk⟩⟩
  · rw [hold kf hkf (by rw [r.k0]; decide) (by rw [r.k0]; omega)]; exact r.cell
  · simp only [hkf, if_true]; exact r.k0
  · exact r.dO.keep fun c hc => hold c (r.dO.lt hc) (by rw [r.dw c hc]; decide) (by rw [r.dw c hc]; omega)
  · intro c hc
    simp only [r.dO.lt hc, if_true]; exact r.dw c hc
  · refine .inr ⟨b, tag, by rw [hsv, List.length_set, hrl, hn], ?_⟩
    rw [e1, cellsR_set rs n hnr]
  · intro c hc
    simp only [r.sl hc, if_true]; exact r.sw c hc
  · rw [List.length_set, List.length_set]; exact hrl
  · intro i hi hj
    rw [List.length_set] at hi hj
    obtain ⟨h1, h2⟩ := r.rn i hi hj
    by_cases hin : n = i
    · subst hin
      have g1 : (rs.set n (rs[n].1, pv'))[n]'(by rw [List.length_set]; exact hi) = (rs[n].1, pv') := List.getElem_set_self _
      have g2 : (F.secs.set n ((F.secs[n]'hj).1, ps'))[n]'(by rw [List.length_set]; exact hj) = ((F.secs[n]'hj).1, ps') := List.getElem_set_self _
      simp only [g1, g2]
      exact ⟨h1, e2⟩
    · have g1 : (rs.set n (rs[n].1, pv'))[i]'(by rw [List.length_set]; exact hi) = rs[i] := List.getElem_set_ne hin _
      have g2 : (F.secs.set n ((F.secs[n]'(by omega)).1, ps'))[i]'(by rw [List.length_set]; exact hj) = F.secs[i] := List.getElem_set_ne hin _
      simp only [g1, g2]
      exact ⟨h1, h2.keep fun c hc => hold c (h2.lt hc) (by rw [r.rw i hi c hc]; omega) (by rw [r.rw i hi c hc]; omega)⟩
  · intro i hi c hc
    rw [List.length_set] at hi
    by_cases hin : n = i
    · subst hin
      have g1 : (rs.set n (rs[n].1, pv'))[n]'(by rw [List.length_set]; exact hi) = (rs[n].1, pv') := List.getElem_set_self _
      simp only [g1] at hc
      show (if c < H.length then who c else 3 + n) = 3 + n
      split
      · rename_i hlt
        rcases e3 with e | ⟨_, d, e, h1⟩
        · exact r.rw n hnr c (e ▸ hc)
        · rw [e] at hc; cases hc; omega
      · rfl
    · have g1 : (rs.set n (rs[n].1, pv'))[i]'(by rw [List.length_set]; exact hi) = rs[i] := List.getElem_set_ne hin _
      simp only [g1] at hc
      have h2 := (r.rn i hi (by omega)).2
      simp only [h2.lt hc, if_true]; exact r.rw i hi c hc
  · rw [hold 0 (by omega) (by rw [r.z0]; decide) (by rw [r.z0]; omega)]; exact r.z
  · simp only [show 0 < H.length by omega, if_true]; exact r.z0
end
end Go.Proofs.YtbhoaiacnoiocaaDoor
/- A section begins. -/
namespace Go.Proofs.YtbhoaiacnoiocaaDoor
open Go Fw
set_option linter.unusedSimpArgs false
set_option linter.unusedVariables false
set_option linter.unusedSectionVars false

def beginM (F : Fm) (s : List UInt8) : Option Fm :=
  if endsB (s.drop 1) [93] = true then
    if goodB ((s.drop 1).take ((s.drop 1).length - 1)) = true then
      if F.secs.any (fun x => decide (x.1 = (s.drop 1).take ((s.drop 1).length - 1))) = true then none else some ⟨F.dirs, F.secs ++ [((s.drop 1).take ((s.drop 1).length - 1), [])]⟩
    else none
  else none
abbrev blk2 (cs : List Value) : Entry := ⟨0, .cells false 2 cs⟩
section
variable {T : Tab} {kf : Nat} {F : Fm} {dv sv : Value} {rs : List Row} {who : Nat → Nat}
theorem RF.at {H : Heap} (r : RF H kf F dv sv rs who) {i : Nat} (hi : i < F.secs.length) : ∃ p, ixaI H 2 sv (.int .i64 i) = some (p, H) ∧ loadNI H 2 p = some (.agg #[strV F.secs[i].1, (rs[i]'(by have := r.rl; omega)).2], H) ∧ oneC (rs[i]'(by have := r.rl; omega)).2 = true := by
  have hrl := r.rl
  obtain ⟨n1, n2⟩ := r.rn i (by omega) hi
  rcases r.sO with ⟨h1, _⟩ | ⟨b, tag, h1, h2⟩
  · rw [h1] at hrl; simp at hrl; omega
  · subst h1
    have hlk : lk H ⟨b, i * 2, spotOf tag⟩ = some ⟨tag, .cells false 2 (cellsR rs)⟩ := own_lk h2
    refine ⟨.pointer (some ⟨b, i * 2, spotOf tag⟩), ?_, ?_, (Own.oneC' n2).2.2⟩
    · simp only [ixaI, own]
      rw [if_pos ⟨by omega, by omega⟩]
      simp
    · rw [loadNI_ptr]
      simp only [cellsAt, hlk, cellsR_drop rs i (by omega), rdN, Option.map_some, n1]
theorem loop_begin (nm : List UInt8) (hn : F.secs.length ≤ 1000000) : ∀ (k i : Nat) (H : Heap) (env : Env), i + k = F.secs.length → RF H kf F dv sv rs who → env 0 = ptrC kf 0 → env 5 = strV nm → env 25 = sv → env 26 = .int .i64 F.secs.length → env 27 = .int .i64 i →
    W T (.loop F_conf_File_beginl0) env H fun x e h => H.length ≤ h.length ∧ RF h kf F dv sv rs who ∧ ((x = .ret ∧ e 4 = .int .i64 181 ∧ (F.secs.drop i).any (fun x => decide (x.1 = nm)) = true) ∨ (x = .exit 0 ∧ e 0 = ptrC kf 0 ∧ e 5 = strV nm ∧ (F.secs.drop i).any (fun x => decide (x.1 = nm)) = false)) := by
  intro k
  induction k with
  | zero =>
    intro i H env hi r e0 e5 e25 e26 e27
    have q : ¬ ((i : Int) < F.secs.length) := by omega
    rw [w_loop, List.drop_of_length_le (by omega)]
    simp only [fws, cond_true, cond_false, if_true, if_false, unV, isNil, optI, iV, stepI, evalR, reduceIte, reduceCtorEq, Nat.reduceEqDiff, Int.reduceLT, Int.reduceLE, Int.reduceToNat, Nat.reduceLT, Nat.reduceLeDiff, Int.reduceEq, Int.reduceNeg, IntKind.bits, Nat.reduceAdd, Nat.reduceMul, Nat.reducePow, Int.reducePow, ini, fwi, F_conf_File_beginr0_W, F_conf_File_beginr1_W, F_conf_File_beginr2_W, F_conf_File_beginr2_g2, F_conf_File_beginr3_W, F_conf_File_beginr4_W, F_conf_File_beginr5_W, F_conf_File_beginr6_W, F_conf_File_beginr7_W, F_conf_File_beginr8_W, F_conf_File_beginr9_W, F_conf_File_beginl0_W, F_conf_File_beginr10_W, F_conf_File_beginr11_W, F_conf_File_beginc_W, e26, e27, q]
    exact ⟨Nat.le_refl _, r, .inr ⟨trivial, e0, e5, rfl⟩⟩
  | succ k ih =>
    intro i H env hi r e0 e5 e25 e26 e27
    have hix : i < F.secs.length := by omega
    have q : ((i : Int) < F.secs.length) := by omega
    obtain ⟨p, hx, hld, h1⟩ := r.at hix
    have w2 : IntKind.i64.wrap ((i : Int) + 1) = ((i + 1 : Nat) : Int) := by rw [wrapI64 (by omega) (by omega)]; rfl
    have hcell := r.rn i (by have := r.rl; omega) hix
    obtain ⟨u1, u2, u3⟩ := Own.oneC' hcell.2
    rw [w_loop, List.drop_eq_getElem_cons hix, List.any_cons]
    by_cases heq : F.secs[i].1 = nm
    · have b0 : strEq ⟨(F.secs[i].1).toArray⟩ ⟨nm.toArray⟩ = true := by rw [strEq_str]; exact decide_eq_true heq
      simp only [fws, cond_true, cond_false, if_true, if_false, unV, isNil, optI, iV, stepI, evalR, reduceIte, reduceCtorEq, Nat.reduceEqDiff, Int.reduceLT, Int.reduceLE, Int.reduceToNat, Nat.reduceLT, Nat.reduceLeDiff, Int.reduceEq, Int.reduceNeg, IntKind.bits, Nat.reduceAdd, Nat.reduceMul, Nat.reducePow, Int.reducePow, ini, fwh, lk, cellsAt, tagOf, spotOf, rdN, spl, fillL, zr, fwi, F_conf_File_beginr0_W, F_conf_File_beginr1_W, F_conf_File_beginr2_W, F_conf_File_beginr2_g2, F_conf_File_beginr3_W, F_conf_File_beginr4_W, F_conf_File_beginr5_W, F_conf_File_beginr6_W, F_conf_File_beginr7_W, F_conf_File_beginr8_W, F_conf_File_beginr9_W, F_conf_File_beginl0_W, F_conf_File_beginr10_W, F_conf_File_beginr11_W, F_conf_File_beginc_W, e0, e5, e25, e26, e27, q, hx, hld, h1, b0, w2]
      exact ⟨by simp, r.app _, .inl ⟨trivial, trivial, by rw [decide_eq_true heq]; rfl⟩⟩
    · have b0 : strEq ⟨(F.secs[i].1).toArray⟩ ⟨nm.toArray⟩ = false := by rw [strEq_str]; exact decide_eq_false heq
      rw [decide_eq_false heq, Bool.false_or]
      simp only [fws, cond_true, cond_false, if_true, if_false, unV, isNil, optI, iV, stepI, evalR, reduceIte, reduceCtorEq, Nat.reduceEqDiff, Int.reduceLT, Int.reduceLE, Int.reduceToNat, Nat.reduceLT, Nat.reduceLeDiff, Int.reduceEq, Int.reduceNeg, IntKind.bits, Nat.reduceAdd, Nat.reduceMul, Nat.reducePow, Int.reducePow, ini, fwh, lk, cellsAt, tagOf, spotOf, rdN, spl, fillL, zr, fwi, F_conf_File_beginr0_W, F_conf_File_beginr1_W, F_conf_File_beginr2_W, F_conf_File_beginr2_g2, F_conf_File_beginr3_W, F_conf_File_beginr4_W, F_conf_File_beginr5_W, F_conf_File_beginr6_W, F_conf_File_beginr7_W, F_conf_File_beginr8_W, F_conf_File_beginr9_W, F_conf_File_beginl0_W, F_conf_File_beginr10_W, F_conf_File_beginr11_W, F_conf_File_beginc_W, e0, e5, e25, e26, e27, q, hx, hld, h1, b0, w2]
      refine W.mono (ih (i + 1) _ _ (by omega) (r.app _) ?_ ?_ ?_ ?_ ?_) fun x e h ⟨q1, q2⟩ => ⟨by rw [List.length_append] at q1; omega, q2⟩
      all_goals (first | assumption | rfl)
def BgP (H : Heap) (kf : Nat) (F : Fm) (dv sv : Value) (rs : List Row) (who : Nat → Nat) (o : Option Fm) (v : Value) (h : Heap) : Prop :=
  H.length ≤ h.length ∧ ((o = none ∧ v = .int .i64 181 ∧ RF h kf F dv sv rs who) ∨ (∃ F', o = some F' ∧ v = .int .i64 0 ∧ ∃ sv' rs' who', RF h kf F' dv sv' rs' who'))
theorem ev_begin {H : Heap} (t : LF T) (hg : T 31 = some F_conf_good) (hb : T 28 = some F_conf_File_begin) (r : RF H kf F dv sv rs who) (hn : F.secs.length ≤ 1000000) (c : UInt8) (l : List UInt8) (hl : l.length ≤ 1000000) :
    Ev T 28 [ptrC kf 0, strV (c :: l)] H (BgP H kf F dv sv rs who (beginM F (c :: l))) := by
  rw [Ev_fn hb rfl]
  have c1 := f_cs t l [93] (by omega)
  have hd1 : (c :: l).drop 1 = l := rfl
  have hbm : beginM F (c :: l) = if endsB l [93] = true then if goodB (l.take (l.length - 1)) = true then if F.secs.any (fun x => decide (x.1 = l.take (l.length - 1))) = true then none else some ⟨F.dirs, F.secs ++ [(l.take (l.length - 1), [])]⟩ else none else none := rfl
  have q1 : (1 : Int) ≤ ((c :: l).length : Int) := by simp; omega
  have q1' : (1 : Int) ≤ ((l.length + 1 : Nat) : Int) := by omega
  have tk : l.take (l.length + 1 - 1) = l := by simp
  unfold csV at c1
  cases he : endsB l [93] with
  | false =>
    rw [he] at c1 hbm
    rw [if_neg (by decide)] at c1 hbm
    rw [hbm]
    simp only [F_conf_File_begin, fws, cond_true, cond_false, if_true, if_false, unV, isNil, optI, iV, stepI, evalR, reduceIte, reduceCtorEq, Nat.reduceEqDiff, Int.reduceLT, Int.reduceLE, Int.reduceToNat, Nat.reduceLT, Nat.reduceLeDiff, Int.reduceEq, Int.reduceNeg, IntKind.bits, Nat.reduceAdd, Nat.reduceMul, Nat.reducePow, Int.reducePow, ini, fwh, fwi, F_conf_File_beginr0_W, F_conf_File_beginr1_W, F_conf_File_beginr2_W, F_conf_File_beginr2_g2, F_conf_File_beginr3_W, F_conf_File_beginr4_W, F_conf_File_beginr5_W, F_conf_File_beginr6_W, F_conf_File_beginr7_W, F_conf_File_beginr8_W, F_conf_File_beginr9_W, F_conf_File_beginr11_W, F_conf_File_beginc_W, q1', tk, CC_of c1, and_self, Int.le_refl]
    exact ⟨Nat.le_refl _, .inl ⟨rfl, rfl, r⟩⟩
  | true =>
    rw [he] at c1 hbm
    rw [if_pos rfl] at c1 hbm
    have htk : l.take (l.length - [(93 : UInt8)].length) = l.take (l.length - 1) := rfl
    rw [htk] at c1
    generalize hnm : l.take (l.length - 1) = nm at *
    have c2 := f_good (T := T) hg nm (by rw [← hnm, List.length_take]; omega)
    cases hgd : goodB nm with
    | false =>
      rw [hgd] at c2 hbm
      rw [if_neg (by decide)] at hbm
      rw [hbm]
      simp only [F_conf_File_begin, fws, cond_true, cond_false, if_true, if_false, unV, isNil, optI, iV, stepI, evalR, reduceIte, reduceCtorEq, Nat.reduceEqDiff, Int.reduceLT, Int.reduceLE, Int.reduceToNat, Nat.reduceLT, Nat.reduceLeDiff, Int.reduceEq, Int.reduceNeg, IntKind.bits, Nat.reduceAdd, Nat.reduceMul, Nat.reducePow, Int.reducePow, ini, fwh, fwi, F_conf_File_beginr0_W, F_conf_File_beginr1_W, F_conf_File_beginr2_W, F_conf_File_beginr2_g2, F_conf_File_beginr3_W, F_conf_File_beginr4_W, F_conf_File_beginr5_W, F_conf_File_beginr6_W, F_conf_File_beginr7_W, F_conf_File_beginr8_W, F_conf_File_beginr9_W, F_conf_File_beginr11_W, F_conf_File_beginc_W, q1', tk, CC_of c1, CC_of c2, and_self, Int.le_refl]
      exact ⟨Nat.le_refl _, .inl ⟨rfl, rfl, r⟩⟩
    | true =>
      rw [hgd] at c2 hbm
      rw [if_pos rfl] at hbm
      have hcell := r.cell
      have hsl := r.slen
      have hlb : loadI H (ptrC kf 1) = some (sv, H) := by rw [loadI_ptr]; simp only [cellsAt, lk, hcell, tagOf, Nat.beq_refl, cond_true, List.drop_zero, List.drop_succ_cons]
      have hlb' : ∀ h : Heap, loadI h (.pointer (some ⟨kf, 0 + 1, none⟩)) = loadI h (ptrC kf 1) := fun _ => rfl
      simp only [F_conf_File_begin, fws, cond_true, cond_false, if_true, if_false, unV, isNil, optI, iV, stepI, evalR, reduceIte, reduceCtorEq, Nat.reduceEqDiff, Int.reduceLT, Int.reduceLE, Int.reduceToNat, Nat.reduceLT, Nat.reduceLeDiff, Int.reduceEq, Int.reduceNeg, IntKind.bits, Nat.reduceAdd, Nat.reduceMul, Nat.reducePow, Int.reducePow, ini, fwh, faI_ptr, size_str, extract_str, F_conf_File_beginr0_W, F_conf_File_beginr1_W, F_conf_File_beginr2_W, F_conf_File_beginr2_g2, F_conf_File_beginr3_W, F_conf_File_beginr4_W, F_conf_File_beginr5_W, F_conf_File_beginr6_W, F_conf_File_beginr7_W, F_conf_File_beginr8_W, F_conf_File_beginr9_W, F_conf_File_beginr11_W, F_conf_File_beginc_W, q1', tk, CC_of c1, CC_of c2, and_self, Int.le_refl, hlb', hlb, hsl]
      refine W.mono (loop_begin nm hn F.secs.length 0 H _ (Nat.zero_add _) r ?_ ?_ ?_ ?_ ?_) fun x e h ⟨q1, q2, q3⟩ => ?_
      all_goals try (first | assumption | rfl)
      rw [List.drop_zero] at q3
      rcases q3 with ⟨rfl, e4, hany⟩ | ⟨rfl, e0, e5, hany⟩
      · rw [hany, if_pos rfl] at hbm
        rw [hbm]
        simp only [fws, cond_true, cond_false, if_true, if_false, unV, isNil, optI, iV, stepI, evalR, reduceIte, reduceCtorEq, Nat.reduceEqDiff, Int.reduceLT, Int.reduceLE, Int.reduceToNat, Nat.reduceLT, Nat.reduceLeDiff, Int.reduceEq, Int.reduceNeg, IntKind.bits, Nat.reduceAdd, Nat.reduceMul, Nat.reducePow, Int.reducePow, ini, F_conf_File_beginr0_W, F_conf_File_beginr1_W, F_conf_File_beginr2_W, F_conf_File_beginr2_g2, F_conf_File_beginr3_W, F_conf_File_beginr4_W, F_conf_File_beginr5_W, F_conf_File_beginr6_W, F_conf_File_beginr7_W, F_conf_File_beginr8_W, F_conf_File_beginr9_W, F_conf_File_beginl0_W, F_conf_File_beginr10_W, F_conf_File_beginr11_W, F_conf_File_beginc_W, e4]
        exact ⟨q1, .inl ⟨rfl, rfl, q2⟩⟩
      · rw [hany, if_neg (by decide)] at hbm
        rw [hbm]
        obtain ⟨sv', H', who', a1, a2, a3, a4, a5, a6⟩ := q2.sec hn nm
        have hcell2 := q2.cell
        have hlb2 : loadI h (ptrC kf 1) = some (sv, h) := by rw [loadI_ptr]; simp only [cellsAt, lk, hcell2, tagOf, Nat.beq_refl, cond_true, List.drop_zero, List.drop_succ_cons]
        have hlk : lk H' ⟨kf, 0 + 1, none⟩ = some ⟨0, .cells false 2 [dv, sv]⟩ := by simp only [lk, a4, tagOf, Nat.beq_refl, cond_true]
        simp only [fws, cond_true, cond_false, if_true, if_false, unV, isNil, optI, iV, stepI, evalR, reduceIte, reduceCtorEq, Nat.reduceEqDiff, Int.reduceLT, Int.reduceLE, Int.reduceToNat, Nat.reduceLT, Nat.reduceLeDiff, Int.reduceEq, Int.reduceNeg, IntKind.bits, Nat.reduceAdd, Nat.reduceMul, Nat.reducePow, Int.reducePow, ini, fwh, spl, fillL, zr, faI_ptr, srcOf_immV, F_conf_File_beginr0_W, F_conf_File_beginr1_W, F_conf_File_beginr2_W, F_conf_File_beginr2_g2, F_conf_File_beginr3_W, F_conf_File_beginr4_W, F_conf_File_beginr5_W, F_conf_File_beginr6_W, F_conf_File_beginr7_W, F_conf_File_beginr8_W, F_conf_File_beginr9_W, F_conf_File_beginl0_W, F_conf_File_beginr10_W, F_conf_File_beginr11_W, F_conf_File_beginc_W, e0, e5, hlb', hlb2, a1, a2, a3, hlk]
        exact ⟨by rw [List.length_set]; omega, .inr ⟨_, rfl, rfl, sv', _, who', a6⟩⟩
end
end Go.Proofs.YtbhoaiacnoiocaaDoor
