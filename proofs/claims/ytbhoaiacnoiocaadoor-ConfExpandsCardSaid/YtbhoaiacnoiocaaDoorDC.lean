/- A line. -/
import Derived.Test.YtbhoaiacnoiocaaDoorDB
namespace Go.Proofs.YtbhoaiacnoiocaaDoor
open Go Fw
set_option linter.unusedSimpArgs false
set_option linter.unusedVariables false
set_option linter.unusedSectionVars false

def dirL : List UInt8 := [100, 105, 114, 46]
def keyL (s : List UInt8) : List UInt8 := s.takeWhile (· != 61)
def nameL (s : List UInt8) : List UInt8 := trimF (trimS (keyL s) [43])
def valL (s : List UInt8) : List UInt8 := trimF (s.drop ((keyL s).length + 1))
def moreL (s : List UInt8) : Bool := endsB (keyL s) [43]
def propM (icl : List UInt8 → Bool) (F : Fm) (n v : List UInt8) (more : Bool) (at_ : Int) : Int ⊕ Fm :=
  if goodB n = true then
    if h : 0 < F.secs.length then .inr ⟨F.dirs, F.secs.set (F.secs.length - 1) ((F.secs[F.secs.length - 1]'(by omega)).1, setP (F.secs[F.secs.length - 1]'(by omega)).2 ⟨n, v, at_⟩ more)⟩
    else if begB n dirL = true ∧ n.drop 4 ≠ [] ∧ more = false ∧ icl v = true then .inr ⟨F.dirs ++ [⟨n.drop 4, v, at_⟩], F.secs⟩ else .inl 180
  else .inl 180
def bgR : Option Fm → Int ⊕ Fm
  | none => .inl 181
  | some F' => .inr F'
def lineM (icl : List UInt8 → Bool) (F : Fm) (s : List UInt8) (at_ : Int) : Int ⊕ Fm :=
  if s.headD 0 = 91 then bgR (beginM F s)
  else if 61 ∈ s then propM icl F (nameL s) (valL s) (moreL s) at_ else .inl 180
theorem trimF_len (l : List UInt8) : (trimF l).length ≤ l.length := by
  unfold trimF
  rw [List.length_reverse]
  refine Nat.le_trans (List.dropWhile_sublist _).length_le ?_
  rw [List.length_reverse]
  exact (List.dropWhile_sublist _).length_le
theorem trimS_len (l m : List UInt8) : (trimS l m).length ≤ l.length := by
  unfold trimS
  split
  · rw [List.length_take]; omega
  · exact Nat.le_refl _
def LnP (H : Heap) (kf : Nat) (F : Fm) (o : Int ⊕ Fm) (v : Value) (h : Heap) : Prop :=
  H.length ≤ h.length ∧ match o with
  | .inl e => e ≠ 0 ∧ v = .int .i64 e ∧ ∃ dv sv rs who, RF h kf F dv sv rs who
  | .inr F' => v = .int .i64 0 ∧ ∃ dv sv rs who, RF h kf F' dv sv rs who
structure CF (T : Tab) : Prop where
  lf : LF T
  pa : PaF T
  blank : T 27 = some F_conf_blank
  trim : T 17 = some F_conf_trim
  plain : T 16 = some F_conf_plain
  good : T 31 = some F_conf_good
  betw : T 45 = some F_conf_between
  set : T 32 = some F_conf_Section_set
  begin : T 28 = some F_conf_File_begin
  line : T 18 = some F_conf_File_line
  parse : T 8 = some F_conf_Parse
  get : T 10 = some F_conf_Section_Get
def lim (N : Nat) : Nat := (List.replicate N 40000).sum
theorem lim_s (N : Nat) : lim (N + 1) = 40000 + lim N := by simp [lim, List.replicate_succ]
theorem lim_eq (N : Nat) : lim N = N * 40000 := by simp [lim]
structure OkF (F : Fm) (N : Nat) : Prop where
  d : F.dirs.length ≤ N
  s : F.secs.length ≤ N
  p : ∀ x ∈ F.secs, x.2.length ≤ N ∧ ∀ q ∈ x.2, q.v.length ≤ lim N
section
variable {T : Tab} {kf : Nat} {F : Fm} {dv sv : Value} {rs : List Row} {who : Nat → Nat}
/-- A property: the steps behind the name. -/
theorem ln_prop {icl : List UInt8 → Bool} (t : CF T) (hicl : ∀ l : List UInt8, l.length ≤ 1000000 → FnV T 34 [strV l] (.bool (icl l))) {H : Heap} {N : Nat} (hN : N ≤ 100000) (r : RF H kf F dv sv rs who) (hF : OkF F N) {n v : List UInt8} {more : Bool} {at_ : Int} {env : Env} {pb : Nat} (hn : n.length ≤ 20000) (hv : v.length ≤ 20000)
    (e0 : env 0 = ptrC kf 0) (e2 : env 2 = .int .i64 at_) (e9 : env 9 = .bool true) (e10 : env 10 = .bool more) (e11 : env 11 = ptrC pb 0) (hp : H[pb]? = some (blk3 [strV n, strV v, .int .i64 at_])) :
    W T (.seq (.seq (.reg F_conf_File_liner6) (.cond (.t 43) (.seq (.reg F_conf_File_liner7) .ret) .skip)) (.seq (.seq (.reg F_conf_File_liner8) (.seq (.reg F_conf_File_liner9) (.cond (.t 50) (.seq (.dreg F_conf_File_liner10 []) (.seq (.reg F_conf_File_liner11) .ret)) .skip))) (.seq (.reg F_conf_File_liner12) (.seq (.seq (.reg F_conf_File_liner13) (.cond (.t 81) (.seq (.reg F_conf_File_liner14) .ret) .skip)) (.seq (.dreg F_conf_File_liner15 []) (.seq (.reg F_conf_File_liner16) .ret)))))) env H
      (retQ [.tmp 6] (LnP H kf F (propM icl F n v more at_))) := by
  have c1 := f_good (T := T) t.good n (by omega)
  have hcell := r.cell
  have hsl := r.slen
  have hlp0 : loadI H (ptrC pb 0) = some (strV n, H) := by rw [loadI_ptr]; simp only [cellsAt, lk, hp, tagOf, Nat.beq_refl, cond_true, List.drop_zero]
  have hlp1 : loadI H (ptrC pb 1) = some (strV v, H) := by rw [loadI_ptr]; simp only [cellsAt, lk, hp, tagOf, Nat.beq_refl, cond_true, List.drop_zero, List.drop_succ_cons]
  have hlpN : loadNI H 3 (ptrC pb 0) = some (prA ⟨n, v, at_⟩, H) := by rw [loadNI_ptr]; simp only [cellsAt, lk, hp, tagOf, Nat.beq_refl, cond_true, List.drop_zero]; rfl
  have hlf1 : loadI H (ptrC kf 1) = some (sv, H) := by rw [loadI_ptr]; simp only [cellsAt, lk, hcell, tagOf, Nat.beq_refl, cond_true, List.drop_zero, List.drop_succ_cons]
  have hlf0 : loadI H (ptrC kf 0) = some (dv, H) := by rw [loadI_ptr]; simp only [cellsAt, lk, hcell, tagOf, Nat.beq_refl, cond_true, List.drop_zero]
  have hS := hF.s
  cases hgd : goodB n with
  | false =>
    rw [hgd] at c1
    have hm : propM icl F n v more at_ = .inl 180 := by unfold propM; rw [hgd, if_neg (by decide)]
    rw [hm]
    simp only [fws, cond_true, cond_false, if_true, if_false, unV, isNil, optI, iV, stepI, evalR, reduceIte, reduceCtorEq, Nat.reduceEqDiff, Int.reduceLT, Int.reduceLE, Int.reduceToNat, Nat.reduceLT, Nat.reduceLeDiff, Int.reduceEq, Int.reduceNeg, IntKind.bits, Nat.reduceAdd, Nat.reduceMul, Nat.reducePow, Int.reducePow, ini, fwh, faI_ptr, F_conf_File_liner0_W, F_conf_File_liner1_W, F_conf_File_liner2_W, F_conf_File_liner3_W, F_conf_File_liner4_W, F_conf_File_liner5_W, F_conf_File_liner6_W, F_conf_File_liner6_g2, F_conf_File_liner7_W, F_conf_File_liner8_W, F_conf_File_liner9_W, F_conf_File_liner10_W, F_conf_File_liner11_W, F_conf_File_liner12_W, F_conf_File_liner13_W, F_conf_File_liner13_g2, F_conf_File_liner13_g6, F_conf_File_liner13_g9, F_conf_File_liner14_W, F_conf_File_liner15_W, F_conf_File_liner16_W, F_conf_File_linec_W, e9, e11, hlp0, CC_of c1]
    exact ⟨Nat.le_refl _, by decide, rfl, _, _, _, _, r⟩
  | true =>
    rw [hgd] at c1
    by_cases hs : 0 < F.secs.length
    · obtain ⟨m, hm⟩ : ∃ m, F.secs.length = m + 1 := ⟨F.secs.length - 1, by omega⟩
      have q1 : (0 : Int) < (F.secs.length : Int) := by omega
      have w1 : IntKind.i64.wrap ((F.secs.length : Int) - 1) = (m : Int) := by rw [wrapI64 (by omega) (by omega)]; omega
      obtain ⟨b, tag, hsv, hwb, sp⟩ := r.last hm
      have hx : ixaI H 2 sv (.int .i64 m) = some (.pointer (some ⟨b, m * 2, spotOf tag⟩), H) := by
        rw [hsv]
        simp only [ixaI, own]
        rw [if_pos ⟨by omega, by omega⟩]
        simp
      obtain ⟨p1, p2⟩ := hF.p _ (List.getElem_mem (show m < F.secs.length by omega))
      have hpr : propM icl F n v more at_ = .inr ⟨F.dirs, F.secs.set m ((F.secs[m]'(by omega)).1, setP (F.secs[m]'(by omega)).2 ⟨n, v, at_⟩ more)⟩ := by
        unfold propM
        rw [hgd, if_pos rfl, dif_pos hs]
        have e : F.secs.length - 1 = m := by omega
        simp only [e]
      rw [hpr]
      simp only [fws, cond_true, cond_false, if_true, if_false, unV, isNil, optI, iV, stepI, evalR, reduceIte, reduceCtorEq, Nat.reduceEqDiff, Int.reduceLT, Int.reduceLE, Int.reduceToNat, Nat.reduceLT, Nat.reduceLeDiff, Int.reduceEq, Int.reduceNeg, IntKind.bits, Nat.reduceAdd, Nat.reduceMul, Nat.reducePow, Int.reducePow, ini, fwh, faI_ptr, F_conf_File_liner0_W, F_conf_File_liner1_W, F_conf_File_liner2_W, F_conf_File_liner3_W, F_conf_File_liner4_W, F_conf_File_liner5_W, F_conf_File_liner6_W, F_conf_File_liner6_g2, F_conf_File_liner7_W, F_conf_File_liner8_W, F_conf_File_liner9_W, F_conf_File_liner10_W, F_conf_File_liner12_W, F_conf_File_liner13_W, F_conf_File_liner13_g2, F_conf_File_liner13_g6, F_conf_File_liner13_g9, F_conf_File_liner14_W, F_conf_File_liner15_W, F_conf_File_liner16_W, F_conf_File_linec_W, e0, e9, e10, e11, hlp0, hlpN, CC_of c1, hlf1, hsl, q1, w1, hx]
      refine (ev_set (p := ⟨n, v, at_⟩) t.lf t.betw t.set sp (by omega) (fun q hq => by have := p2 q hq; rw [lim_eq] at this; omega) (by show v.length ≤ _; omega) (by show n.length ≤ _; omega)).mono fun u h ⟨hu, hso⟩ => ?_
      obtain ⟨rs', who', r'⟩ := r.set hm hsv hwb hso
      simp only [fws, cond_true, cond_false, if_true, if_false, unV, isNil, optI, iV, stepI, evalR, reduceIte, reduceCtorEq, Nat.reduceEqDiff, Int.reduceLT, Int.reduceLE, Int.reduceToNat, Nat.reduceLT, Nat.reduceLeDiff, Int.reduceEq, Int.reduceNeg, IntKind.bits, Nat.reduceAdd, Nat.reduceMul, Nat.reducePow, Int.reducePow, ini, F_conf_File_liner0_W, F_conf_File_liner1_W, F_conf_File_liner2_W, F_conf_File_liner3_W, F_conf_File_liner4_W, F_conf_File_liner5_W, F_conf_File_liner6_W, F_conf_File_liner6_g2, F_conf_File_liner7_W, F_conf_File_liner8_W, F_conf_File_liner9_W, F_conf_File_liner10_W, F_conf_File_liner11_W, F_conf_File_liner12_W, F_conf_File_liner13_W, F_conf_File_liner13_g2, F_conf_File_liner13_g6, F_conf_File_liner13_g9, F_conf_File_liner14_W, F_conf_File_liner15_W, F_conf_File_liner16_W, F_conf_File_linec_W]
      exact ⟨hso.len, rfl, _, _, _, _, r'⟩
    · have q1 : ¬ (0 : Int) < (F.secs.length : Int) := by omega
      have c2 := f_cp t.lf n dirL (by omega)
      have c3 := hicl v (by omega)
      have hpr : propM icl F n v more at_ = if begB n dirL = true ∧ n.drop 4 ≠ [] ∧ more = false ∧ icl v = true then .inr ⟨F.dirs ++ [⟨n.drop 4, v, at_⟩], F.secs⟩ else .inl 180 := by
        unfold propM
        rw [hgd, if_pos rfl, dif_neg hs]
      unfold cpV at c2
      have bad : ∀ (h : propM icl F n v more at_ = .inl 180) , LnP H kf F (propM icl F n v more at_) (.int .i64 180) H := fun h => by rw [h]; exact ⟨Nat.le_refl _, by decide, rfl, _, _, _, _, r⟩
      cases hb : begB n dirL with
      | false =>
        rw [hb, if_neg (by decide)] at c2
        unfold dirL at c2
        have := bad (by rw [hpr, hb, if_neg (by simp)])
        generalize LnP H kf F (propM icl F n v more at_) = K at *
        simp only [fws, cond_true, cond_false, if_true, if_false, unV, isNil, optI, iV, stepI, evalR, reduceIte, reduceCtorEq, Nat.reduceEqDiff, Int.reduceLT, Int.reduceLE, Int.reduceToNat, Nat.reduceLT, Nat.reduceLeDiff, Int.reduceEq, Int.reduceNeg, IntKind.bits, Nat.reduceAdd, Nat.reduceMul, Nat.reducePow, Int.reducePow, ini, fwh, faI_ptr, F_conf_File_liner0_W, F_conf_File_liner1_W, F_conf_File_liner2_W, F_conf_File_liner3_W, F_conf_File_liner4_W, F_conf_File_liner5_W, F_conf_File_liner6_W, F_conf_File_liner6_g2, F_conf_File_liner7_W, F_conf_File_liner8_W, F_conf_File_liner9_W, F_conf_File_liner10_W, F_conf_File_liner11_W, F_conf_File_liner12_W, F_conf_File_liner13_W, F_conf_File_liner13_g2, F_conf_File_liner13_g6, F_conf_File_liner13_g9, F_conf_File_liner14_W, F_conf_File_liner15_W, F_conf_File_liner16_W, F_conf_File_linec_W, e0, e9, e10, e11, hlp0, hlp1, hlpN, CC_of c1, hlf1, hsl, q1, CC_of c2]
        exact this
      | true =>
        rw [hb, if_pos rfl] at c2
        have hd4 : dirL.length = 4 := rfl
        rw [hd4] at c2
        unfold dirL at c2
        by_cases hne : n.drop 4 = []
        · have := bad (by rw [hpr, if_neg (by simp [hne])])
          have b0 : strEq ⟨(n.drop 4).toArray⟩ ⟨#[]⟩ = true := by rw [hne]; rfl
          generalize LnP H kf F (propM icl F n v more at_) = K at *
          simp only [fws, cond_true, cond_false, if_true, if_false, unV, isNil, optI, iV, stepI, evalR, reduceIte, reduceCtorEq, Nat.reduceEqDiff, Int.reduceLT, Int.reduceLE, Int.reduceToNat, Nat.reduceLT, Nat.reduceLeDiff, Int.reduceEq, Int.reduceNeg, IntKind.bits, Nat.reduceAdd, Nat.reduceMul, Nat.reducePow, Int.reducePow, ini, fwh, faI_ptr, F_conf_File_liner0_W, F_conf_File_liner1_W, F_conf_File_liner2_W, F_conf_File_liner3_W, F_conf_File_liner4_W, F_conf_File_liner5_W, F_conf_File_liner6_W, F_conf_File_liner6_g2, F_conf_File_liner7_W, F_conf_File_liner8_W, F_conf_File_liner9_W, F_conf_File_liner10_W, F_conf_File_liner11_W, F_conf_File_liner12_W, F_conf_File_liner13_W, F_conf_File_liner13_g2, F_conf_File_liner13_g6, F_conf_File_liner13_g9, F_conf_File_liner14_W, F_conf_File_liner15_W, F_conf_File_liner16_W, F_conf_File_linec_W, e0, e9, e10, e11, hlp0, hlp1, hlpN, CC_of c1, hlf1, hsl, q1, CC_of c2, b0]
          exact this
        · have b0 := ne_str hne
          cases hm : more with
          | true =>
            subst hm
            have := bad (by rw [hpr, if_neg (by simp)])
            generalize LnP H kf F (propM icl F n v true at_) = K at *
            simp only [fws, cond_true, cond_false, if_true, if_false, unV, isNil, optI, iV, stepI, evalR, reduceIte, reduceCtorEq, Nat.reduceEqDiff, Int.reduceLT, Int.reduceLE, Int.reduceToNat, Nat.reduceLT, Nat.reduceLeDiff, Int.reduceEq, Int.reduceNeg, IntKind.bits, Nat.reduceAdd, Nat.reduceMul, Nat.reducePow, Int.reducePow, ini, fwh, faI_ptr, F_conf_File_liner0_W, F_conf_File_liner1_W, F_conf_File_liner2_W, F_conf_File_liner3_W, F_conf_File_liner4_W, F_conf_File_liner5_W, F_conf_File_liner6_W, F_conf_File_liner6_g2, F_conf_File_liner7_W, F_conf_File_liner8_W, F_conf_File_liner9_W, F_conf_File_liner10_W, F_conf_File_liner11_W, F_conf_File_liner12_W, F_conf_File_liner13_W, F_conf_File_liner13_g2, F_conf_File_liner13_g6, F_conf_File_liner13_g9, F_conf_File_liner14_W, F_conf_File_liner15_W, F_conf_File_liner16_W, F_conf_File_linec_W, e0, e9, e10, e11, hlp0, hlp1, hlpN, CC_of c1, hlf1, hsl, q1, CC_of c2, b0]
            exact this
          | false =>
            subst hm
            cases hi : icl v with
            | false =>
              rw [hi] at c3
              have := bad (by rw [hpr, if_neg (by simp [hi])])
              generalize LnP H kf F (propM icl F n v false at_) = K at *
              simp only [fws, cond_true, cond_false, if_true, if_false, unV, isNil, optI, iV, stepI, evalR, reduceIte, reduceCtorEq, Nat.reduceEqDiff, Int.reduceLT, Int.reduceLE, Int.reduceToNat, Nat.reduceLT, Nat.reduceLeDiff, Int.reduceEq, Int.reduceNeg, IntKind.bits, Nat.reduceAdd, Nat.reduceMul, Nat.reducePow, Int.reducePow, ini, fwh, faI_ptr, F_conf_File_liner0_W, F_conf_File_liner1_W, F_conf_File_liner2_W, F_conf_File_liner3_W, F_conf_File_liner4_W, F_conf_File_liner5_W, F_conf_File_liner6_W, F_conf_File_liner6_g2, F_conf_File_liner7_W, F_conf_File_liner8_W, F_conf_File_liner9_W, F_conf_File_liner10_W, F_conf_File_liner11_W, F_conf_File_liner12_W, F_conf_File_liner13_W, F_conf_File_liner13_g2, F_conf_File_liner13_g6, F_conf_File_liner13_g9, F_conf_File_liner14_W, F_conf_File_liner15_W, F_conf_File_liner16_W, F_conf_File_linec_W, e0, e9, e10, e11, hlp0, hlp1, hlpN, CC_of c1, hlf1, hsl, q1, CC_of c2, b0, CC_of c3]
              exact this
            | true =>
              rw [hi] at c3
              rw [if_pos ⟨hb, hne, rfl, hi⟩] at hpr
              obtain ⟨dv', H', who', a1, a2, a3, a4, a5, a6⟩ := r.dir (by have := hF.d; omega) ⟨n.drop 4, v, at_⟩
              have hlk : lk H' ⟨kf, 0, none⟩ = some ⟨0, .cells false 2 [dv, sv]⟩ := by simp only [lk, a4, tagOf, Nat.beq_refl, cond_true]
              have : LnP H kf F (propM icl F n v false at_) (.int .i64 0) (H'.set kf ⟨0, .cells false 2 [dv', sv]⟩) := by rw [hpr]; exact ⟨by rw [List.length_set]; exact a5, rfl, _, _, _, _, a6⟩
              generalize LnP H kf F (propM icl F n v false at_) = K at *
              simp only [fws, cond_true, cond_false, if_true, if_false, unV, isNil, optI, iV, stepI, evalR, reduceIte, reduceCtorEq, Nat.reduceEqDiff, Int.reduceLT, Int.reduceLE, Int.reduceToNat, Nat.reduceLT, Nat.reduceLeDiff, Int.reduceEq, Int.reduceNeg, IntKind.bits, Nat.reduceAdd, Nat.reduceMul, Nat.reducePow, Int.reducePow, ini, fwh, spl, fillL, zr, faI_ptr, F_conf_File_liner0_W, F_conf_File_liner1_W, F_conf_File_liner2_W, F_conf_File_liner3_W, F_conf_File_liner4_W, F_conf_File_liner5_W, F_conf_File_liner6_W, F_conf_File_liner6_g2, F_conf_File_liner7_W, F_conf_File_liner8_W, F_conf_File_liner9_W, F_conf_File_liner10_W, F_conf_File_liner11_W, F_conf_File_liner12_W, F_conf_File_liner13_W, F_conf_File_liner13_g2, F_conf_File_liner13_g6, F_conf_File_liner13_g9, F_conf_File_liner14_W, F_conf_File_liner15_W, F_conf_File_liner16_W, F_conf_File_linec_W, e0, e2, e9, e10, e11, hlp0, hlp1, hlpN, CC_of c1, hlf1, hlf0, hsl, q1, CC_of c2, b0, CC_of c3, srcOf_immV, a1, a2, a3, hlk]
              exact this
end
end Go.Proofs.YtbhoaiacnoiocaaDoor
/- A line, whole. -/
namespace Go.Proofs.YtbhoaiacnoiocaaDoor
open Go Fw
set_option linter.unusedSimpArgs false
set_option linter.unusedVariables false
set_option linter.unusedSectionVars false

theorem u8_ne {c : UInt8} (h : c ≠ 91) : ¬ (c.toNat : Int) = 91 := fun e => h (UInt8.toNat_inj.1 (by
  have e2 : c.toNat = 91 := by omega
  rw [e2]; rfl))
theorem retQ_mono {res : List IRes} {K K' : Value → Heap → Prop} (hk : ∀ v h, K v h → K' v h) {x : Ex} {e : Env} {h : Heap} (hq : retQ res K x e h) : retQ res K' x e h := by
  cases x with
  | ret => obtain ⟨vs, h1, h2⟩ := hq; exact ⟨vs, h1, hk _ _ h2⟩
  | normal => obtain ⟨vs, h1, h2⟩ := hq; exact ⟨vs, h1, hk _ _ h2⟩
  | exit n => exact hq.elim
section
variable {T : Tab} {kf : Nat} {F : Fm} {dv sv : Value} {rs : List Row} {who : Nat → Nat}
theorem ev_line {icl : List UInt8 → Bool} (t : CF T) (hicl : ∀ l : List UInt8, l.length ≤ 1000000 → FnV T 34 [strV l] (.bool (icl l))) {H : Heap} {N : Nat} (hN : N ≤ 100000) (r : RF H kf F dv sv rs who) (hF : OkF F N) (c : UInt8) (l : List UInt8) (hl : (c :: l).length ≤ 20000) (at_ : Int) :
    Ev T 18 [ptrC kf 0, strV (c :: l), .int .i64 at_] H (LnP H kf F (lineM icl F (c :: l) at_)) := by
  rw [Ev_fn t.line rfl]
  have q1 : (0 : Int) < ((c :: l).length : Int) := by simp
  have g : (c :: l).getD 0 0 = c := rfl
  by_cases hc : c = 91
  · have hm : lineM icl F (c :: l) at_ = bgR (beginM F (c :: l)) := by unfold lineM; rw [if_pos (by simpa using hc)]
    have d0 : decide ((c.toNat : Int) = 91) = true := decide_eq_true (by rw [hc]; rfl)
    have fin : ∀ v h, BgP H kf F dv sv rs who (beginM F (c :: l)) v h → LnP H kf F (lineM icl F (c :: l) at_) v h := by
      intro v h ⟨h1, h2⟩
      rw [hm]
      rcases h2 with ⟨h3, h4, h5⟩ | ⟨F', h3, h4, h5⟩
      · rw [h3]; exact ⟨h1, by decide, h4, _, _, _, _, h5⟩
      · rw [h3]
        obtain ⟨sv', rs', who', h6⟩ := h5
        exact ⟨h1, h4, _, _, _, _, h6⟩
    generalize LnP H kf F (lineM icl F (c :: l) at_) = K at *
    simp only [F_conf_File_line, fws, cond_true, cond_false, if_true, if_false, unV, isNil, optI, iV, stepI, evalR, reduceIte, reduceCtorEq, Nat.reduceEqDiff, Int.reduceLT, Int.reduceLE, Int.reduceToNat, Nat.reduceLT, Nat.reduceLeDiff, Int.reduceEq, Int.reduceNeg, IntKind.bits, Nat.reduceAdd, Nat.reduceMul, Nat.reducePow, Int.reducePow, ini, size_str, bt_str, F_conf_File_liner0_W, F_conf_File_liner1_W, F_conf_File_liner2_W, F_conf_File_liner7_W, F_conf_File_liner9_W, F_conf_File_liner10_W, F_conf_File_liner11_W, F_conf_File_liner12_W, F_conf_File_liner13_W, F_conf_File_liner13_g2, F_conf_File_liner13_g6, F_conf_File_liner13_g9, F_conf_File_liner14_W, F_conf_File_liner15_W, F_conf_File_liner16_W, F_conf_File_linec_W, q1, g, d0, Int.toNat_zero, and_self, true_and, Int.le_refl]
    refine (ev_begin t.lf t.good t.begin r (by have := hF.s; omega) c l (by simp at hl; omega)).mono fun v h hq => ?_
    simp only [fws, cond_true, cond_false, if_true, if_false, unV, isNil, optI, iV, stepI, evalR, reduceIte, reduceCtorEq, Nat.reduceEqDiff, Int.reduceLT, Int.reduceLE, Int.reduceToNat, Nat.reduceLT, Nat.reduceLeDiff, Int.reduceEq, Int.reduceNeg, IntKind.bits, Nat.reduceAdd, Nat.reduceMul, Nat.reducePow, Int.reducePow, ini, F_conf_File_liner0_W, F_conf_File_liner1_W, F_conf_File_liner2_W, F_conf_File_liner3_W, F_conf_File_liner4_W, F_conf_File_liner5_W, F_conf_File_liner6_W, F_conf_File_liner6_g2, F_conf_File_liner7_W, F_conf_File_liner8_W, F_conf_File_liner9_W, F_conf_File_liner10_W, F_conf_File_liner11_W, F_conf_File_liner12_W, F_conf_File_liner13_W, F_conf_File_liner13_g2, F_conf_File_liner13_g6, F_conf_File_liner13_g9, F_conf_File_liner14_W, F_conf_File_liner15_W, F_conf_File_liner16_W, F_conf_File_linec_W]
    exact fin v h hq
  · have hm : lineM icl F (c :: l) at_ = if 61 ∈ (c :: l) then propM icl F (nameL (c :: l)) (valL (c :: l)) (moreL (c :: l)) at_ else .inl 180 := by unfold lineM; rw [if_neg (by simpa using hc)]
    have d0 : decide ((c.toNat : Int) = 91) = false := decide_eq_false (u8_ne hc)
    have c1 := f_cut t.lf (c :: l) (by omega) 61
    unfold cutV at c1
    generalize hs : c :: l = s at *
    by_cases h61 : (61 : UInt8) ∈ s
    · rw [if_pos h61] at c1 hm
      have hkl : (keyL s).length ≤ 20000 := Nat.le_trans (List.takeWhile_sublist _).length_le hl
      have hvl : (valL s).length ≤ 20000 := Nat.le_trans (trimF_len _) (by rw [List.length_drop]; omega)
      have hnl : (nameL s).length ≤ 20000 := Nat.le_trans (trimF_len _) (Nat.le_trans (trimS_len _ _) hkl)
      have c2 := f_hs t.lf (keyL s) [43] (by omega)
      have c3 := f_ts t.lf (keyL s) [43] (by omega)
      have c4 := f_trim t.blank t.trim (trimS (keyL s) [43]) (by have := trimS_len (keyL s) [43]; omega)
      have c5 := f_trim t.blank t.trim (s.drop ((keyL s).length + 1)) (by rw [List.length_drop]; omega)
      have r' := r.app [blk3 [strV (nameL s), strV (valL s), .int .i64 at_]]
      have hp : (H ++ [blk3 [strV (nameL s), strV (valL s), .int .i64 at_]])[H.length]? = some (blk3 [strV (nameL s), strV (valL s), .int .i64 at_]) := by rw [List.getElem?_append_right (Nat.le_refl _), Nat.sub_self]; rfl
      rw [hm]
      have hk : s.takeWhile (· != 61) = keyL s := rfl
      have hn' : trimF (trimS (keyL s) [43]) = nameL s := rfl
      have hv' : trimF (s.drop ((keyL s).length + 1)) = valL s := rfl
      have hm' : endsB (keyL s) [43] = moreL s := rfl
      rw [hk] at c1
      rw [hn'] at c4
      rw [hv'] at c5
      rw [hm'] at c2
      show W T F_conf_File_linec _ _ (retQ [.tmp 6] (LnP H kf F (propM icl F (nameL s) (valL s) (moreL s) at_)))
      have mono : ∀ v h, LnP (H ++ [blk3 [strV (nameL s), strV (valL s), .int .i64 at_]]) kf F (propM icl F (nameL s) (valL s) (moreL s) at_) v h → LnP H kf F (propM icl F (nameL s) (valL s) (moreL s) at_) v h := fun v h ⟨h1, h2⟩ => ⟨by rw [List.length_append] at h1; omega, h2⟩
      unfold F_conf_File_linec
      rw [w_seq]
      have st0 : W T (.reg F_conf_File_liner0) (ini [ptrC kf 0, strV s, .int .i64 at_]) H fun x e h => h = H ∧ x = .normal ∧ e 0 = ptrC kf 0 ∧ e 1 = strV s ∧ e 2 = .int .i64 at_ := by
        simp only [fws, cond_true, cond_false, if_true, if_false, unV, isNil, optI, iV, stepI, evalR, reduceIte, reduceCtorEq, Nat.reduceEqDiff, Int.reduceLT, Int.reduceLE, Int.reduceToNat, Nat.reduceLT, Nat.reduceLeDiff, Int.reduceEq, Int.reduceNeg, IntKind.bits, Nat.reduceAdd, Nat.reduceMul, Nat.reducePow, Int.reducePow, ini, F_conf_File_liner0_W, F_conf_File_liner1_W, F_conf_File_liner2_W, F_conf_File_liner3_W, F_conf_File_liner4_W, F_conf_File_liner5_W, F_conf_File_liner6_W, F_conf_File_liner6_g2, F_conf_File_liner7_W, F_conf_File_liner8_W, F_conf_File_liner9_W, F_conf_File_liner10_W, F_conf_File_liner11_W, F_conf_File_liner12_W, F_conf_File_liner13_W, F_conf_File_liner13_g2, F_conf_File_liner13_g6, F_conf_File_liner13_g9, F_conf_File_liner14_W, F_conf_File_liner15_W, F_conf_File_liner16_W, F_conf_File_linec_W]
        exact ⟨trivial, trivial, trivial, trivial, trivial⟩
      refine W.mono st0 fun x e h ⟨z1, z2, e0, e1, e2⟩ => ?_
      subst h z2
      rw [seqQ_normal, w_seq]
      have st1 : W T (.seq (.reg F_conf_File_liner1) (.cond (.t 17) (.seq (.reg F_conf_File_liner2) .ret) .skip)) e H fun x e h => h = H ∧ x = .normal ∧ e 0 = ptrC kf 0 ∧ e 1 = strV s ∧ e 2 = .int .i64 at_ := by
        simp only [fws, cond_true, cond_false, if_true, if_false, unV, isNil, optI, iV, stepI, evalR, reduceIte, reduceCtorEq, Nat.reduceEqDiff, Int.reduceLT, Int.reduceLE, Int.reduceToNat, Nat.reduceLT, Nat.reduceLeDiff, Int.reduceEq, Int.reduceNeg, IntKind.bits, Nat.reduceAdd, Nat.reduceMul, Nat.reducePow, Int.reducePow, ini, size_str, bt_str, F_conf_File_liner0_W, F_conf_File_liner1_W, F_conf_File_liner2_W, F_conf_File_liner3_W, F_conf_File_liner4_W, F_conf_File_liner5_W, F_conf_File_liner6_W, F_conf_File_liner6_g2, F_conf_File_liner7_W, F_conf_File_liner8_W, F_conf_File_liner9_W, F_conf_File_liner10_W, F_conf_File_liner11_W, F_conf_File_liner12_W, F_conf_File_liner13_W, F_conf_File_liner13_g2, F_conf_File_liner13_g6, F_conf_File_liner13_g9, F_conf_File_liner14_W, F_conf_File_liner15_W, F_conf_File_liner16_W, F_conf_File_linec_W, e1, q1, g, d0, Int.toNat_zero, and_self, true_and, Int.le_refl]
        first | exact ⟨trivial, trivial, e0, trivial, e2⟩ | exact ⟨trivial, trivial, e0, e1, e2⟩ | (simp only [e0, e1, e2]; trivial) | trivial
      refine W.mono st1 fun x e h ⟨z1, z2, e0, e1, e2⟩ => ?_
      subst h z2
      rw [seqQ_normal, w_seq]
      have st3 : W T (.reg F_conf_File_liner3) e H fun x e h => h = H ∧ x = .normal ∧ e 0 = ptrC kf 0 ∧ e 2 = .int .i64 at_ ∧ e 7 = strV (keyL s) ∧ e 8 = strV (s.drop ((keyL s).length + 1)) ∧ e 9 = .bool true := by
        simp only [fws, cond_true, cond_false, if_true, if_false, unV, isNil, optI, iV, stepI, evalR, reduceIte, reduceCtorEq, Nat.reduceEqDiff, Int.reduceLT, Int.reduceLE, Int.reduceToNat, Nat.reduceLT, Nat.reduceLeDiff, Int.reduceEq, Int.reduceNeg, IntKind.bits, Nat.reduceAdd, Nat.reduceMul, Nat.reducePow, Int.reducePow, ini, fwh, F_conf_File_liner0_W, F_conf_File_liner1_W, F_conf_File_liner2_W, F_conf_File_liner3_W, F_conf_File_liner4_W, F_conf_File_liner5_W, F_conf_File_liner6_W, F_conf_File_liner6_g2, F_conf_File_liner7_W, F_conf_File_liner8_W, F_conf_File_liner9_W, F_conf_File_liner10_W, F_conf_File_liner11_W, F_conf_File_liner12_W, F_conf_File_liner13_W, F_conf_File_liner13_g2, F_conf_File_liner13_g6, F_conf_File_liner13_g9, F_conf_File_liner14_W, F_conf_File_liner15_W, F_conf_File_liner16_W, F_conf_File_linec_W, e1, CC_of c1]
        exact ⟨trivial, trivial, e0, e2, trivial, trivial, trivial⟩
      refine W.mono st3 fun x e h ⟨z1, z2, e0, e2, e7, e8, e9⟩ => ?_
      subst h z2
      rw [seqQ_normal, w_seq]
      have st4 : W T (.reg F_conf_File_liner4) e H fun x e h => h = H ∧ x = .normal ∧ e 0 = ptrC kf 0 ∧ e 2 = .int .i64 at_ ∧ e 7 = strV (keyL s) ∧ e 8 = strV (s.drop ((keyL s).length + 1)) ∧ e 9 = .bool true ∧ e 10 = .bool (moreL s) := by
        simp only [fws, cond_true, cond_false, if_true, if_false, unV, isNil, optI, iV, stepI, evalR, reduceIte, reduceCtorEq, Nat.reduceEqDiff, Int.reduceLT, Int.reduceLE, Int.reduceToNat, Nat.reduceLT, Nat.reduceLeDiff, Int.reduceEq, Int.reduceNeg, IntKind.bits, Nat.reduceAdd, Nat.reduceMul, Nat.reducePow, Int.reducePow, ini, fwh, F_conf_File_liner0_W, F_conf_File_liner1_W, F_conf_File_liner2_W, F_conf_File_liner3_W, F_conf_File_liner4_W, F_conf_File_liner5_W, F_conf_File_liner6_W, F_conf_File_liner6_g2, F_conf_File_liner7_W, F_conf_File_liner8_W, F_conf_File_liner9_W, F_conf_File_liner10_W, F_conf_File_liner11_W, F_conf_File_liner12_W, F_conf_File_liner13_W, F_conf_File_liner13_g2, F_conf_File_liner13_g6, F_conf_File_liner13_g9, F_conf_File_liner14_W, F_conf_File_liner15_W, F_conf_File_liner16_W, F_conf_File_linec_W, e7, CC_of c2]
        exact ⟨trivial, trivial, e0, e2, trivial, e8, e9, trivial⟩
      refine W.mono st4 fun x e h ⟨z1, z2, e0, e2, e7, e8, e9, e10⟩ => ?_
      subst h z2
      rw [seqQ_normal, w_seq]
      have st5 : W T (.reg F_conf_File_liner5) e H fun x e h => h = H ++ [blk3 [strV (nameL s), strV (valL s), .int .i64 at_]] ∧ x = .normal ∧ e 0 = ptrC kf 0 ∧ e 2 = .int .i64 at_ ∧ e 9 = .bool true ∧ e 10 = .bool (moreL s) ∧ e 11 = ptrC H.length 0 := by
        simp only [fws, cond_true, cond_false, if_true, if_false, unV, isNil, optI, iV, stepI, evalR, reduceIte, reduceCtorEq, Nat.reduceEqDiff, Int.reduceLT, Int.reduceLE, Int.reduceToNat, Nat.reduceLT, Nat.reduceLeDiff, Int.reduceEq, Int.reduceNeg, IntKind.bits, Nat.reduceAdd, Nat.reduceMul, Nat.reducePow, Int.reducePow, ini, fwh, lk, cellsAt, tagOf, spotOf, rdN, spl, fillL, zr, F_conf_File_liner0_W, F_conf_File_liner1_W, F_conf_File_liner2_W, F_conf_File_liner3_W, F_conf_File_liner4_W, F_conf_File_liner5_W, F_conf_File_liner6_W, F_conf_File_liner6_g2, F_conf_File_liner7_W, F_conf_File_liner8_W, F_conf_File_liner9_W, F_conf_File_liner10_W, F_conf_File_liner11_W, F_conf_File_liner12_W, F_conf_File_liner13_W, F_conf_File_liner13_g2, F_conf_File_liner13_g6, F_conf_File_liner13_g9, F_conf_File_liner14_W, F_conf_File_liner15_W, F_conf_File_liner16_W, F_conf_File_linec_W, e2, e7, e8, CC_of c3, CC_of c4, CC_of c5]
        first | exact ⟨trivial, trivial, e0, e2, e9, e10, rfl⟩ | exact ⟨trivial, trivial, e0, trivial, e9, e10, trivial⟩
      refine W.mono st5 fun x e h ⟨z1, z2, e0, e2, e9, e10, e11⟩ => ?_
      subst h z2
      rw [seqQ_normal]
      refine W.mono (ln_prop (env := e) (more := moreL s) t hicl hN r' hF hnl hvl e0 e2 e9 e10 e11 hp) fun x e h hq => retQ_mono mono hq
    · rw [if_neg h61] at c1 hm
      have hsl : s.length ≤ 100000000 := by omega
      have c2 := f_hs t.lf s [43] hsl
      have c3 := f_ts t.lf s [43] hsl
      have c4 := f_trim t.blank t.trim (trimS s [43]) (by have := trimS_len s [43]; omega)
      have c5 := f_trim t.blank t.trim [] (by decide)
      have fin : ∀ g, LnP H kf F (lineM icl F s at_) (.int .i64 180) (H ++ [g]) := fun g => by rw [hm]; exact ⟨by rw [List.length_append]; omega, by decide, rfl, _, _, _, _, r.app _⟩
      generalize LnP H kf F (lineM icl F s at_) = K at *
      simp only [F_conf_File_line, fws, cond_true, cond_false, if_true, if_false, unV, isNil, optI, iV, stepI, evalR, reduceIte, reduceCtorEq, Nat.reduceEqDiff, Int.reduceLT, Int.reduceLE, Int.reduceToNat, Nat.reduceLT, Nat.reduceLeDiff, Int.reduceEq, Int.reduceNeg, IntKind.bits, Nat.reduceAdd, Nat.reduceMul, Nat.reducePow, Int.reducePow, ini, fwh, lk, cellsAt, tagOf, spotOf, rdN, spl, fillL, zr, bt_str, size_str, F_conf_File_liner0_W, F_conf_File_liner1_W, F_conf_File_liner2_W, F_conf_File_liner3_W, F_conf_File_liner4_W, F_conf_File_liner5_W, F_conf_File_liner6_W, F_conf_File_liner6_g2, F_conf_File_liner7_W, F_conf_File_liner10_W, F_conf_File_liner11_W, F_conf_File_liner12_W, F_conf_File_liner13_W, F_conf_File_liner13_g2, F_conf_File_liner13_g6, F_conf_File_liner13_g9, F_conf_File_liner14_W, F_conf_File_liner15_W, F_conf_File_liner16_W, F_conf_File_linec_W, q1, g, d0, Int.toNat_zero, and_self, true_and, Int.le_refl, CC_of c1, CC_of c2, CC_of c3, CC_of c4, CC_of c5]
      exact fin _
end
end Go.Proofs.YtbhoaiacnoiocaaDoor
/- A configuration is read. -/
namespace Go.Proofs.YtbhoaiacnoiocaaDoor
open Go Fw
set_option linter.unusedSimpArgs false
set_option linter.unusedVariables false
set_option linter.unusedSectionVars false

/-- What a line says, without its note. -/
def bareL (x : List UInt8) : List UInt8 := trimF (x.takeWhile (· != 35))
def parseM (icl : List UInt8 → Bool) : List (List UInt8) → Nat → Fm → (Int × Int) ⊕ Fm
  | [], _, F => .inr F
  | x :: r, i, F =>
    if x.all okL = true then
      if bareL x = [] then parseM icl r (i + 1) F
      else match lineM icl F (bareL x) ((i : Int) + 1) with
        | .inl e => .inl ((i : Int) + 1, e)
        | .inr F' => parseM icl r (i + 1) F'
    else .inl ((i : Int) + 1, 180)
theorem tw_no {c : UInt8} {l : List UInt8} (h : c ∉ l) : l.takeWhile (· != c) = l := by
  induction l with
  | nil => rfl
  | cons b l ih =>
    have h1 : (b != c) = true := by simp; exact fun e => h (by simp [e])
    rw [List.takeWhile_cons, h1, if_pos rfl, ih fun hc => h (List.mem_cons_of_mem _ hc)]
theorem cutV_ext {l : List UInt8} {c : UInt8} : ∃ r b, cutV l c = .tuple #[strV (l.takeWhile (· != c)), strV r, .bool b] := by
  unfold cutV
  split
  · exact ⟨_, _, rfl⟩
  · rename_i h
    rw [tw_no h]
    exact ⟨_, _, rfl⟩
theorem mixP_len {q p : Pr} {more : Bool} {N : Nat} (hq : q.v.length ≤ lim N) (hp : p.v.length ≤ 20000) : (mixP q p more).v.length ≤ lim (N + 1) := by
  unfold mixP
  split
  · have : (betw p.n).length = 1 := by unfold betw; split <;> rfl
    show (q.v ++ (betw p.n ++ p.v)).length ≤ _
    rw [List.length_append, List.length_append, this, lim_s]; omega
  · rw [lim_s]; omega
theorem setP_ok {p : Pr} {more : Bool} {N : Nat} (hp : p.v.length ≤ 20000) : ∀ {l : List Pr}, (∀ q ∈ l, q.v.length ≤ lim N) → (setP l p more).length ≤ l.length + 1 ∧ ∀ q ∈ setP l p more, q.v.length ≤ lim (N + 1)
  | [], _ => ⟨by simp [setP], fun q hq => by simp [setP] at hq; rw [hq, lim_s]; omega⟩
  | a :: r, h => by
    have h1 := h a (by simp)
    have h2 : ∀ q ∈ r, q.v.length ≤ lim N := fun q hq => h q (by simp [hq])
    simp only [setP]
    split
    · refine ⟨by simp, fun q hq => ?_⟩
      rcases List.mem_cons.1 hq with rfl | hq
      · exact mixP_len h1 hp
      · have := h2 q hq; rw [lim_s]; omega
    · obtain ⟨i1, i2⟩ := setP_ok (more := more) hp h2
      refine ⟨by simp; omega, fun q hq => ?_⟩
      rcases List.mem_cons.1 hq with rfl | hq
      · rw [lim_s]; omega
      · exact i2 q hq
theorem OkF.next {F : Fm} {N : Nat} (h : OkF F N) : OkF F (N + 1) := ⟨by have := h.d; omega, by have := h.s; omega, fun x hx => by
  obtain ⟨h1, h2⟩ := h.p x hx
  exact ⟨by omega, fun q hq => by have := h2 q hq; rw [lim_s]; omega⟩⟩
theorem OkF.line {icl : List UInt8 → Bool} {F F' : Fm} {N : Nat} {s : List UInt8} {at_ : Int} (h : OkF F N) (hs : s.length ≤ 20000) (hl : lineM icl F s at_ = .inr F') : OkF F' (N + 1) := by
  unfold lineM at hl
  split at hl
  · unfold beginM at hl
    split at hl
    · split at hl
      · split at hl
        · cases hl
        · simp only [bgR, Sum.inr.injEq] at hl
          subst hl
          refine ⟨by have := h.d; simp only []; omega, by have := h.s; simp only [List.length_append, List.length_singleton]; omega, fun x hx => ?_⟩
          rcases List.mem_append.1 hx with hx | hx
          · exact h.next.p x hx
          · rw [List.mem_singleton] at hx; rw [hx]
            exact ⟨Nat.zero_le _, fun q hq => nomatch hq⟩
      · cases hl
    · cases hl
  · split at hl
    · unfold propM at hl
      have hvl : (valL s).length ≤ 20000 := Nat.le_trans (trimF_len _) (by rw [List.length_drop]; omega)
      split at hl
      · split at hl
        · rename_i hpos
          simp only [Sum.inr.injEq] at hl
          subst hl
          obtain ⟨p1, p2⟩ := h.p _ (List.getElem_mem (show F.secs.length - 1 < F.secs.length by omega))
          obtain ⟨s1, s2⟩ := setP_ok (p := ⟨nameL s, valL s, at_⟩) (more := moreL s) hvl p2
          refine ⟨by have := h.d; simp only []; omega, by have := h.s; simp only [List.length_set]; omega, fun x hx => ?_⟩
          rcases List.mem_or_eq_of_mem_set hx with hx | hx
          · exact h.next.p x hx
          · rw [hx]
            exact ⟨by simp only []; omega, s2⟩
        · split at hl
          · simp only [Sum.inr.injEq] at hl
            subst hl
            exact ⟨by have := h.d; simp only [List.length_append, List.length_singleton]; omega, by have := h.s; simp only []; omega, h.next.p⟩
          · cases hl
      · cases hl
    · cases hl
end Go.Proofs.YtbhoaiacnoiocaaDoor
/- A configuration is read: the walk. -/
namespace Go.Proofs.YtbhoaiacnoiocaaDoor
open Go Fw
set_option linter.unusedSimpArgs false
set_option linter.unusedVariables false
set_option linter.unusedSectionVars false

abbrev zE : Entry := ⟨0, .cells false 2 [.slice none 0 0, .slice none 0 0]⟩
def LpP (icl : List UInt8 → Bool) (o : (Int × Int) ⊕ Fm) : Post := fun x e h => match o with
  | .inl (a, er) => x = .ret ∧ h[0]? = some zE ∧ e 2 = ptrC 0 0 ∧ e 3 = .int .i64 a ∧ e 4 = .int .i64 er
  | .inr F' => x = .exit 0 ∧ e 2 = ptrC 0 0 ∧ e 5 = ptrC 1 0 ∧ ∃ dv sv rs who, RF h 1 F' dv sv rs who
section
variable {T : Tab} {icl : List UInt8 → Bool} (t : CF T) (hicl : ∀ l : List UInt8, l.length ≤ 1000000 → FnV T 34 [strV l] (.bool (icl l)))
include t hicl
theorem loop_Parse (ls : List (List UInt8)) (hls : ls.length ≤ 100000) (hlx : ∀ x ∈ ls, x.length ≤ 20000) : ∀ (k i : Nat) (H : Heap) (env : Env) (F : Fm) (dv sv : Value) (rs : List Row) (who : Nat → Nat), i + k = ls.length → RF H 1 F dv sv rs who → OkF F i → env 2 = ptrC 0 0 → env 5 = ptrC 1 0 → env 18 = imm strE ls → env 19 = .int .i64 ls.length → env 20 = .int .i64 i →
    W T (.loop F_conf_Parsel0) env H (LpP icl (parseM icl (ls.drop i) i F)) := by
  intro k
  induction k with
  | zero =>
    intro i H env F dv sv rs who hi r hF e2 e5 e18 e19 e20
    have q : ¬ ((i : Int) < ls.length) := by omega
    rw [w_loop, List.drop_of_length_le (by omega)]
    simp only [fws, cond_true, cond_false, if_true, if_false, unV, isNil, optI, iV, stepI, evalR, reduceIte, reduceCtorEq, Nat.reduceEqDiff, Int.reduceLT, Int.reduceLE, Int.reduceToNat, Nat.reduceLT, Nat.reduceLeDiff, Int.reduceEq, Int.reduceNeg, IntKind.bits, Nat.reduceAdd, Nat.reduceMul, Nat.reducePow, Int.reducePow, ini, fwi, F_conf_Parser0_W, F_conf_Parser1_W, F_conf_Parser2_W, F_conf_Parser3_W, F_conf_Parser4_W, F_conf_Parser5_W, F_conf_Parser6_W, F_conf_Parser7_W, F_conf_Parser8_W, F_conf_Parser9_W, F_conf_Parser10_W, F_conf_Parser11_W, F_conf_Parser12_W, F_conf_Parser13_W, F_conf_Parser14_W, F_conf_Parser15_W, F_conf_Parsel0_W, F_conf_Parser16_W, F_conf_Parsec_W, e19, e20, q]
    exact ⟨rfl, e2, e5, _, _, _, _, r⟩
  | succ k ih =>
    intro i H env F dv sv rs who hi r hF e2 e5 e18 e19 e20
    have hix : i < ls.length := by omega
    have q : ((i : Int) < ls.length) := by omega
    have hx := fun H => ix_at (E := strE) (l := ls) (n := 1) rfl hix .i64 H
    have hld := fun H => ld_strs hix H
    have hxl := hlx _ (List.getElem_mem hix)
    have w2 : IntKind.i64.wrap ((i : Int) + 1) = ((i + 1 : Nat) : Int) := by rw [wrapI64 (by omega) (by omega)]; rfl
    obtain ⟨cr, cb, hcv⟩ := cutV_ext (l := ls[i]) (c := 35)
    have c1 := f_cut t.lf ls[i] (by omega) 35
    rw [hcv] at c1
    have c2 := f_plain t.blank t.plain ls[i] (by omega)
    have htl : (ls[i].takeWhile (· != 35)).length ≤ 20000 := Nat.le_trans (List.takeWhile_sublist _).length_le hxl
    have c3 := f_trim t.blank t.trim (ls[i].takeWhile (· != 35)) (by omega)
    have hbl : (bareL ls[i]).length ≤ 20000 := Nat.le_trans (trimF_len _) htl
    have hbe : trimF (ls[i].takeWhile (· != 35)) = bareL ls[i] := rfl
    rw [hbe] at c3
    have hz := r.z
    have hs := fun X => List.getElem?_set_self (a := X) (List.getElem?_eq_some_iff.1 hz).1
    have hlk : ∀ h : Heap, h[0]? = some zE → lk h ⟨0, 0, none⟩ = some zE := fun h hh => by simp only [lk, hh, tagOf, Nat.beq_refl, cond_true]
    have hlk0 := hlk H hz
    rw [w_loop, List.drop_eq_getElem_cons hix]
    have hpm : parseM icl (ls[i] :: ls.drop (i + 1)) i F = if ls[i].all okL = true then
        if bareL ls[i] = [] then parseM icl (ls.drop (i + 1)) (i + 1) F
        else match lineM icl F (bareL ls[i]) ((i : Int) + 1) with
          | .inl e => .inl ((i : Int) + 1, e)
          | .inr F' => parseM icl (ls.drop (i + 1)) (i + 1) F'
      else .inl ((i : Int) + 1, 180) := rfl
    cases hok : ls[i].all okL with
    | false =>
      rw [hok, if_neg (by decide)] at hpm
      rw [hpm]
      rw [hok] at c2
      have fin : ∀ e : Env, e 2 = ptrC 0 0 → e 3 = .int .i64 ((i + 1 : Nat) : Int) → e 4 = .int .i64 180 → LpP icl (.inl ((i : Int) + 1, 180)) .ret e (H.set 0 zE) := fun e a b c => ⟨rfl, hs _, a, b, c⟩
      generalize LpP icl (.inl ((i : Int) + 1, 180)) = K at *
      simp only [fws, cond_true, cond_false, if_true, if_false, unV, isNil, optI, iV, stepI, evalR, reduceIte, reduceCtorEq, Nat.reduceEqDiff, Int.reduceLT, Int.reduceLE, Int.reduceToNat, Nat.reduceLT, Nat.reduceLeDiff, Int.reduceEq, Int.reduceNeg, IntKind.bits, Nat.reduceAdd, Nat.reduceMul, Nat.reducePow, Int.reducePow, ini, fwh, spl, fillL, zr, F_conf_Parser0_W, F_conf_Parser1_W, F_conf_Parser2_W, F_conf_Parser3_W, F_conf_Parser4_W, F_conf_Parser5_W, F_conf_Parser6_W, F_conf_Parser7_W, F_conf_Parser8_W, F_conf_Parser9_W, F_conf_Parser10_W, F_conf_Parser11_W, F_conf_Parser13_W, F_conf_Parser14_W, F_conf_Parser15_W, F_conf_Parsel0_W, F_conf_Parser16_W, F_conf_Parsec_W, e2, e5, e18, e19, e20, q, hx, hld, CC_of c1, CC_of c2, w2, hlk0]
      refine fin _ ?_ ?_ ?_
      all_goals (first | assumption | rfl)
    | true =>
      rw [hok, if_pos rfl] at hpm
      rw [hok] at c2
      by_cases hb0 : bareL ls[i] = []
      · rw [if_pos hb0] at hpm
        rw [hpm]
        have b0 : strEq ⟨(bareL ls[i]).toArray⟩ ⟨#[]⟩ = true := by rw [hb0]; rfl
        have ih' := fun env => ih (i + 1) H env F dv sv rs who (by omega) r hF.next
        generalize LpP icl (parseM icl (ls.drop (i + 1)) (i + 1) F) = K at *
        simp only [fws, cond_true, cond_false, if_true, if_false, unV, isNil, optI, iV, stepI, evalR, reduceIte, reduceCtorEq, Nat.reduceEqDiff, Int.reduceLT, Int.reduceLE, Int.reduceToNat, Nat.reduceLT, Nat.reduceLeDiff, Int.reduceEq, Int.reduceNeg, IntKind.bits, Nat.reduceAdd, Nat.reduceMul, Nat.reducePow, Int.reducePow, ini, fwh, F_conf_Parser0_W, F_conf_Parser1_W, F_conf_Parser2_W, F_conf_Parser3_W, F_conf_Parser4_W, F_conf_Parser5_W, F_conf_Parser6_W, F_conf_Parser7_W, F_conf_Parser8_W, F_conf_Parser9_W, F_conf_Parser10_W, F_conf_Parser11_W, F_conf_Parser13_W, F_conf_Parser14_W, F_conf_Parser15_W, F_conf_Parsel0_W, F_conf_Parser16_W, F_conf_Parsec_W, e2, e5, e18, e19, e20, q, hx, hld, CC_of c1, CC_of c2, CC_of c3, w2, b0]
        refine ih' _ ?_ ?_ ?_ ?_ ?_
        all_goals (first | assumption | rfl)
      · rw [if_neg hb0] at hpm
        rw [hpm]
        have b0 := ne_str hb0
        obtain ⟨c, l, hcl⟩ : ∃ c l, bareL ls[i] = c :: l := by
          cases h : bareL ls[i] with
          | nil => exact absurd h hb0
          | cons c l => exact ⟨c, l, rfl⟩
        have cl := ev_line t hicl (N := i) (by omega) r hF c l (by rw [← hcl]; exact hbl) (((i + 1 : Nat) : Int))
        rw [← hcl] at cl
        have hcast : (((i + 1 : Nat) : Int)) = (i : Int) + 1 := rfl
        have fin0 := fun (F' : Fm) (hl : lineM icl F (bareL ls[i]) ((i : Int) + 1) = .inr F') (h : Heap) (dv sv : Value) (rs : List Row) (who : Nat → Nat) (r' : RF h 1 F' dv sv rs who) (env : Env) => ih (i + 1) h env F' dv sv rs who (by omega) r' (hF.line hbl hl)
        generalize hLM : lineM icl F (bareL ls[i]) ((i : Int) + 1) = LM at *
        rw [hcast, hLM] at cl
        have st12 : ∀ env : Env, env 2 = ptrC 0 0 → env 5 = ptrC 1 0 → env 6 = .int .i64 i → env 8 = strV (bareL ls[i]) → env 18 = imm strE ls → env 19 = .int .i64 ls.length → env 20 = .int .i64 i → W T (.reg F_conf_Parser12) env H fun x e h => x = .normal ∧ (e 2 = ptrC 0 0 ∧ e 5 = ptrC 1 0 ∧ e 6 = .int .i64 i ∧ e 18 = imm strE ls ∧ e 19 = .int .i64 ls.length ∧ e 20 = .int .i64 i) ∧ LnP H 1 F LM (e 11) h := by
          intro env e2 e5 e6 e8 e18 e19 e20
          simp only [fws, cond_true, cond_false, if_true, if_false, unV, isNil, optI, iV, stepI, evalR, reduceIte, reduceCtorEq, Nat.reduceEqDiff, Int.reduceLT, Int.reduceLE, Int.reduceToNat, Nat.reduceLT, Nat.reduceLeDiff, Int.reduceEq, Int.reduceNeg, IntKind.bits, Nat.reduceAdd, Nat.reduceMul, Nat.reducePow, Int.reducePow, ini, F_conf_Parser0_W, F_conf_Parser1_W, F_conf_Parser2_W, F_conf_Parser3_W, F_conf_Parser4_W, F_conf_Parser5_W, F_conf_Parser6_W, F_conf_Parser7_W, F_conf_Parser8_W, F_conf_Parser9_W, F_conf_Parser10_W, F_conf_Parser11_W, F_conf_Parser12_W, F_conf_Parser14_W, F_conf_Parser15_W, F_conf_Parsel0_W, F_conf_Parser16_W, F_conf_Parsec_W, e5, e6, e8, w2]
          refine cl.mono fun v h hq => ?_
          simp only [fws, cond_true, cond_false, if_true, if_false, unV, isNil, optI, iV, stepI, evalR, reduceIte, reduceCtorEq, Nat.reduceEqDiff, Int.reduceLT, Int.reduceLE, Int.reduceToNat, Nat.reduceLT, Nat.reduceLeDiff, Int.reduceEq, Int.reduceNeg, IntKind.bits, Nat.reduceAdd, Nat.reduceMul, Nat.reducePow, Int.reducePow, ini, F_conf_Parser0_W, F_conf_Parser1_W, F_conf_Parser2_W, F_conf_Parser3_W, F_conf_Parser4_W, F_conf_Parser5_W, F_conf_Parser6_W, F_conf_Parser7_W, F_conf_Parser8_W, F_conf_Parser9_W, F_conf_Parser10_W, F_conf_Parser11_W, F_conf_Parser12_W, F_conf_Parser14_W, F_conf_Parser15_W, F_conf_Parsel0_W, F_conf_Parser16_W, F_conf_Parsec_W]
          exact ⟨trivial, ⟨e2, e5, e6, e18, e19, e20⟩, hq⟩
        have fin : ∀ (o : (Int × Int) ⊕ Fm), o = (match LM with | .inl e => .inl ((i : Int) + 1, e) | .inr F' => parseM icl (ls.drop (i + 1)) (i + 1) F') → ∀ env : Env, env 2 = ptrC 0 0 → env 5 = ptrC 1 0 → env 6 = .int .i64 i → env 8 = strV (bareL ls[i]) → env 18 = imm strE ls → env 19 = .int .i64 ls.length → env 20 = .int .i64 i →
            W T (.reg F_conf_Parser12) env H (seqQ T (.seq (.reg F_conf_Parser13) (.cond (.t 46) (.seq (.reg F_conf_Parser14) .ret) .skip)) (blockQ 1 (seqQ T (.reg F_conf_Parser15) (seqQ T (.loop F_conf_Parsel0) (LpP icl o))))) := by
          intro o ho env a2 a5 a6 a8 a18 a19 a20
          refine W.mono (st12 env a2 a5 a6 a8 a18 a19 a20) fun x e h ⟨q1, ⟨e2, e5, e6, e18, e19, e20⟩, q3, q4⟩ => ?_
          subst q1
          cases LM with
          | inl er =>
            obtain ⟨hne, e11, dv', sv', rs', who', r'⟩ := q4
            have hz' := r'.z
            have hs' := fun X => List.getElem?_set_self (a := X) (List.getElem?_eq_some_iff.1 hz').1
            have hlk' := hlk h hz'
            have fin2 : ∀ e : Env, e 2 = ptrC 0 0 → e 3 = .int .i64 ((i + 1 : Nat) : Int) → e 4 = .int .i64 er → LpP icl o .ret e (h.set 0 zE) := fun e a b c => by rw [ho]; exact ⟨rfl, hs' _, a, b, c⟩
            generalize LpP icl o = K at *
            simp only [fws, cond_true, cond_false, if_true, if_false, unV, isNil, optI, iV, stepI, evalR, reduceIte, reduceCtorEq, Nat.reduceEqDiff, Int.reduceLT, Int.reduceLE, Int.reduceToNat, Nat.reduceLT, Nat.reduceLeDiff, Int.reduceEq, Int.reduceNeg, IntKind.bits, Nat.reduceAdd, Nat.reduceMul, Nat.reducePow, Int.reducePow, ini, fwh, spl, fillL, zr, F_conf_Parser0_W, F_conf_Parser1_W, F_conf_Parser2_W, F_conf_Parser3_W, F_conf_Parser4_W, F_conf_Parser5_W, F_conf_Parser6_W, F_conf_Parser7_W, F_conf_Parser8_W, F_conf_Parser9_W, F_conf_Parser10_W, F_conf_Parser11_W, F_conf_Parser13_W, F_conf_Parser14_W, F_conf_Parser15_W, F_conf_Parsel0_W, F_conf_Parser16_W, F_conf_Parsec_W, e2, e6, e11, hne, w2, hlk']
            refine fin2 _ ?_ ?_ ?_
            all_goals (first | assumption | rfl)
          | inr F' =>
            obtain ⟨e11, dv', sv', rs', who', r'⟩ := q4
            have fin2 := fin0 F' rfl h dv' sv' rs' who' r'
            rw [ho]
            show seqQ T _ _ .normal e h
            have ho2 : (match (Sum.inr F' : Int ⊕ Fm) with | .inl e => Sum.inl ((i : Int) + 1, e) | .inr F' => parseM icl (ls.drop (i + 1)) (i + 1) F') = parseM icl (ls.drop (i + 1)) (i + 1) F' := rfl
            rw [ho2]
            generalize LpP icl (parseM icl (ls.drop (i + 1)) (i + 1) F') = K at *
            simp only [fws, cond_true, cond_false, if_true, if_false, unV, isNil, optI, iV, stepI, evalR, reduceIte, reduceCtorEq, Nat.reduceEqDiff, Int.reduceLT, Int.reduceLE, Int.reduceToNat, Nat.reduceLT, Nat.reduceLeDiff, Int.reduceEq, Int.reduceNeg, IntKind.bits, Nat.reduceAdd, Nat.reduceMul, Nat.reducePow, Int.reducePow, ini, fwh, F_conf_Parser0_W, F_conf_Parser1_W, F_conf_Parser2_W, F_conf_Parser3_W, F_conf_Parser4_W, F_conf_Parser5_W, F_conf_Parser6_W, F_conf_Parser7_W, F_conf_Parser8_W, F_conf_Parser9_W, F_conf_Parser10_W, F_conf_Parser11_W, F_conf_Parser13_W, F_conf_Parser14_W, F_conf_Parser15_W, F_conf_Parsel0_W, F_conf_Parser16_W, F_conf_Parsec_W, e11, e20, w2]
            refine fin2 _ ?_ ?_ ?_ ?_ ?_
            all_goals (first | assumption | rfl)
        have fin' := fin _ rfl
        clear fin st12 fin0 cl ih
        generalize (match LM with | .inl e => Sum.inl ((i : Int) + 1, e) | .inr F' => parseM icl (ls.drop (i + 1)) (i + 1) F') = o at *
        generalize LpP icl o = K at *
        simp only [fws, cond_true, cond_false, if_true, if_false, unV, isNil, optI, iV, stepI, evalR, reduceIte, reduceCtorEq, Nat.reduceEqDiff, Int.reduceLT, Int.reduceLE, Int.reduceToNat, Nat.reduceLT, Nat.reduceLeDiff, Int.reduceEq, Int.reduceNeg, IntKind.bits, Nat.reduceAdd, Nat.reduceMul, Nat.reducePow, Int.reducePow, ini, fwh, F_conf_Parser0_W, F_conf_Parser1_W, F_conf_Parser2_W, F_conf_Parser3_W, F_conf_Parser4_W, F_conf_Parser5_W, F_conf_Parser6_W, F_conf_Parser7_W, F_conf_Parser8_W, F_conf_Parser9_W, F_conf_Parser10_W, F_conf_Parser11_W, F_conf_Parser15_W, F_conf_Parsel0_W, F_conf_Parser16_W, F_conf_Parsec_W, e2, e5, e18, e19, e20, q, hx, hld, CC_of c1, CC_of c2, CC_of c3, w2, b0]
        refine fin' _ ?_ ?_ ?_ ?_ ?_ ?_ ?_
        all_goals (first | assumption | rfl)
end
end Go.Proofs.YtbhoaiacnoiocaaDoor
/- A configuration is read: what is answered. -/
namespace Go.Proofs.YtbhoaiacnoiocaaDoor
open Go Fw
set_option linter.unusedSimpArgs false
set_option linter.unusedVariables false
set_option linter.unusedSectionVars false

abbrev Sec := List UInt8 × Option (List Pr)
def SecE : Enc Sec where
  e x := [strV x.1, slV PrE x.2]
  u := 2
  d := 1
  hu _ := rfl
  hp k x := by
    have : pureV (k + 1) (slV PrE x.2) = true := pure_sl (by show Nat.blt 0 (k + 1) = true; simp [Nat.blt])
    simp [pure_string, this]
  ho x := by simp [oneC_string, oneC_sl]
/-- A frozen row of sections tells these. -/
def SecM (os : List Sec) (ss : List (List UInt8 × List Pr)) : Prop := os.map (fun x => (x.1, lst x.2)) = ss
theorem frz_rows {H : Heap} {k : Nat} : ∀ (rs : List Row) (ss : List (List UInt8 × List Pr)), rs.length = ss.length → (∀ i (hi : i < rs.length) (hj : i < ss.length), rs[i].1 = ss[i].1 ∧ Own PrE H rs[i].2 ss[i].2) → ∃ os, SecM os ss ∧ os.length = rs.length ∧ (cellsR rs).mapM (frz (k + 1) H) = some (SecE.cs os)
  | [], [], _, _ => ⟨[], rfl, rfl, rfl⟩
  | [], _ :: _, h, _ => by simp at h
  | _ :: _, [], h, _ => by simp at h
  | r :: rs, s :: ss, hl, h => by
    obtain ⟨os, h1, h0, h2⟩ := frz_rows (k := k) rs ss (by simpa using hl) fun i hi hj => h (i + 1) (by simp; omega) (by simp; omega)
    obtain ⟨n1, n2⟩ := h 0 (by simp) (by simp)
    obtain ⟨o, o1, o2⟩ := Own.frzE n2 (k := k) (Nat.zero_le _)
    refine ⟨(r.1, o) :: os, ?_, by simp [h0], ?_⟩
    · unfold SecM at h1 ⊢
      rw [List.map_cons, h1]
      simp only [List.getElem_cons_zero] at n1 o1
      rw [o1, n1]
    · show (strV r.1 :: r.2 :: cellsR rs).mapM (frz (k + 1) H) = some ([strV r.1, slV PrE o] ++ SecE.cs os)
      simp only [List.getElem_cons_zero] at o2
      rw [List.mapM_cons, List.mapM_cons, frz_pure pure_string, o2, h2]
      rfl
abbrev PRes := (Int × Int) ⊕ (Option (List Pr) × Option (List Sec))
def PV : PRes → Value
  | .inl a => .tuple #[.agg #[.slice none 0 0, .slice none 0 0], .int .i64 a.1, .int .i64 a.2]
  | .inr b => .tuple #[.agg #[slV PrE b.1, slV SecE b.2], .int .i64 0, .int .i64 0]
def PRel : (Int × Int) ⊕ Fm → PRes → Prop
  | .inl a, .inl b => a = b
  | .inr F, .inr b => lst b.1 = F.dirs ∧ SecM (lst b.2) F.secs
  | _, _ => False
def parseT (icl : List UInt8 → Bool) (l : List UInt8) : (Int × Int) ⊕ Fm := if 16384 < l.length then .inl (0, 67) else parseM icl (splitF 10 l) 0 ⟨[], []⟩
theorem frz_t3 {k : Nat} {H : Heap} {a b c a' b' c' : Value} (h1 : frz k H a = some a') (h2 : frz k H b = some b') (h3 : frz k H c = some c') : frz (k + 1) H (.tuple #[a, b, c]) = some (.tuple #[a', b', c']) := by
  simp only [frz]
  cases hp : pureV (k + 1) (.tuple #[a, b, c]) with
  | true =>
    rw [show (.tuple #[a, b, c] : Value) = .tuple [a, b, c].toArray from rfl, pure_tup] at hp
    simp only [List.all_cons, List.all_nil, Bool.and_true, Bool.and_eq_true] at hp
    rw [frz_pure hp.1] at h1
    rw [frz_pure hp.2.1] at h2
    rw [frz_pure hp.2.2] at h3
    cases h1; cases h2; cases h3
    rfl
  | false =>
    simp only [cond_false, List.mapM_cons, List.mapM_nil, h1, h2, h3]
    rfl
theorem frz_sl {k n c tag u : Nat} {H : Heap} {a : Addr} {cs l m : List Value} (hp : pureV (k + 1) (.slice (some a) n c) = false) (h : lk H a = some ⟨tag, .cells false u cs⟩) (hr : rdN (cs.drop a.off) (n * u) = some l) (hm : l.mapM (frz k H) = some m) : frz (k + 1) H (.slice (some a) n c) = some (immV n m) := by
  simp only [frz, hp, cond_false, h, hr, Option.bind_some, hm, Option.map_some]
theorem RF.frz {H : Heap} {kf : Nat} {F : Fm} {dv sv : Value} {rs : List Row} {who : Nat → Nat} (r : RF H kf F dv sv rs who) (h' : Heap) (hk : ∀ q, q < H.length → q ≠ 0 → h'[q]? = H[q]?) (hd0 : ∀ b, blkV dv = some b → b ≠ 0) (hs0 : ∀ b, blkV sv = some b → b ≠ 0) (hr0 : ∀ i (hi : i < rs.length) b, blkV rs[i].2 = some b → b ≠ 0) :
    ∃ b : Option (List Pr) × Option (List Sec), lst b.1 = F.dirs ∧ SecM (lst b.2) F.secs ∧ Fw.frz 7 h' (.agg #[dv, sv]) = some (.agg #[slV PrE b.1, slV SecE b.2]) := by
  have d' : Own PrE h' dv F.dirs := r.dO.keep fun b hb => hk b (r.dO.lt hb) (hd0 b hb)
  obtain ⟨od, o1, o2⟩ := Own.frzE d' (k := 5) (Nat.zero_le _)
  obtain ⟨os, s1, s0, s2⟩ := frz_rows (H := h') (k := 4) rs F.secs r.rl fun i hi hj => ⟨(r.rn i hi hj).1, (r.rn i hi hj).2.keep fun b hb => hk b ((r.rn i hi hj).2.lt hb) (hr0 i hi b hb)⟩
  have hsv : ∃ o, lst o = os ∧ Fw.frz 6 h' sv = some (slV SecE o) := by
    rcases r.sO with ⟨h1, h2⟩ | ⟨b, tag, h1, h2⟩
    · subst h1 h2
      have : os = [] := List.eq_nil_of_length_eq_zero (by rw [s0]; rfl)
      exact ⟨none, this.symm, rfl⟩
    · subst h1
      have hb : h'[b]? = some ⟨tag, .cells false 2 (cellsR rs)⟩ := by rw [hk b (List.getElem?_eq_some_iff.1 h2).1 (hs0 b rfl)]; exact h2
      have hlk : lk h' ⟨b, 0, spotOf tag⟩ = some ⟨tag, .cells false 2 (cellsR rs)⟩ := own_lk hb
      refine ⟨some os, rfl, ?_⟩
      have p1 : pureV 6 (own b tag rs.length) = false := rfl
      have p2 : rdN (cellsR rs) (rs.length * 2) = some (cellsR rs) := rdN_all _ (cellsR_len rs).symm
      have := frz_sl (c := rs.length) (n := rs.length) p1 hlk (by rw [List.drop_zero]; exact p2) s2
      rw [← s0] at this ⊢
      exact this
  obtain ⟨o, q1, q2⟩ := hsv
  exact ⟨(od, o), o1, by rw [q1]; exact s1, frz_a2 o2 q2⟩
end Go.Proofs.YtbhoaiacnoiocaaDoor
/- A configuration is read: joined. -/
namespace Go.Proofs.YtbhoaiacnoiocaaDoor
open Go Fw
set_option linter.unusedSimpArgs false
set_option linter.unusedVariables false
set_option linter.unusedSectionVars false

def KPa (o : (Int × Int) ⊕ Fm) (u : Value) (h : Heap) : Prop := ∃ x : PRes, PRel o x ∧ frz 8 h u = some (PV x)
theorem KPa_err {a er : Int} {e : Env} {h : Heap} (h0 : h[0]? = some zE) (e2 : e 2 = ptrC 0 0) (e3 : e 3 = .int .i64 a) (e4 : e 4 = .int .i64 er) : retQ [.cell 2 (some 2), .tmp 3, .tmp 4] (KPa (.inl (a, er))) .ret e h := by
  simp only [fws, cond_true, cond_false, if_true, if_false, unV, isNil, optI, iV, stepI, evalR, reduceIte, reduceCtorEq, Nat.reduceEqDiff, Int.reduceLT, Int.reduceLE, Int.reduceToNat, Nat.reduceLT, Nat.reduceLeDiff, Int.reduceEq, Int.reduceNeg, IntKind.bits, Nat.reduceAdd, Nat.reduceMul, Nat.reducePow, Int.reducePow, ini, fwh, lk, cellsAt, tagOf, spotOf, rdN, spl, fillL, zr, fwi, e2, e3, e4, h0]
  exact ⟨.inl (a, er), rfl, frz_pure rfl⟩
section
variable {T : Tab} {icl : List UInt8 → Bool} (t : CF T) (hicl : ∀ l : List UInt8, l.length ≤ 1000000 → FnV T 34 [strV l] (.bool (icl l)))
include t hicl
theorem f_Parse (l : List UInt8) (hl : l.length ≤ 900000) : ∃ x : PRes, PRel (parseT icl l) x ∧ FnV T 8 [strV l] (PV x) := by
  refine FnV_ex (P := PRel (parseT icl l)) (g := PV) (args := [strV l]) rfl ?_
  rw [Ev_fn t.parse rfl]
  show W T F_conf_Parsec _ _ (retQ [.cell 2 (some 2), .tmp 3, .tmp 4] (KPa (parseT icl l)))
  unfold F_conf_Parsec
  rw [w_seq]
  have st0 : W T (.reg F_conf_Parser0) (ini [strV l]) [] fun x e h => h = [zE] ∧ x = .normal ∧ e 0 = strV l ∧ e 2 = ptrC 0 0 := by
    simp only [fws, cond_true, cond_false, if_true, if_false, unV, isNil, optI, iV, stepI, evalR, reduceIte, reduceCtorEq, Nat.reduceEqDiff, Int.reduceLT, Int.reduceLE, Int.reduceToNat, Nat.reduceLT, Nat.reduceLeDiff, Int.reduceEq, Int.reduceNeg, IntKind.bits, Nat.reduceAdd, Nat.reduceMul, Nat.reducePow, Int.reducePow, ini, fwh, lk, cellsAt, tagOf, spotOf, rdN, spl, fillL, zr, F_conf_Parser0_W, F_conf_Parser1_W, F_conf_Parser2_W, F_conf_Parser3_W, F_conf_Parser4_W, F_conf_Parser5_W, F_conf_Parser6_W, F_conf_Parser7_W, F_conf_Parser8_W, F_conf_Parser9_W, F_conf_Parser10_W, F_conf_Parser11_W, F_conf_Parser12_W, F_conf_Parser13_W, F_conf_Parser14_W, F_conf_Parser15_W, F_conf_Parsel0_W, F_conf_Parser16_W, F_conf_Parsec_W]
    exact ⟨trivial, trivial, trivial, trivial⟩
  refine W.mono st0 fun x e h ⟨q1, q2, e0, e2⟩ => ?_
  subst h q2
  rw [seqQ_normal, w_seq]
  by_cases h64 : 16384 < l.length
  · have q : ((16384 : Int) < l.length) := by omega
    have hp : parseT icl l = .inl (0, 67) := by unfold parseT; rw [if_pos h64]
    rw [hp]
    have hlk : lk [zE] ⟨0, 0, none⟩ = some zE := rfl
    have fin : ∀ e : Env, e 2 = ptrC 0 0 → e 3 = .int .i64 0 → e 4 = .int .i64 67 → retQ [.cell 2 (some 2), .tmp 3, .tmp 4] (KPa (.inl (0, 67))) .ret e [zE] := fun e a b c => KPa_err rfl a b c
    generalize retQ [.cell 2 (some 2), .tmp 3, .tmp 4] (KPa (.inl (0, 67))) = K at *
    simp only [fws, cond_true, cond_false, if_true, if_false, unV, isNil, optI, iV, stepI, evalR, reduceIte, reduceCtorEq, Nat.reduceEqDiff, Int.reduceLT, Int.reduceLE, Int.reduceToNat, Nat.reduceLT, Nat.reduceLeDiff, Int.reduceEq, Int.reduceNeg, IntKind.bits, Nat.reduceAdd, Nat.reduceMul, Nat.reducePow, Int.reducePow, ini, fwh, lk, cellsAt, tagOf, spotOf, rdN, spl, fillL, zr, F_conf_Parser0_W, F_conf_Parser1_W, F_conf_Parser2_W, F_conf_Parser5_W, F_conf_Parser6_W, F_conf_Parser7_W, F_conf_Parser8_W, F_conf_Parser9_W, F_conf_Parser10_W, F_conf_Parser11_W, F_conf_Parser12_W, F_conf_Parser13_W, F_conf_Parser14_W, F_conf_Parser15_W, F_conf_Parsel0_W, F_conf_Parser16_W, F_conf_Parsec_W, e0, e2, lenI_str, q]
    refine fin _ ?_ ?_ ?_
    all_goals (first | assumption | rfl)
  have q : ¬ ((16384 : Int) < l.length) := by omega
  have st1 : W T (.seq (.reg F_conf_Parser1) (.cond (.t 14) (.seq (.reg F_conf_Parser2) .ret) .skip)) e [zE] fun x e h => h = [zE] ∧ x = .normal ∧ e 0 = strV l ∧ e 2 = ptrC 0 0 := by
    simp only [fws, cond_true, cond_false, if_true, if_false, unV, isNil, optI, iV, stepI, evalR, reduceIte, reduceCtorEq, Nat.reduceEqDiff, Int.reduceLT, Int.reduceLE, Int.reduceToNat, Nat.reduceLT, Nat.reduceLeDiff, Int.reduceEq, Int.reduceNeg, IntKind.bits, Nat.reduceAdd, Nat.reduceMul, Nat.reducePow, Int.reducePow, ini, F_conf_Parser0_W, F_conf_Parser1_W, F_conf_Parser2_W, F_conf_Parser3_W, F_conf_Parser4_W, F_conf_Parser5_W, F_conf_Parser6_W, F_conf_Parser7_W, F_conf_Parser8_W, F_conf_Parser9_W, F_conf_Parser10_W, F_conf_Parser11_W, F_conf_Parser12_W, F_conf_Parser13_W, F_conf_Parser14_W, F_conf_Parser15_W, F_conf_Parsel0_W, F_conf_Parser16_W, F_conf_Parsec_W, e0, lenI_str, q]
    exact ⟨trivial, trivial, trivial, e2⟩
  refine W.mono st1 fun x e h ⟨q1, q2, e0, e2⟩ => ?_
  subst h q2
  rw [seqQ_normal, w_seq]
  have st3 : W T (.reg F_conf_Parser3) e [zE] fun x e h => h = [zE, zE] ∧ x = .normal ∧ e 0 = strV l ∧ e 2 = ptrC 0 0 ∧ e 5 = ptrC 1 0 := by
    simp only [fws, cond_true, cond_false, if_true, if_false, unV, isNil, optI, iV, stepI, evalR, reduceIte, reduceCtorEq, Nat.reduceEqDiff, Int.reduceLT, Int.reduceLE, Int.reduceToNat, Nat.reduceLT, Nat.reduceLeDiff, Int.reduceEq, Int.reduceNeg, IntKind.bits, Nat.reduceAdd, Nat.reduceMul, Nat.reducePow, Int.reducePow, ini, fwh, lk, cellsAt, tagOf, spotOf, rdN, spl, fillL, zr, F_conf_Parser0_W, F_conf_Parser1_W, F_conf_Parser2_W, F_conf_Parser3_W, F_conf_Parser4_W, F_conf_Parser5_W, F_conf_Parser6_W, F_conf_Parser7_W, F_conf_Parser8_W, F_conf_Parser9_W, F_conf_Parser10_W, F_conf_Parser11_W, F_conf_Parser12_W, F_conf_Parser13_W, F_conf_Parser14_W, F_conf_Parser15_W, F_conf_Parsel0_W, F_conf_Parser16_W, F_conf_Parsec_W]
    exact ⟨trivial, trivial, e0, e2, trivial⟩
  refine W.mono st3 fun x e h ⟨q1, q2, e0, e2, e5⟩ => ?_
  subst h q2
  rw [seqQ_normal, w_seq]
  have r0 : RF [zE, zE] 1 ⟨[], []⟩ (.slice none 0 0) (.slice none 0 0) [] (fun _ => 0) := ⟨rfl, rfl, Own.nil, (fun _ h => nomatch h), .inl ⟨rfl, rfl⟩, (fun _ h => nomatch h), rfl, (fun i hi => nomatch hi), (fun i hi => nomatch hi), rfl, rfl, by decide⟩
  have hp : parseT icl l = parseM icl (splitF 10 l) 0 ⟨[], []⟩ := by unfold parseT; rw [if_neg h64]
  have c1 := f_split t.lf l hl 10
  have hlen : (splitF 10 l).length ≤ 100000 := by rw [splitF_len]; have := List.count_le_length (a := (10 : UInt8)) (l := l); omega
  have hlp := loop_Parse t hicl (splitF 10 l) hlen (fun x hx => by have := splitF_mem x hx; omega) (splitF 10 l).length 0 [zE, zE]
  have st4 : W T (.seq (.reg F_conf_Parser4) (.block 0 (.loop F_conf_Parsel0))) e [zE, zE] fun x e h => match parseT icl l with
      | .inl (a, er) => x = .ret ∧ h[0]? = some zE ∧ e 2 = ptrC 0 0 ∧ e 3 = .int .i64 a ∧ e 4 = .int .i64 er
      | .inr F' => x = .normal ∧ e 2 = ptrC 0 0 ∧ e 5 = ptrC 1 0 ∧ ∃ dv sv rs who, RF h 1 F' dv sv rs who := by
    simp only [fws, cond_true, cond_false, if_true, if_false, unV, isNil, optI, iV, stepI, evalR, reduceIte, reduceCtorEq, Nat.reduceEqDiff, Int.reduceLT, Int.reduceLE, Int.reduceToNat, Nat.reduceLT, Nat.reduceLeDiff, Int.reduceEq, Int.reduceNeg, IntKind.bits, Nat.reduceAdd, Nat.reduceMul, Nat.reducePow, Int.reducePow, ini, fwi, F_conf_Parser0_W, F_conf_Parser1_W, F_conf_Parser2_W, F_conf_Parser3_W, F_conf_Parser4_W, F_conf_Parser5_W, F_conf_Parser6_W, F_conf_Parser7_W, F_conf_Parser8_W, F_conf_Parser9_W, F_conf_Parser10_W, F_conf_Parser11_W, F_conf_Parser12_W, F_conf_Parser13_W, F_conf_Parser14_W, F_conf_Parser15_W, F_conf_Parser16_W, F_conf_Parsec_W, e0, CC_of c1]
    refine W.mono (hlp _ ⟨[], []⟩ _ _ [] _ (Nat.zero_add _) r0 ⟨Nat.le_refl _, Nat.le_refl _, fun _ h => nomatch h⟩ ?_ ?_ ?_ ?_ ?_) fun x e h hq => ?_
    all_goals try (first | assumption | rfl)
    rw [List.drop_zero, ← hp] at hq
    unfold LpP at hq
    cases ho : parseT icl l with
    | inl a =>
      rw [ho] at hq
      obtain ⟨rfl, q2⟩ := hq
      simp only [fws, cond_true, cond_false, if_true, if_false, unV, isNil, optI, iV, stepI, evalR, reduceIte, reduceCtorEq, Nat.reduceEqDiff, Int.reduceLT, Int.reduceLE, Int.reduceToNat, Nat.reduceLT, Nat.reduceLeDiff, Int.reduceEq, Int.reduceNeg, IntKind.bits, Nat.reduceAdd, Nat.reduceMul, Nat.reducePow, Int.reducePow, ini]
      exact ⟨trivial, q2⟩
    | inr F' =>
      rw [ho] at hq
      obtain ⟨rfl, q2⟩ := hq
      simp only [fws, cond_true, cond_false, if_true, if_false, unV, isNil, optI, iV, stepI, evalR, reduceIte, reduceCtorEq, Nat.reduceEqDiff, Int.reduceLT, Int.reduceLE, Int.reduceToNat, Nat.reduceLT, Nat.reduceLeDiff, Int.reduceEq, Int.reduceNeg, IntKind.bits, Nat.reduceAdd, Nat.reduceMul, Nat.reducePow, Int.reducePow, ini]
      exact ⟨trivial, q2⟩
  refine W.mono st4 fun x e h hq => ?_
  cases ho : parseT icl l with
  | inl a =>
    rw [ho] at hq
    obtain ⟨rfl, h0, e2, e3, e4⟩ := hq
    rw [seqQ_ret]
    exact KPa_err h0 e2 e3 e4
  | inr F' =>
    rw [ho] at hq
    obtain ⟨rfl, e2, e5, dv, sv, rs, who, r⟩ := hq
    rw [seqQ_normal]
    have hc := r.cell
    have hz := r.z
    have hs := fun X => List.getElem?_set_self (a := X) (List.getElem?_eq_some_iff.1 hz).1
    obtain ⟨b, b1, b2, b3⟩ := r.frz (h.set 0 ⟨0, .cells false 2 [dv, sv]⟩) (fun q hq h0 => List.getElem?_set_ne (fun e => h0 e.symm)) (fun b hb e => by have := r.dw b hb; rw [e, r.z0] at this; cases this) (fun b hb e => by have := r.sw b hb; rw [e, r.z0] at this; cases this) (fun i hi b hb e => by have := r.rw i hi b hb; rw [e, r.z0] at this; omega)
    have fin : KPa (.inr F') (.tuple #[.agg #[dv, sv], .int .i64 0, .int .i64 0]) (h.set 0 ⟨0, .cells false 2 [dv, sv]⟩) := ⟨.inr b, ⟨b1, b2⟩, frz_t3 b3 (frz_pure pure_int) (frz_pure pure_int)⟩
    have u1 := (Own.oneC' r.dO).2.2
    have u2 := r.one.2.2
    generalize KPa (.inr F') = K at *
    simp only [fws, cond_true, cond_false, if_true, if_false, unV, isNil, optI, iV, stepI, evalR, reduceIte, reduceCtorEq, Nat.reduceEqDiff, Int.reduceLT, Int.reduceLE, Int.reduceToNat, Nat.reduceLT, Nat.reduceLeDiff, Int.reduceEq, Int.reduceNeg, IntKind.bits, Nat.reduceAdd, Nat.reduceMul, Nat.reducePow, Int.reducePow, ini, fwh, lk, cellsAt, tagOf, spotOf, rdN, spl, fillL, zr, fwi, F_conf_Parser0_W, F_conf_Parser1_W, F_conf_Parser2_W, F_conf_Parser3_W, F_conf_Parser5_W, F_conf_Parser6_W, F_conf_Parser7_W, F_conf_Parser8_W, F_conf_Parser9_W, F_conf_Parser10_W, F_conf_Parser11_W, F_conf_Parser12_W, F_conf_Parser13_W, F_conf_Parser14_W, F_conf_Parser15_W, F_conf_Parsel0_W, F_conf_Parser16_W, F_conf_Parsec_W, e2, e5, hc, hz, hs, u1, u2]
    exact fin
end
end Go.Proofs.YtbhoaiacnoiocaaDoor
