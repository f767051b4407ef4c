/- The document's headers: three lists that grow. -/
import Derived.Test.YtdkdifjjpbfohaaDC
namespace Go.Proofs.Ytdkdifjjpbfohaa
open Go Fw
set_option linter.unusedSimpArgs false
set_option linter.unusedVariables false
set_option linter.unusedSectionVars false

def Dj (v w : Value) : Prop := ∀ b, blkV v = some b → blkV w ≠ some b
theorem Dj.symm {v w : Value} (h : Dj v w) : Dj w v := fun b h1 h2 => h b h2 h1
def Hi (v : Value) : Prop := ∀ b, blkV v = some b → 2 ≤ b
section
variable {E : Enc S_api_Phdr} {H H' : Heap} {v v' w : Value} {l : List S_api_Phdr}
theorem Own.other (f : Fw.Frame H H' v v') (hw : Own E H w l) (hd : Dj v w) : Own E H' w l ∧ Dj v' w := by
  refine ⟨hw.keep fun b hb => f.same b (hw.lt hb) fun e => hd b e hb, fun b hb hb' => ?_⟩
  rcases f.blk with e | ⟨_, b', e, e1⟩
  · exact hd b (e ▸ hb) hb'
  · rw [e] at hb; cases hb
    have := hw.lt hb'; omega
theorem Hi.next (f : Fw.Frame H H' v v') (hv : Hi v) (hl : 2 ≤ H.length) : Hi v' ∧ H'[0]? = H[0]? ∧ H'[1]? = H[1]? := by
  refine ⟨fun b hb => ?_, f.same 0 (by omega) fun e => ?_, f.same 1 (by omega) fun e => ?_⟩
  · rcases f.blk with e | ⟨_, b', e, e1⟩
    · exact hv b (e ▸ hb)
    · rw [e] at hb; cases hb; omega
  · have := hv 0 e; omega
  · have := hv 1 e; omega
theorem Own.one (h : Own E H v l) : v.cells = #[v] ∧ oneAll v = true ∧ oneC v = true := by
  rcases h with ⟨_, rfl⟩ | ⟨b, t, rfl, _⟩ <;> exact ⟨rfl, oneAll_slice, rfl⟩
end
abbrev Zh : List Value := [.int .u16 0, .slice none 0 0, .int .u32 0, .int .u32 0, .int .u64 0, .int .u64 0, .int .u64 0, .int .u64 0, .int .u64 0, .int .u32 0, .int .u32 0, .int .u64 0, .int .u64 0, .int .u64 0, .int .u64 0, .int .u64 0]
abbrev hcs (mch : Int) (nv : Value) : List Value := [.int .u16 mch, nv, .int .u32 0, .int .u32 0, .int .u64 0, .int .u64 0, .int .u64 0, .int .u64 0, .int .u64 0, .int .u32 0, .int .u32 0, .int .u64 0, .int .u64 0, .int .u64 0, .int .u64 0, .int .u64 0]
structure HS (H : Heap) (mch : Int) (nv dv rv : Value) (ls ds rs : List S_api_Phdr) (i : Nat) : Prop where
  r : H[0]? = some (blk 16 Zh)
  hh : H[1]? = some (blk 16 (hcs mch nv))
  on : Own PhE H nv ls
  od : Own PhE H dv ds
  oR : Own PhE H rv rs
  hn : Hi nv
  hd : Hi dv
  hr : Hi rv
  nd : Dj nv dv
  nr : Dj nv rv
  dr : Dj dv rv
  kn : okP ls
  kd : okP ds
  kr : okP rs
  ln : ls.length ≤ i
  ld : ds.length ≤ i
  lr : rs.length ≤ i
theorem okP_add {l : List S_api_Phdr} {p : S_api_Phdr} (h : okP l) (hp : p.wf) : okP (l ++ [p]) := fun q hq => by
  rcases List.mem_append.1 hq with hq | hq
  · exact h q hq
  · rw [List.mem_singleton] at hq; rw [hq]; exact hp
section
variable {H : Heap} {mch : Int} {nv dv rv : Value} {ls ds rs : List S_api_Phdr} {i : Nat} (s : HS H mch nv dv rv ls ds rs i) (hi : i ≤ 16) {p : S_api_Phdr} (hp : p.wf)
include s
theorem HS.len : 2 ≤ H.length := by have := (List.getElem?_eq_some_iff.1 s.hh).1; omega
theorem HS.skip : HS H mch nv dv rv ls ds rs (i + 1) := ⟨s.r, s.hh, s.on, s.od, s.oR, s.hn, s.hd, s.hr, s.nd, s.nr, s.dr, s.kn, s.kd, s.kr, Nat.le_succ_of_le s.ln, Nat.le_succ_of_le s.ld, Nat.le_succ_of_le s.lr⟩
include hi hp
theorem HS.pushD : ∃ v' H', appV 7 48 H dv (PhE.e p) 1 = some (v', H') ∧ HS H' mch nv v' rv ls (ds ++ [p]) rs (i + 1) := by
  have hl := s.ld
  obtain ⟨v', H', a1, a2, a3⟩ := s.od.app (m := [p]) (n := 7) (eb := 48) (k := 1) rfl rfl (by simp; omega)
  have a1 : appV 7 48 H dv (PhE.e p) 1 = some (v', H') := by rw [← a1]; show _ = appV 7 48 H dv (PhE.e p ++ []) 1; rw [List.append_nil]
  obtain ⟨n1, n2⟩ := Own.other a3 s.on s.nd.symm
  obtain ⟨r1, r2⟩ := Own.other a3 s.oR s.dr
  obtain ⟨k1, k2, k3⟩ := Hi.next a3 s.hd s.len
  refine ⟨v', H', a1, ⟨k2.trans s.r, k3.trans s.hh, n1, a2, r1, s.hn, k1, s.hr, n2.symm, s.nr, r2, s.kn, okP_add s.kd hp, s.kr, Nat.le_succ_of_le s.ln, by rw [List.length_append]; exact Nat.succ_le_succ s.ld, Nat.le_succ_of_le s.lr⟩⟩
theorem HS.pushR : ∃ v' H', appV 7 48 H rv (PhE.e p) 1 = some (v', H') ∧ HS H' mch nv dv v' ls ds (rs ++ [p]) (i + 1) := by
  have hl := s.lr
  obtain ⟨v', H', a1, a2, a3⟩ := s.oR.app (m := [p]) (n := 7) (eb := 48) (k := 1) rfl rfl (by simp; omega)
  have a1 : appV 7 48 H rv (PhE.e p) 1 = some (v', H') := by rw [← a1]; show _ = appV 7 48 H rv (PhE.e p ++ []) 1; rw [List.append_nil]
  obtain ⟨n1, n2⟩ := Own.other a3 s.on s.nr.symm
  obtain ⟨r1, r2⟩ := Own.other a3 s.od s.dr.symm
  obtain ⟨k1, k2, k3⟩ := Hi.next a3 s.hr s.len
  refine ⟨v', H', a1, ⟨k2.trans s.r, k3.trans s.hh, n1, r1, a2, s.hn, s.hd, k1, s.nd, n2.symm, r2.symm, s.kn, s.kd, okP_add s.kr hp, Nat.le_succ_of_le s.ln, Nat.le_succ_of_le s.ld, by rw [List.length_append]; exact Nat.succ_le_succ s.lr⟩⟩
theorem HS.pushN : ∃ v' H', appV 7 48 H nv (PhE.e p) 1 = some (v', H') ∧ v'.cells = #[v'] ∧ oneAll v' = true ∧ H'[1]? = some (blk 16 (hcs mch nv)) ∧ HS (H'.set 1 (blk 16 (hcs mch v'))) mch v' dv rv (ls ++ [p]) ds rs (i + 1) := by
  have hl := s.ln
  have hlen := s.len
  obtain ⟨v', H', a1, a2, a3⟩ := s.on.app (m := [p]) (n := 7) (eb := 48) (k := 1) rfl rfl (by simp; omega)
  have a1 : appV 7 48 H nv (PhE.e p) 1 = some (v', H') := by rw [← a1]; show _ = appV 7 48 H nv (PhE.e p ++ []) 1; rw [List.append_nil]
  obtain ⟨n1, n2⟩ := Own.other a3 s.od s.nd
  obtain ⟨r1, r2⟩ := Own.other a3 s.oR s.nr
  obtain ⟨k1, k2, k3⟩ := Hi.next a3 s.hn s.len
  have hs : ∀ {w l}, Own PhE H' w l → Hi w → Own PhE (H'.set 1 (blk 16 (hcs mch v'))) w l := fun ho hh => ho.keep fun b hb => List.getElem?_set_ne fun e => by have := hh b hb; omega
  refine ⟨v', H', a1, (Own.one a2).1, (Own.one a2).2.1, k3.trans s.hh, ⟨?_, ?_, hs a2 k1, hs n1 s.hd, hs r1 s.hr, k1, s.hd, s.hr, n2, r2, s.dr, okP_add s.kn hp, s.kd, s.kr, by rw [List.length_append]; exact Nat.succ_le_succ s.ln, Nat.le_succ_of_le s.ld, Nat.le_succ_of_le s.lr⟩⟩
  · rw [List.getElem?_set_ne (by decide)]; exact k2.trans s.r
  · exact List.getElem?_set_self (by have := a3.len; omega)
end
end Go.Proofs.Ytdkdifjjpbfohaa
/- The document's headers: the loop over the parts. -/
namespace Go.Proofs.Ytdkdifjjpbfohaa
open Go Fw
set_option linter.unusedSimpArgs false
set_option linter.unusedVariables false
set_option linter.unusedSectionVars false

theorem ph_f0 {l : List S_api_Phdr} {i : Nat} (hi : i < l.length) : ∃ p0, (∀ H, faI H 0 (atI PhE l i) = some (p0, H)) ∧ ∀ H, loadI H p0 = some (.int .u32 l[i].Typ, H) := by
  rw [at_cons hi]
  exact ⟨_, fun H => faI_iptr, fun H => rfl⟩
/-- What the loop keeps. -/
structure WH (e : Env) (o : Option (List UInt8)) (tl : Option (List S_api_Phdr)) (dv rv : Value) (en : Int) (i : Nat) : Prop where
  e0 : e 0 = slV byteE o
  e2 : e 2 = ptrA 0 0
  e4 : e 4 = slV PhE tl
  e6 : e 6 = ptrA 1 0
  e7 : e 7 = dv
  e8 : e 8 = rv
  e9 : e 9 = .int .u64 en
  e10 : e 10 = .int .i64 i
/-- Out by an error. -/
def RH (x : Ex) (e : Env) (h : Heap) : Prop := x = .ret ∧ h[0]? = some (blk 16 Zh) ∧ e 2 = ptrA 0 0 ∧ ∃ er, er ≠ 0 ∧ e 3 = .int .i64 er
section
variable {T : Tab} (h0 : T 72 = some F_ref01_Sum) (h1 : T 71 = some F_ref01_Less) (h2 : T 61 = some F_ref01_Inside) (h3 : T 49 = some F_ref08_End) (h4 : T 48 = some F_ref08_may)
variable (o : Option (List UInt8)) (hl : (lst o).length ≤ 100000000) (tl : Option (List S_api_Phdr)) (hk : okP (lst tl)) (ht : (lst tl).length ≤ 16) {mch : Int}
include h0 h1 h2 h3 h4 hl hk ht
theorem loop_ref08_Parse : ∀ (k i : Nat) (H : Heap) (env : Env) (nv dv rv : Value) (en : Int) (ls ds rs : List S_api_Phdr), i + k = (lst tl).length → isU64 en → WH env o tl dv rv en i → HS H mch nv dv rv ls ds rs i →
    W T (.loop F_ref08_Parsel0) env H fun x e h => RH x e h ∨ (x = .exit 0 ∧ ∃ nv dv rv en ls ds rs, WH e o tl dv rv en (lst tl).length ∧ HS h mch nv dv rv ls ds rs (lst tl).length) := by
  intro k
  induction k with
  | zero =>
    intro i H env nv dv rv en ls ds rs hi hen he s
    have hi' : i = (lst tl).length := by omega
    subst hi'
    have he' := he
    obtain ⟨e0, e2, e4, e6, e7, e8, e9, e10⟩ := he
    have q : ¬ (((lst tl).length : Int) < (lst tl).length) := by omega
    rw [w_loop]
    simp only [fws, cond_true, cond_false, if_true, if_false, unV, isNil, optI, iV, stepI, evalR, reduceIte, reduceCtorEq, Nat.reduceEqDiff, Int.reduceLT, Int.reduceLE, Int.reduceToNat, Nat.reduceLT, Nat.reduceLeDiff, Int.reduceEq, Int.reduceNeg, IntKind.bits, Nat.reduceAdd, Nat.reduceMul, Nat.reducePow, Int.reducePow, ini, fwh, lk, cellsAt, tagOf, spotOf, rdN, spl, fillL, zr, fwi, F_ref08_Parser0_W, F_ref08_Parser1_W, F_ref08_Parser2_W, F_ref08_Parser3_W, F_ref08_Parser4_W, F_ref08_Parser5_W, F_ref08_Parser6_W, F_ref08_Parser7_W, F_ref08_Parser8_W, F_ref08_Parser10_W, F_ref08_Parser11_W, F_ref08_Parser12_W, F_ref08_Parser13_W, F_ref08_Parser14_W, F_ref08_Parser15_W, F_ref08_Parser16_W, F_ref08_Parser17_W, F_ref08_Parser18_W, F_ref08_Parser19_W, F_ref08_Parser9_W, F_ref08_Parsel0_W, F_ref08_Parser20_W, F_ref08_Parser21_W, F_ref08_Parser22_W, F_ref08_Parser22_g3, F_ref08_Parser22_g10, F_ref08_Parser23_W, F_ref08_Parser24_W, F_ref08_Parser25_W, F_ref08_Parser26_W, F_ref08_Parser27_W, F_ref08_Parser28_W, F_ref08_Parser29_W, F_ref08_Parser30_W, F_ref08_Parser31_W, F_ref08_Parser32_W, F_ref08_Parser32_g3, F_ref08_Parser32_g9, F_ref08_Parser32_g16, F_ref08_Parser32_g20, F_ref08_Parser33_W, F_ref08_Parser34_W, F_ref08_Parsec_W, e4, e10, lenI_sl, q]
    exact .inr ⟨trivial, nv, dv, rv, en, ls, ds, rs, ⟨e0, e2, e4, e6, e7, e8, e9, e10⟩, s⟩
  | succ k ih =>
    intro i H env nv dv rv en ls ds rs hi hen he s
    obtain ⟨e0, e2, e4, e6, e7, e8, e9, e10⟩ := he
    have hix : i < (lst tl).length := by omega
    have q : ((i : Int) < (lst tl).length) := by omega
    have hx := fun H => ix_sl (E := PhE) (o := tl) (n := 7) rfl hix .i64 H
    have hld : ∀ H, loadNI H 7 (atI PhE (lst tl) i) = some (phA (lst tl)[i], H) := fun H => loadNI_at rfl hix
    obtain ⟨p0, hf, hf0⟩ := ph_f0 hix
    have hp := hk _ (List.getElem_mem hix)
    have w1 : IntKind.i64.wrap ((i : Int) + 1) = ((i + 1 : Nat) : Int) := by rw [wrapI64 (by omega) (by omega)]; rfl
    rw [w_loop]
    by_cases k1 : (lst tl)[i].Typ = 1
    · have d1 : decide ((lst tl)[i].Typ = 1) = true := decide_eq_true k1
      have wl : IntKind.u64.wrap ((lst o).length : Int) = (lst o).length := by rw [wrap_u64]; omega
      obtain ⟨b, _, c1⟩ := f_ref08_may (T := T) h0 h1 h2 h3 h4 (lst tl)[i] hp (show isU64 ((lst o).length : Int) by unfold isU64; omega) hen (decide ((ls.length : Int) = 0))
      have hh := s.hh
      have hr := s.r
      have hln := s.on.len
      have hs := fun X => List.getElem?_set_self (a := X) (List.getElem?_eq_some_iff.1 hr).1
      cases b with
      | false =>
        simp only [fws, cond_true, cond_false, if_true, if_false, unV, isNil, optI, iV, stepI, evalR, reduceIte, reduceCtorEq, Nat.reduceEqDiff, Int.reduceLT, Int.reduceLE, Int.reduceToNat, Nat.reduceLT, Nat.reduceLeDiff, Int.reduceEq, Int.reduceNeg, IntKind.bits, Nat.reduceAdd, Nat.reduceMul, Nat.reducePow, Int.reducePow, ini, fwh, lk, cellsAt, tagOf, spotOf, rdN, spl, fillL, zr, fwi, F_ref08_Parser0_W, F_ref08_Parser1_W, F_ref08_Parser2_W, F_ref08_Parser3_W, F_ref08_Parser4_W, F_ref08_Parser5_W, F_ref08_Parser6_W, F_ref08_Parser7_W, F_ref08_Parser8_W, F_ref08_Parser10_W, F_ref08_Parser11_W, F_ref08_Parser12_W, F_ref08_Parser13_W, F_ref08_Parser14_W, F_ref08_Parser15_W, F_ref08_Parser16_W, F_ref08_Parser17_W, F_ref08_Parser18_W, F_ref08_Parser19_W, F_ref08_Parser9_W, F_ref08_Parsel0_W, F_ref08_Parser20_W, F_ref08_Parser21_W, F_ref08_Parser22_W, F_ref08_Parser22_g3, F_ref08_Parser22_g10, F_ref08_Parser23_W, F_ref08_Parser24_W, F_ref08_Parser25_W, F_ref08_Parser26_W, F_ref08_Parser27_W, F_ref08_Parser28_W, F_ref08_Parser29_W, F_ref08_Parser30_W, F_ref08_Parser31_W, F_ref08_Parser32_W, F_ref08_Parser32_g3, F_ref08_Parser32_g9, F_ref08_Parser32_g16, F_ref08_Parser32_g20, F_ref08_Parser33_W, F_ref08_Parser34_W, F_ref08_Parsec_W, e0, e2, e4, e6, e7, e8, e9, e10, lenI_sl, q, hx, hld, hf, hf0, d1, hh, hr, hln, wl, CC_of c1, hs]
        exact .inl ⟨rfl, hs _, e2, 85, by decide, rfl⟩
      | true =>
        obtain ⟨n, hn, c2⟩ := f_ref08_End (T := T) h3 (lst tl)[i]
        obtain ⟨v', H', a1, a2, a3, a4, a5⟩ := s.pushN (by omega) hp
        have a1 : appV 7 48 H nv [.int .u32 (lst tl)[i].Typ, .int .u32 (lst tl)[i].Flags, .int .u64 (lst tl)[i].Off, .int .u64 (lst tl)[i].Vaddr, .int .u64 (lst tl)[i].Filesz, .int .u64 (lst tl)[i].Memsz, .int .u64 (lst tl)[i].Align] 1 = some (v', H') := a1
        simp only [fws, cond_true, cond_false, if_true, if_false, unV, isNil, optI, iV, stepI, evalR, reduceIte, reduceCtorEq, Nat.reduceEqDiff, Int.reduceLT, Int.reduceLE, Int.reduceToNat, Nat.reduceLT, Nat.reduceLeDiff, Int.reduceEq, Int.reduceNeg, IntKind.bits, Nat.reduceAdd, Nat.reduceMul, Nat.reducePow, Int.reducePow, ini, fwh, lk, cellsAt, tagOf, spotOf, rdN, spl, fillL, zr, fwi, F_ref08_Parser0_W, F_ref08_Parser1_W, F_ref08_Parser2_W, F_ref08_Parser3_W, F_ref08_Parser4_W, F_ref08_Parser5_W, F_ref08_Parser6_W, F_ref08_Parser7_W, F_ref08_Parser8_W, F_ref08_Parser10_W, F_ref08_Parser11_W, F_ref08_Parser12_W, F_ref08_Parser13_W, F_ref08_Parser14_W, F_ref08_Parser15_W, F_ref08_Parser16_W, F_ref08_Parser17_W, F_ref08_Parser18_W, F_ref08_Parser19_W, F_ref08_Parser9_W, F_ref08_Parsel0_W, F_ref08_Parser20_W, F_ref08_Parser21_W, F_ref08_Parser22_W, F_ref08_Parser22_g3, F_ref08_Parser22_g10, F_ref08_Parser23_W, F_ref08_Parser24_W, F_ref08_Parser25_W, F_ref08_Parser26_W, F_ref08_Parser27_W, F_ref08_Parser28_W, F_ref08_Parser29_W, F_ref08_Parser30_W, F_ref08_Parser31_W, F_ref08_Parser32_W, F_ref08_Parser32_g3, F_ref08_Parser32_g9, F_ref08_Parser32_g16, F_ref08_Parser32_g20, F_ref08_Parser33_W, F_ref08_Parser34_W, F_ref08_Parsec_W, e0, e2, e4, e6, e7, e8, e9, e10, lenI_sl, q, hx, hld, hf, hf0, d1, hh, hr, hln, wl, CC_of c1, CC_of c2, srcOf_immV, a1, a2, a3, a4, w1]
        refine ih (i + 1) _ _ v' dv rv n (ls ++ [(lst tl)[i]]) ds rs (by omega) hn ⟨?_, ?_, ?_, ?_, ?_, ?_, ?_, ?_⟩ a5
        all_goals (first | assumption | rfl)
    · have d1 : decide ((lst tl)[i].Typ = 1) = false := decide_eq_false k1
      by_cases k2 : (lst tl)[i].Typ = 2
      · have d2 : decide ((lst tl)[i].Typ = 2) = true := decide_eq_true k2
        obtain ⟨v', H', a1, a2⟩ := s.pushD (by omega) hp
        have a1 : appV 7 48 H dv [.int .u32 (lst tl)[i].Typ, .int .u32 (lst tl)[i].Flags, .int .u64 (lst tl)[i].Off, .int .u64 (lst tl)[i].Vaddr, .int .u64 (lst tl)[i].Filesz, .int .u64 (lst tl)[i].Memsz, .int .u64 (lst tl)[i].Align] 1 = some (v', H') := a1
        simp only [fws, cond_true, cond_false, if_true, if_false, unV, isNil, optI, iV, stepI, evalR, reduceIte, reduceCtorEq, Nat.reduceEqDiff, Int.reduceLT, Int.reduceLE, Int.reduceToNat, Nat.reduceLT, Nat.reduceLeDiff, Int.reduceEq, Int.reduceNeg, IntKind.bits, Nat.reduceAdd, Nat.reduceMul, Nat.reducePow, Int.reducePow, ini, fwh, lk, cellsAt, tagOf, spotOf, rdN, spl, fillL, zr, fwi, F_ref08_Parser0_W, F_ref08_Parser1_W, F_ref08_Parser2_W, F_ref08_Parser3_W, F_ref08_Parser4_W, F_ref08_Parser5_W, F_ref08_Parser6_W, F_ref08_Parser7_W, F_ref08_Parser8_W, F_ref08_Parser10_W, F_ref08_Parser11_W, F_ref08_Parser12_W, F_ref08_Parser13_W, F_ref08_Parser14_W, F_ref08_Parser15_W, F_ref08_Parser16_W, F_ref08_Parser17_W, F_ref08_Parser18_W, F_ref08_Parser19_W, F_ref08_Parser9_W, F_ref08_Parsel0_W, F_ref08_Parser20_W, F_ref08_Parser21_W, F_ref08_Parser22_W, F_ref08_Parser22_g3, F_ref08_Parser22_g10, F_ref08_Parser23_W, F_ref08_Parser24_W, F_ref08_Parser25_W, F_ref08_Parser26_W, F_ref08_Parser27_W, F_ref08_Parser28_W, F_ref08_Parser29_W, F_ref08_Parser30_W, F_ref08_Parser31_W, F_ref08_Parser32_W, F_ref08_Parser32_g3, F_ref08_Parser32_g9, F_ref08_Parser32_g16, F_ref08_Parser32_g20, F_ref08_Parser33_W, F_ref08_Parser34_W, F_ref08_Parsec_W, e0, e2, e4, e6, e7, e8, e9, e10, lenI_sl, q, hx, hld, hf, hf0, d1, d2, srcOf_immV, a1, w1]
        refine ih (i + 1) _ _ nv v' rv en ls (ds ++ [(lst tl)[i]]) rs (by omega) hen ⟨?_, ?_, ?_, ?_, ?_, ?_, ?_, ?_⟩ a2
        all_goals (first | assumption | rfl)
      · have d2 : decide ((lst tl)[i].Typ = 2) = false := decide_eq_false k2
        by_cases k3 : (lst tl)[i].Typ = 1685382482
        · have d3 : decide ((lst tl)[i].Typ = 1685382482) = true := decide_eq_true k3
          obtain ⟨v', H', a1, a2⟩ := s.pushR (by omega) hp
          have a1 : appV 7 48 H rv [.int .u32 (lst tl)[i].Typ, .int .u32 (lst tl)[i].Flags, .int .u64 (lst tl)[i].Off, .int .u64 (lst tl)[i].Vaddr, .int .u64 (lst tl)[i].Filesz, .int .u64 (lst tl)[i].Memsz, .int .u64 (lst tl)[i].Align] 1 = some (v', H') := a1
          simp only [fws, cond_true, cond_false, if_true, if_false, unV, isNil, optI, iV, stepI, evalR, reduceIte, reduceCtorEq, Nat.reduceEqDiff, Int.reduceLT, Int.reduceLE, Int.reduceToNat, Nat.reduceLT, Nat.reduceLeDiff, Int.reduceEq, Int.reduceNeg, IntKind.bits, Nat.reduceAdd, Nat.reduceMul, Nat.reducePow, Int.reducePow, ini, fwh, lk, cellsAt, tagOf, spotOf, rdN, spl, fillL, zr, fwi, F_ref08_Parser0_W, F_ref08_Parser1_W, F_ref08_Parser2_W, F_ref08_Parser3_W, F_ref08_Parser4_W, F_ref08_Parser5_W, F_ref08_Parser6_W, F_ref08_Parser7_W, F_ref08_Parser8_W, F_ref08_Parser10_W, F_ref08_Parser11_W, F_ref08_Parser12_W, F_ref08_Parser13_W, F_ref08_Parser14_W, F_ref08_Parser15_W, F_ref08_Parser16_W, F_ref08_Parser17_W, F_ref08_Parser18_W, F_ref08_Parser19_W, F_ref08_Parser9_W, F_ref08_Parsel0_W, F_ref08_Parser20_W, F_ref08_Parser21_W, F_ref08_Parser22_W, F_ref08_Parser22_g3, F_ref08_Parser22_g10, F_ref08_Parser23_W, F_ref08_Parser24_W, F_ref08_Parser25_W, F_ref08_Parser26_W, F_ref08_Parser27_W, F_ref08_Parser28_W, F_ref08_Parser29_W, F_ref08_Parser30_W, F_ref08_Parser31_W, F_ref08_Parser32_W, F_ref08_Parser32_g3, F_ref08_Parser32_g9, F_ref08_Parser32_g16, F_ref08_Parser32_g20, F_ref08_Parser33_W, F_ref08_Parser34_W, F_ref08_Parsec_W, e0, e2, e4, e6, e7, e8, e9, e10, lenI_sl, q, hx, hld, hf, hf0, d1, d2, d3, srcOf_immV, a1, w1]
          refine ih (i + 1) _ _ nv dv v' en ls ds (rs ++ [(lst tl)[i]]) (by omega) hen ⟨?_, ?_, ?_, ?_, ?_, ?_, ?_, ?_⟩ a2
          all_goals (first | assumption | rfl)
        · have d3 : decide ((lst tl)[i].Typ = 1685382482) = false := decide_eq_false k3
          simp only [fws, cond_true, cond_false, if_true, if_false, unV, isNil, optI, iV, stepI, evalR, reduceIte, reduceCtorEq, Nat.reduceEqDiff, Int.reduceLT, Int.reduceLE, Int.reduceToNat, Nat.reduceLT, Nat.reduceLeDiff, Int.reduceEq, Int.reduceNeg, IntKind.bits, Nat.reduceAdd, Nat.reduceMul, Nat.reducePow, Int.reducePow, ini, fwh, lk, cellsAt, tagOf, spotOf, rdN, spl, fillL, zr, fwi, F_ref08_Parser0_W, F_ref08_Parser1_W, F_ref08_Parser2_W, F_ref08_Parser3_W, F_ref08_Parser4_W, F_ref08_Parser5_W, F_ref08_Parser6_W, F_ref08_Parser7_W, F_ref08_Parser8_W, F_ref08_Parser10_W, F_ref08_Parser11_W, F_ref08_Parser12_W, F_ref08_Parser13_W, F_ref08_Parser14_W, F_ref08_Parser15_W, F_ref08_Parser16_W, F_ref08_Parser17_W, F_ref08_Parser18_W, F_ref08_Parser19_W, F_ref08_Parser9_W, F_ref08_Parsel0_W, F_ref08_Parser20_W, F_ref08_Parser21_W, F_ref08_Parser22_W, F_ref08_Parser22_g3, F_ref08_Parser22_g10, F_ref08_Parser23_W, F_ref08_Parser24_W, F_ref08_Parser25_W, F_ref08_Parser26_W, F_ref08_Parser27_W, F_ref08_Parser28_W, F_ref08_Parser29_W, F_ref08_Parser30_W, F_ref08_Parser31_W, F_ref08_Parser32_W, F_ref08_Parser32_g3, F_ref08_Parser32_g9, F_ref08_Parser32_g16, F_ref08_Parser32_g20, F_ref08_Parser33_W, F_ref08_Parser34_W, F_ref08_Parsec_W, e0, e2, e4, e6, e7, e8, e9, e10, lenI_sl, q, hx, hld, hf, hf0, d1, d2, d3, w1]
          refine ih (i + 1) _ _ nv dv rv en ls ds rs (by omega) hen ⟨?_, ?_, ?_, ?_, ?_, ?_, ?_, ?_⟩ s.skip
          all_goals (first | assumption | rfl)
end
end Go.Proofs.Ytdkdifjjpbfohaa
/- The document's headers: parts of lists, and the steps behind the loop. -/
namespace Go.Proofs.Ytdkdifjjpbfohaa
open Go Fw
set_option linter.unusedSimpArgs false
set_option linter.unusedVariables false
set_option linter.unusedSectionVars false

theorem Own.ph {H : Heap} {v : Value} {l : List S_api_Phdr} (h : Own PhE H v l) {i : Nat} (hi : i < l.length) (k : IntKind) : ∃ p p1 p3 p4, ixaI H 7 v (.int k i) = some (p, H) ∧ faI H 1 p = some (p1, H) ∧ faI H 3 p = some (p3, H) ∧ faI H 4 p = some (p4, H) ∧ loadI H p1 = some (.int .u32 l[i].Flags, H) ∧ loadI H p3 = some (.int .u64 l[i].Vaddr, H) ∧ loadI H p4 = some (.int .u64 l[i].Filesz, H) ∧ loadNI H 7 p = some (phA l[i], H) := by
  obtain ⟨a, tag, b, _, ha, _, hlk, hoff, _⟩ := h.ix (n := 7) rfl hi k
  have hcs : ∀ j, (PhE.cs l).drop (a.off + j) = (PhE.e l[i] ++ PhE.cs (l.drop (i + 1))).drop j := fun j => by
    have h2 := cs_drop (E := PhE) l i
    have h3 : i * PhE.u = a.off := hoff.symm
    rw [← List.drop_drop, ← h3, h2, List.drop_eq_getElem_cons hi, cs_cons]
  have hc : ∀ j, cellsAt H ⟨a.block, a.off + j, a.spot⟩ = some ((PhE.e l[i] ++ PhE.cs (l.drop (i + 1))).drop j) := fun j => by
    have h4 : lk H ⟨a.block, a.off + j, a.spot⟩ = some ⟨tag, .cells false 7 (PhE.cs l)⟩ := hlk
    simp only [cellsAt, h4, hcs]
  refine ⟨_, _, _, _, ha, faI_ptr, faI_ptr, faI_ptr, ?_, ?_, ?_, ?_⟩
  · rw [loadI_ptr, hc]; rfl
  · rw [loadI_ptr, hc]; rfl
  · rw [loadI_ptr, hc]; rfl
  · have h0 : cellsAt H a = some (PhE.e l[i] ++ PhE.cs (l.drop (i + 1))) := hc 0
    have h5 : rdN (PhE.e l[i] ++ PhE.cs (l.drop (i + 1))) 7 = some (PhE.e l[i]) := rdN_len (PhE.e l[i]) _
    rw [loadNI_ptr, h0]
    simp only [h5, Option.map_some]
    rfl
abbrev HX := Hd × Int
def HX.v (x : HX) : Value := .tuple #[x.1.v, .int .i64 x.2]
def KH (u : Value) (h : Heap) : Prop := ∃ x : HX, x.1.wf ∧ frz 8 h u = some x.v
def zP : S_api_Phdr := ⟨0, 0, 0, 0, 0, 0, 0⟩
def zH : Hd := ⟨0, none, zP, zP⟩
theorem zH_wf : zH.wf := ⟨(fun _ h => nomatch h), by unfold S_api_Phdr.wf; decide, by unfold S_api_Phdr.wf; decide, Nat.zero_le _⟩
theorem KH_err {e : Env} {h : Heap} (r : RH .ret e h) : retQ [.cell 2 (some 16), .tmp 3] KH .ret e h := by
  obtain ⟨_, g, e2, er, hne, e3⟩ := r
  simp only [fws, cond_true, cond_false, if_true, if_false, unV, isNil, optI, iV, stepI, evalR, reduceIte, reduceCtorEq, Nat.reduceEqDiff, Int.reduceLT, Int.reduceLE, Int.reduceToNat, Nat.reduceLT, Nat.reduceLeDiff, Int.reduceEq, Int.reduceNeg, IntKind.bits, Nat.reduceAdd, Nat.reduceMul, Nat.reducePow, Int.reducePow, ini, fwh, lk, cellsAt, tagOf, spotOf, rdN, spl, fillL, zr, fwi, e2, e3, g]
  exact ⟨(zH, er), zH_wf, frz_pure rfl⟩
/-- The headers, in a block. -/
abbrev hc2 (mch : Int) (nv : Value) (dy re : S_api_Phdr) : List Value := [.int .u16 mch, nv, .int .u32 dy.Typ, .int .u32 dy.Flags, .int .u64 dy.Off, .int .u64 dy.Vaddr, .int .u64 dy.Filesz, .int .u64 dy.Memsz, .int .u64 dy.Align, .int .u32 re.Typ, .int .u32 re.Flags, .int .u64 re.Off, .int .u64 re.Vaddr, .int .u64 re.Filesz, .int .u64 re.Memsz, .int .u64 re.Align]
theorem hc2_frz {k : Nat} {H : Heap} {mch : Int} {nv w : Value} {dy re : S_api_Phdr} (h : frz k H nv = some w) : frz (k + 1) H (.agg (hc2 mch nv dy re).toArray) = some (.agg (hc2 mch w dy re).toArray) := by
  simp only [frz]
  cases hp : pureV (k + 1) (.agg (hc2 mch nv dy re).toArray) with
  | true =>
    have h1 : pureV k nv = true := by
      rw [pure_agg] at hp
      simp only [List.all_cons, Bool.and_eq_true] at hp
      exact hp.2.1
    rw [frz_pure h1] at h
    cases h
    rfl
  | false =>
    have hi : ∀ kd n, frz k H (.int kd n) = some (.int kd n) := fun kd n => frz_pure pure_int
    simp only [cond_false, List.mapM_cons, List.mapM_nil, hi, h]
    rfl
structure HT (H : Heap) (mch : Int) (nv rv : Value) (ls rs : List S_api_Phdr) (dy re : S_api_Phdr) : Prop where
  r : H[0]? = some (blk 16 Zh)
  hh : H[1]? = some (blk 16 (hc2 mch nv dy re))
  on : Own PhE H nv ls
  oR : Own PhE H rv rs
  hn : Hi nv
  hr : Hi rv
  kn : okP ls
  kr : okP rs
  ln : ls.length ≤ 16
  kd : dy.wf
  ke : re.wf
theorem HT.set {H : Heap} {mch : Int} {nv rv : Value} {ls rs : List S_api_Phdr} {dy re dy' re' : S_api_Phdr} (s : HT H mch nv rv ls rs dy re) (hd : dy'.wf) (he : re'.wf) : HT (H.set 1 (blk 16 (hc2 mch nv dy' re'))) mch nv rv ls rs dy' re' :=
  ⟨by rw [List.getElem?_set_ne (by decide)]; exact s.r, List.getElem?_set_self (List.getElem?_eq_some_iff.1 s.hh).1, s.on.keep fun b hb => List.getElem?_set_ne fun e => by have := s.hn b hb; omega, s.oR.keep fun b hb => List.getElem?_set_ne fun e => by have := s.hr b hb; omega, s.hn, s.hr, s.kn, s.kr, s.ln, hd, he⟩
/-- What the steps behind the loop keep. -/
structure WJ (e : Env) (rv : Value) : Prop where
  e2 : e 2 = ptrA 0 0
  e6 : e 6 = ptrA 1 0
  e8 : e 8 = rv
def dead (x : Ex) (e : Env) (h : Heap) : Prop := x = .ret ∧ retQ [.cell 2 (some 16), .tmp 3] KH .ret e h
section
variable {T : Tab} {env : Env} {H : Heap} {mch : Int} {nv dv rv : Value} {ls ds rs : List S_api_Phdr} {dy re : S_api_Phdr}
theorem ph20 (he : WJ env rv) (e7 : env 7 = dv) (s : HT H mch nv rv ls rs zP zP) : W T (.seq (.reg F_ref08_Parser20) (.cond (.t 90) (.seq (.reg F_ref08_Parser21) .ret) .skip)) env H fun x e h => (dead x e h) ∨ (h = H ∧ x = .normal ∧ WJ e rv ∧ e 7 = dv) := by
  obtain ⟨e2, e6, e8⟩ := he
  have hr := s.r
  have hh := s.hh
  have hln := s.on.len
  have hs := fun X => List.getElem?_set_self (a := X) (List.getElem?_eq_some_iff.1 hr).1
  cases q : decide ((ls.length : Int) = 0) with
  | true =>
    simp only [fws, cond_true, cond_false, if_true, if_false, unV, isNil, optI, iV, stepI, evalR, reduceIte, reduceCtorEq, Nat.reduceEqDiff, Int.reduceLT, Int.reduceLE, Int.reduceToNat, Nat.reduceLT, Nat.reduceLeDiff, Int.reduceEq, Int.reduceNeg, IntKind.bits, Nat.reduceAdd, Nat.reduceMul, Nat.reducePow, Int.reducePow, ini, fwh, lk, cellsAt, tagOf, spotOf, rdN, spl, fillL, zr, fwi, F_ref08_Parser0_W, F_ref08_Parser1_W, F_ref08_Parser2_W, F_ref08_Parser3_W, F_ref08_Parser4_W, F_ref08_Parser5_W, F_ref08_Parser6_W, F_ref08_Parser7_W, F_ref08_Parser8_W, F_ref08_Parser10_W, F_ref08_Parser11_W, F_ref08_Parser12_W, F_ref08_Parser13_W, F_ref08_Parser14_W, F_ref08_Parser15_W, F_ref08_Parser16_W, F_ref08_Parser17_W, F_ref08_Parser18_W, F_ref08_Parser19_W, F_ref08_Parser9_W, F_ref08_Parsel0_W, F_ref08_Parser20_W, F_ref08_Parser21_W, F_ref08_Parser22_W, F_ref08_Parser22_g3, F_ref08_Parser22_g10, F_ref08_Parser23_W, F_ref08_Parser24_W, F_ref08_Parser25_W, F_ref08_Parser26_W, F_ref08_Parser27_W, F_ref08_Parser28_W, F_ref08_Parser29_W, F_ref08_Parser30_W, F_ref08_Parser31_W, F_ref08_Parser32_W, F_ref08_Parser32_g3, F_ref08_Parser32_g9, F_ref08_Parser32_g16, F_ref08_Parser32_g20, F_ref08_Parser33_W, F_ref08_Parser34_W, F_ref08_Parsec_W, e2, e6, hh, hr, hln, q, hs]
    exact .inl ⟨rfl, KH_err ⟨rfl, hs _, e2, 85, by decide, rfl⟩⟩
  | false =>
    simp only [fws, cond_true, cond_false, if_true, if_false, unV, isNil, optI, iV, stepI, evalR, reduceIte, reduceCtorEq, Nat.reduceEqDiff, Int.reduceLT, Int.reduceLE, Int.reduceToNat, Nat.reduceLT, Nat.reduceLeDiff, Int.reduceEq, Int.reduceNeg, IntKind.bits, Nat.reduceAdd, Nat.reduceMul, Nat.reducePow, Int.reducePow, ini, fwh, lk, cellsAt, tagOf, spotOf, rdN, spl, fillL, zr, fwi, F_ref08_Parser0_W, F_ref08_Parser1_W, F_ref08_Parser2_W, F_ref08_Parser3_W, F_ref08_Parser4_W, F_ref08_Parser5_W, F_ref08_Parser6_W, F_ref08_Parser7_W, F_ref08_Parser8_W, F_ref08_Parser10_W, F_ref08_Parser11_W, F_ref08_Parser12_W, F_ref08_Parser13_W, F_ref08_Parser14_W, F_ref08_Parser15_W, F_ref08_Parser16_W, F_ref08_Parser17_W, F_ref08_Parser18_W, F_ref08_Parser19_W, F_ref08_Parser9_W, F_ref08_Parsel0_W, F_ref08_Parser20_W, F_ref08_Parser21_W, F_ref08_Parser22_W, F_ref08_Parser22_g3, F_ref08_Parser22_g10, F_ref08_Parser23_W, F_ref08_Parser24_W, F_ref08_Parser25_W, F_ref08_Parser26_W, F_ref08_Parser27_W, F_ref08_Parser28_W, F_ref08_Parser29_W, F_ref08_Parser30_W, F_ref08_Parser31_W, F_ref08_Parser32_W, F_ref08_Parser32_g3, F_ref08_Parser32_g9, F_ref08_Parser32_g16, F_ref08_Parser32_g20, F_ref08_Parser33_W, F_ref08_Parser34_W, F_ref08_Parsec_W, e2, e6, hh, hr, hln, q, hs]
    exact .inr ⟨trivial, trivial, ⟨e2, e6, e8⟩, e7⟩
theorem ph22 (he : WJ env rv) (e7 : env 7 = dv) (hd : Own PhE H dv ds) (hk : okP ds) (s : HT H mch nv rv ls rs zP zP) : W T (.seq (.reg F_ref08_Parser22) (.cond (.t 109) (.seq (.reg F_ref08_Parser23) .ret) .skip)) env H fun x e h => (dead x e h) ∨ (h = H ∧ x = .normal ∧ WJ e rv ∧ e 7 = dv ∧ 0 < ds.length) := by
  obtain ⟨e2, e6, e8⟩ := he
  have hr := s.r
  have hln := hd.len
  have hs := fun X => List.getElem?_set_self (a := X) (List.getElem?_eq_some_iff.1 hr).1
  cases q : decide ((ds.length : Int) = 1) with
  | false =>
    simp only [fws, cond_true, cond_false, if_true, if_false, unV, isNil, optI, iV, stepI, evalR, reduceIte, reduceCtorEq, Nat.reduceEqDiff, Int.reduceLT, Int.reduceLE, Int.reduceToNat, Nat.reduceLT, Nat.reduceLeDiff, Int.reduceEq, Int.reduceNeg, IntKind.bits, Nat.reduceAdd, Nat.reduceMul, Nat.reducePow, Int.reducePow, ini, fwh, lk, cellsAt, tagOf, spotOf, rdN, spl, fillL, zr, fwi, F_ref08_Parser0_W, F_ref08_Parser1_W, F_ref08_Parser2_W, F_ref08_Parser3_W, F_ref08_Parser4_W, F_ref08_Parser5_W, F_ref08_Parser6_W, F_ref08_Parser7_W, F_ref08_Parser8_W, F_ref08_Parser10_W, F_ref08_Parser11_W, F_ref08_Parser12_W, F_ref08_Parser13_W, F_ref08_Parser14_W, F_ref08_Parser15_W, F_ref08_Parser16_W, F_ref08_Parser17_W, F_ref08_Parser18_W, F_ref08_Parser19_W, F_ref08_Parser9_W, F_ref08_Parsel0_W, F_ref08_Parser20_W, F_ref08_Parser21_W, F_ref08_Parser22_W, F_ref08_Parser22_g3, F_ref08_Parser22_g10, F_ref08_Parser23_W, F_ref08_Parser24_W, F_ref08_Parser25_W, F_ref08_Parser26_W, F_ref08_Parser27_W, F_ref08_Parser28_W, F_ref08_Parser29_W, F_ref08_Parser30_W, F_ref08_Parser31_W, F_ref08_Parser32_W, F_ref08_Parser32_g3, F_ref08_Parser32_g9, F_ref08_Parser32_g16, F_ref08_Parser32_g20, F_ref08_Parser33_W, F_ref08_Parser34_W, F_ref08_Parsec_W, e2, e6, e7, hr, hln, q, hs]
    exact .inl ⟨rfl, KH_err ⟨rfl, hs _, e2, 86, by decide, rfl⟩⟩
  | true =>
    have q1 : (ds.length : Int) = 1 := of_decide_eq_true q
    obtain ⟨p, p1, p3, p4, a0, a1, a3, a4, b1, b3, b4, b7⟩ := Own.ph hd (i := 0) (by omega) .i64
    have a0 : ixaI H 7 dv (.int .i64 0) = some (p, H) := a0
    have hw := hk _ (List.getElem_mem (show 0 < ds.length by omega))
    obtain ⟨w1, w2, w3, w4, w5, w6, w7⟩ := hw
    simp only [u64_iff] at w4
    have t1 := tmodN (b := 8) w4.1
    by_cases q2 : ds[0].Filesz = 0
    · simp only [fws, cond_true, cond_false, if_true, if_false, unV, isNil, optI, iV, stepI, evalR, reduceIte, reduceCtorEq, Nat.reduceEqDiff, Int.reduceLT, Int.reduceLE, Int.reduceToNat, Nat.reduceLT, Nat.reduceLeDiff, Int.reduceEq, Int.reduceNeg, IntKind.bits, Nat.reduceAdd, Nat.reduceMul, Nat.reducePow, Int.reducePow, ini, fwh, lk, cellsAt, tagOf, spotOf, rdN, spl, fillL, zr, fwi, F_ref08_Parser0_W, F_ref08_Parser1_W, F_ref08_Parser2_W, F_ref08_Parser3_W, F_ref08_Parser4_W, F_ref08_Parser5_W, F_ref08_Parser6_W, F_ref08_Parser7_W, F_ref08_Parser8_W, F_ref08_Parser10_W, F_ref08_Parser11_W, F_ref08_Parser12_W, F_ref08_Parser13_W, F_ref08_Parser14_W, F_ref08_Parser15_W, F_ref08_Parser16_W, F_ref08_Parser17_W, F_ref08_Parser18_W, F_ref08_Parser19_W, F_ref08_Parser9_W, F_ref08_Parsel0_W, F_ref08_Parser20_W, F_ref08_Parser21_W, F_ref08_Parser22_W, F_ref08_Parser22_g3, F_ref08_Parser22_g10, F_ref08_Parser23_W, F_ref08_Parser24_W, F_ref08_Parser25_W, F_ref08_Parser26_W, F_ref08_Parser27_W, F_ref08_Parser28_W, F_ref08_Parser29_W, F_ref08_Parser30_W, F_ref08_Parser31_W, F_ref08_Parser32_W, F_ref08_Parser32_g3, F_ref08_Parser32_g9, F_ref08_Parser32_g16, F_ref08_Parser32_g20, F_ref08_Parser33_W, F_ref08_Parser34_W, F_ref08_Parsec_W, e2, e6, e7, hr, hln, q, hs, a0, a3, a4, b3, b4, q2]
      exact .inl ⟨rfl, KH_err ⟨rfl, hs _, e2, 86, by decide, rfl⟩⟩
    · by_cases q3 : ds[0].Vaddr % 8 = 0
      · simp only [fws, cond_true, cond_false, if_true, if_false, unV, isNil, optI, iV, stepI, evalR, reduceIte, reduceCtorEq, Nat.reduceEqDiff, Int.reduceLT, Int.reduceLE, Int.reduceToNat, Nat.reduceLT, Nat.reduceLeDiff, Int.reduceEq, Int.reduceNeg, IntKind.bits, Nat.reduceAdd, Nat.reduceMul, Nat.reducePow, Int.reducePow, ini, fwh, lk, cellsAt, tagOf, spotOf, rdN, spl, fillL, zr, fwi, F_ref08_Parser0_W, F_ref08_Parser1_W, F_ref08_Parser2_W, F_ref08_Parser3_W, F_ref08_Parser4_W, F_ref08_Parser5_W, F_ref08_Parser6_W, F_ref08_Parser7_W, F_ref08_Parser8_W, F_ref08_Parser10_W, F_ref08_Parser11_W, F_ref08_Parser12_W, F_ref08_Parser13_W, F_ref08_Parser14_W, F_ref08_Parser15_W, F_ref08_Parser16_W, F_ref08_Parser17_W, F_ref08_Parser18_W, F_ref08_Parser19_W, F_ref08_Parser9_W, F_ref08_Parsel0_W, F_ref08_Parser20_W, F_ref08_Parser21_W, F_ref08_Parser22_W, F_ref08_Parser22_g3, F_ref08_Parser22_g10, F_ref08_Parser23_W, F_ref08_Parser24_W, F_ref08_Parser25_W, F_ref08_Parser26_W, F_ref08_Parser27_W, F_ref08_Parser28_W, F_ref08_Parser29_W, F_ref08_Parser30_W, F_ref08_Parser31_W, F_ref08_Parser32_W, F_ref08_Parser32_g3, F_ref08_Parser32_g9, F_ref08_Parser32_g16, F_ref08_Parser32_g20, F_ref08_Parser33_W, F_ref08_Parser34_W, F_ref08_Parsec_W, e2, e6, e7, hr, hln, q, hs, a0, a3, a4, b3, b4, q2, t1, q3]
        exact .inr ⟨trivial, trivial, ⟨e2, e6, e8⟩, trivial, by omega⟩
      · simp only [fws, cond_true, cond_false, if_true, if_false, unV, isNil, optI, iV, stepI, evalR, reduceIte, reduceCtorEq, Nat.reduceEqDiff, Int.reduceLT, Int.reduceLE, Int.reduceToNat, Nat.reduceLT, Nat.reduceLeDiff, Int.reduceEq, Int.reduceNeg, IntKind.bits, Nat.reduceAdd, Nat.reduceMul, Nat.reducePow, Int.reducePow, ini, fwh, lk, cellsAt, tagOf, spotOf, rdN, spl, fillL, zr, fwi, F_ref08_Parser0_W, F_ref08_Parser1_W, F_ref08_Parser2_W, F_ref08_Parser3_W, F_ref08_Parser4_W, F_ref08_Parser5_W, F_ref08_Parser6_W, F_ref08_Parser7_W, F_ref08_Parser8_W, F_ref08_Parser10_W, F_ref08_Parser11_W, F_ref08_Parser12_W, F_ref08_Parser13_W, F_ref08_Parser14_W, F_ref08_Parser15_W, F_ref08_Parser16_W, F_ref08_Parser17_W, F_ref08_Parser18_W, F_ref08_Parser19_W, F_ref08_Parser9_W, F_ref08_Parsel0_W, F_ref08_Parser20_W, F_ref08_Parser21_W, F_ref08_Parser22_W, F_ref08_Parser22_g3, F_ref08_Parser22_g10, F_ref08_Parser23_W, F_ref08_Parser24_W, F_ref08_Parser25_W, F_ref08_Parser26_W, F_ref08_Parser27_W, F_ref08_Parser28_W, F_ref08_Parser29_W, F_ref08_Parser30_W, F_ref08_Parser31_W, F_ref08_Parser32_W, F_ref08_Parser32_g3, F_ref08_Parser32_g9, F_ref08_Parser32_g16, F_ref08_Parser32_g20, F_ref08_Parser33_W, F_ref08_Parser34_W, F_ref08_Parsec_W, e2, e6, e7, hr, hln, q, hs, a0, a3, a4, b3, b4, q2, t1, q3]
        exact .inl ⟨rfl, KH_err ⟨rfl, hs _, e2, 86, by decide, rfl⟩⟩
theorem ph24 (he : WJ env rv) (e7 : env 7 = dv) (hd : Own PhE H dv ds) (hk : okP ds) (hl : 0 < ds.length) (s : HT H mch nv rv ls rs zP zP) : W T (.reg F_ref08_Parser24) env H fun x e h => x = .normal ∧ WJ e rv ∧ HT h mch nv rv ls rs ds[0] zP := by
  obtain ⟨e2, e6, e8⟩ := he
  have s2 := s.set (hk _ (List.getElem_mem hl)) zH_wf.2.2.1
  have hh := s.hh
  obtain ⟨p, p1, p3, p4, a0, a1, a3, a4, b1, b3, b4, b7⟩ := Own.ph hd hl .i64
  have a0 : ixaI H 7 dv (.int .i64 0) = some (p, H) := a0
  simp only [fws, cond_true, cond_false, if_true, if_false, unV, isNil, optI, iV, stepI, evalR, reduceIte, reduceCtorEq, Nat.reduceEqDiff, Int.reduceLT, Int.reduceLE, Int.reduceToNat, Nat.reduceLT, Nat.reduceLeDiff, Int.reduceEq, Int.reduceNeg, IntKind.bits, Nat.reduceAdd, Nat.reduceMul, Nat.reducePow, Int.reducePow, ini, fwh, lk, cellsAt, tagOf, spotOf, rdN, spl, fillL, zr, fwi, F_ref08_Parser0_W, F_ref08_Parser1_W, F_ref08_Parser2_W, F_ref08_Parser3_W, F_ref08_Parser4_W, F_ref08_Parser5_W, F_ref08_Parser6_W, F_ref08_Parser7_W, F_ref08_Parser8_W, F_ref08_Parser10_W, F_ref08_Parser11_W, F_ref08_Parser12_W, F_ref08_Parser13_W, F_ref08_Parser14_W, F_ref08_Parser15_W, F_ref08_Parser16_W, F_ref08_Parser17_W, F_ref08_Parser18_W, F_ref08_Parser19_W, F_ref08_Parser9_W, F_ref08_Parsel0_W, F_ref08_Parser20_W, F_ref08_Parser21_W, F_ref08_Parser22_W, F_ref08_Parser22_g3, F_ref08_Parser22_g10, F_ref08_Parser23_W, F_ref08_Parser24_W, F_ref08_Parser25_W, F_ref08_Parser26_W, F_ref08_Parser27_W, F_ref08_Parser28_W, F_ref08_Parser29_W, F_ref08_Parser30_W, F_ref08_Parser31_W, F_ref08_Parser32_W, F_ref08_Parser32_g3, F_ref08_Parser32_g9, F_ref08_Parser32_g16, F_ref08_Parser32_g20, F_ref08_Parser33_W, F_ref08_Parser34_W, F_ref08_Parsec_W, e6, e7, hh, a0, b7]
  exact ⟨trivial, ⟨e2, e6, e8⟩, s2⟩
theorem ph30 (he : WJ env rv) (hl : 0 < rs.length) (s : HT H mch nv rv ls rs dy zP) : W T (.reg F_ref08_Parser30) env H fun x e h => x = .normal ∧ WJ e rv ∧ HT h mch nv rv ls rs dy rs[0] := by
  obtain ⟨e2, e6, e8⟩ := he
  have s2 := s.set s.kd (s.kr _ (List.getElem_mem hl))
  have hh := s.hh
  obtain ⟨p, p1, p3, p4, a0, a1, a3, a4, b1, b3, b4, b7⟩ := Own.ph s.oR hl .i64
  have a0 : ixaI H 7 rv (.int .i64 0) = some (p, H) := a0
  simp only [fws, cond_true, cond_false, if_true, if_false, unV, isNil, optI, iV, stepI, evalR, reduceIte, reduceCtorEq, Nat.reduceEqDiff, Int.reduceLT, Int.reduceLE, Int.reduceToNat, Nat.reduceLT, Nat.reduceLeDiff, Int.reduceEq, Int.reduceNeg, IntKind.bits, Nat.reduceAdd, Nat.reduceMul, Nat.reducePow, Int.reducePow, ini, fwh, lk, cellsAt, tagOf, spotOf, rdN, spl, fillL, zr, fwi, F_ref08_Parser0_W, F_ref08_Parser1_W, F_ref08_Parser2_W, F_ref08_Parser3_W, F_ref08_Parser4_W, F_ref08_Parser5_W, F_ref08_Parser6_W, F_ref08_Parser7_W, F_ref08_Parser8_W, F_ref08_Parser10_W, F_ref08_Parser11_W, F_ref08_Parser12_W, F_ref08_Parser13_W, F_ref08_Parser14_W, F_ref08_Parser15_W, F_ref08_Parser16_W, F_ref08_Parser17_W, F_ref08_Parser18_W, F_ref08_Parser19_W, F_ref08_Parser9_W, F_ref08_Parsel0_W, F_ref08_Parser20_W, F_ref08_Parser21_W, F_ref08_Parser22_W, F_ref08_Parser22_g3, F_ref08_Parser22_g10, F_ref08_Parser23_W, F_ref08_Parser24_W, F_ref08_Parser25_W, F_ref08_Parser26_W, F_ref08_Parser27_W, F_ref08_Parser28_W, F_ref08_Parser29_W, F_ref08_Parser30_W, F_ref08_Parser31_W, F_ref08_Parser32_W, F_ref08_Parser32_g3, F_ref08_Parser32_g9, F_ref08_Parser32_g16, F_ref08_Parser32_g20, F_ref08_Parser33_W, F_ref08_Parser34_W, F_ref08_Parsec_W, e6, e8, hh, a0, b7]
  exact ⟨trivial, ⟨e2, e6, e8⟩, s2⟩
end
end Go.Proofs.Ytdkdifjjpbfohaa
/- The document's headers: the last steps. -/
namespace Go.Proofs.Ytdkdifjjpbfohaa
open Go Fw
set_option linter.unusedSimpArgs false
set_option linter.unusedVariables false
set_option linter.unusedSectionVars false

section
variable {T : Tab} (h0 : T 72 = some F_ref01_Sum) (h1 : T 71 = some F_ref01_Less) (h2 : T 61 = some F_ref01_Inside) (h3 : T 49 = some F_ref08_End) (h4 : T 50 = some F_ref08_Off) (h5 : T 51 = some F_ref08_Holder)
variable {env : Env} {H : Heap} {mch : Int} {nv rv : Value} {ls rs : List S_api_Phdr} {dy re : S_api_Phdr}
/-- The headers, as they lie there, as an argument. -/
theorem arg_of (ho : Own PhE H nv ls) (kn : okP ls) (ln : ls.length ≤ 16) (kd : dy.wf) (ke : re.wf) : ∃ d : Hd, d.wf ∧ lst d.o = ls ∧ frz 8 H (.agg (hc2 mch nv dy re).toArray) = some d.v ∧ frz 7 H (.agg (hc2 mch nv dy re).toArray) = some d.v := by
  rcases ho with ⟨rfl, rfl⟩ | ⟨b, t, rfl, hH⟩
  · exact ⟨⟨mch, none, dy, re⟩, ⟨(fun _ h => nomatch h), kd, ke, Nat.zero_le _⟩, rfl, rfl, rfl⟩
  · have hlk : lk H ⟨b, 0, spotOf t⟩ = some ⟨t, .cells false PhE.u (PhE.cs ls)⟩ := own_lk (tag := t) (o := .cells false PhE.u (PhE.cs ls)) hH
    have hz : ∀ k, PhE.d ≤ k → frz (k + 1) H (own b t ls.length) = some (slV PhE (some ls)) := fun k hk => by
      have h1 : pureV (k + 1) (own b t ls.length) = false := rfl
      simp only [frz, h1, cond_false]
      simp only [own, hlk, List.drop_zero, rdN_cs rfl, Option.bind_some]
      rw [mapM_pure (cs_pure' hk)]
      rfl
    exact ⟨⟨mch, some ls, dy, re⟩, ⟨kn, kd, ke, by show ls.length ≤ 1000; omega⟩, rfl, hc2_frz (hz 6 (by decide)), hc2_frz (hz 5 (by decide))⟩
theorem one_hc2 (s : HT H mch nv rv ls rs dy re) : (hc2 mch nv dy re).all oneC = true := by
  simp [(Own.one s.on).2.2, oneC_int]
theorem ph29 (he : WJ env rv) (s : HT H mch nv rv ls rs dy re) : W T (.seq (.reg F_ref08_Parser29) .ret) env H fun x e h => dead x e h := by
  obtain ⟨e2, e6, e8⟩ := he
  have hr := s.r
  have hh := s.hh
  have hs := fun X => List.getElem?_set_self (a := X) (List.getElem?_eq_some_iff.1 hr).1
  have ho := (Own.one s.on).2.2
  have hk : Own PhE (H.set 0 (blk 16 (hc2 mch nv dy re))) nv ls := s.on.keep fun b hb => List.getElem?_set_ne fun e => by have := s.hn b hb; omega
  obtain ⟨d, dw, _, _, f2⟩ := arg_of (mch := mch) hk s.kn s.ln s.kd s.ke
  simp only [fws, cond_true, cond_false, if_true, if_false, unV, isNil, optI, iV, stepI, evalR, reduceIte, reduceCtorEq, Nat.reduceEqDiff, Int.reduceLT, Int.reduceLE, Int.reduceToNat, Nat.reduceLT, Nat.reduceLeDiff, Int.reduceEq, Int.reduceNeg, IntKind.bits, Nat.reduceAdd, Nat.reduceMul, Nat.reducePow, Int.reducePow, ini, fwh, lk, cellsAt, tagOf, spotOf, rdN, spl, fillL, zr, fwi, F_ref08_Parser0_W, F_ref08_Parser1_W, F_ref08_Parser2_W, F_ref08_Parser3_W, F_ref08_Parser4_W, F_ref08_Parser5_W, F_ref08_Parser6_W, F_ref08_Parser7_W, F_ref08_Parser8_W, F_ref08_Parser10_W, F_ref08_Parser11_W, F_ref08_Parser12_W, F_ref08_Parser13_W, F_ref08_Parser14_W, F_ref08_Parser15_W, F_ref08_Parser16_W, F_ref08_Parser17_W, F_ref08_Parser18_W, F_ref08_Parser19_W, F_ref08_Parser9_W, F_ref08_Parsel0_W, F_ref08_Parser20_W, F_ref08_Parser21_W, F_ref08_Parser22_W, F_ref08_Parser22_g3, F_ref08_Parser22_g10, F_ref08_Parser23_W, F_ref08_Parser24_W, F_ref08_Parser25_W, F_ref08_Parser26_W, F_ref08_Parser27_W, F_ref08_Parser28_W, F_ref08_Parser29_W, F_ref08_Parser30_W, F_ref08_Parser31_W, F_ref08_Parser32_W, F_ref08_Parser32_g3, F_ref08_Parser32_g9, F_ref08_Parser32_g16, F_ref08_Parser32_g20, F_ref08_Parser33_W, F_ref08_Parser34_W, F_ref08_Parsec_W, e2, e6, hr, hh, ho, hs]
  refine ⟨rfl, ?_⟩
  simp only [fws, cond_true, cond_false, if_true, if_false, unV, isNil, optI, iV, stepI, evalR, reduceIte, reduceCtorEq, Nat.reduceEqDiff, Int.reduceLT, Int.reduceLE, Int.reduceToNat, Nat.reduceLT, Nat.reduceLeDiff, Int.reduceEq, Int.reduceNeg, IntKind.bits, Nat.reduceAdd, Nat.reduceMul, Nat.reducePow, Int.reducePow, ini, fwh, lk, cellsAt, tagOf, spotOf, rdN, spl, fillL, zr, fwi, e2, hs]
  exact ⟨(d, 0), dw, frz_t2 f2 (frz_pure pure_int)⟩
theorem ph34 (he : WJ env rv) (s : HT H mch nv rv ls rs dy re) : W T (.seq (.reg F_ref08_Parser34) .ret) env H fun x e h => dead x e h := by
  obtain ⟨e2, e6, e8⟩ := he
  have hr := s.r
  have hh := s.hh
  have hs := fun X => List.getElem?_set_self (a := X) (List.getElem?_eq_some_iff.1 hr).1
  have ho := (Own.one s.on).2.2
  have hk : Own PhE (H.set 0 (blk 16 (hc2 mch nv dy re))) nv ls := s.on.keep fun b hb => List.getElem?_set_ne fun e => by have := s.hn b hb; omega
  obtain ⟨d, dw, _, _, f2⟩ := arg_of (mch := mch) hk s.kn s.ln s.kd s.ke
  simp only [fws, cond_true, cond_false, if_true, if_false, unV, isNil, optI, iV, stepI, evalR, reduceIte, reduceCtorEq, Nat.reduceEqDiff, Int.reduceLT, Int.reduceLE, Int.reduceToNat, Nat.reduceLT, Nat.reduceLeDiff, Int.reduceEq, Int.reduceNeg, IntKind.bits, Nat.reduceAdd, Nat.reduceMul, Nat.reducePow, Int.reducePow, ini, fwh, lk, cellsAt, tagOf, spotOf, rdN, spl, fillL, zr, fwi, F_ref08_Parser0_W, F_ref08_Parser1_W, F_ref08_Parser2_W, F_ref08_Parser3_W, F_ref08_Parser4_W, F_ref08_Parser5_W, F_ref08_Parser6_W, F_ref08_Parser7_W, F_ref08_Parser8_W, F_ref08_Parser10_W, F_ref08_Parser11_W, F_ref08_Parser12_W, F_ref08_Parser13_W, F_ref08_Parser14_W, F_ref08_Parser15_W, F_ref08_Parser16_W, F_ref08_Parser17_W, F_ref08_Parser18_W, F_ref08_Parser19_W, F_ref08_Parser9_W, F_ref08_Parsel0_W, F_ref08_Parser20_W, F_ref08_Parser21_W, F_ref08_Parser22_W, F_ref08_Parser22_g3, F_ref08_Parser22_g10, F_ref08_Parser23_W, F_ref08_Parser24_W, F_ref08_Parser25_W, F_ref08_Parser26_W, F_ref08_Parser27_W, F_ref08_Parser28_W, F_ref08_Parser29_W, F_ref08_Parser30_W, F_ref08_Parser31_W, F_ref08_Parser32_W, F_ref08_Parser32_g3, F_ref08_Parser32_g9, F_ref08_Parser32_g16, F_ref08_Parser32_g20, F_ref08_Parser33_W, F_ref08_Parser34_W, F_ref08_Parsec_W, e2, e6, hr, hh, ho, hs]
  refine ⟨rfl, ?_⟩
  simp only [fws, cond_true, cond_false, if_true, if_false, unV, isNil, optI, iV, stepI, evalR, reduceIte, reduceCtorEq, Nat.reduceEqDiff, Int.reduceLT, Int.reduceLE, Int.reduceToNat, Nat.reduceLT, Nat.reduceLeDiff, Int.reduceEq, Int.reduceNeg, IntKind.bits, Nat.reduceAdd, Nat.reduceMul, Nat.reducePow, Int.reducePow, ini, fwh, lk, cellsAt, tagOf, spotOf, rdN, spl, fillL, zr, fwi, e2, hs]
  exact ⟨(d, 0), dw, frz_t2 f2 (frz_pure pure_int)⟩
theorem ph28 (he : WJ env rv) (s : HT H mch nv rv ls rs dy zP) : W T (.seq (.reg F_ref08_Parser28) (.cond (.t 131) (.seq (.reg F_ref08_Parser29) .ret) .skip)) env H fun x e h => (dead x e h) ∨ (h = H ∧ x = .normal ∧ WJ e rv ∧ 0 < rs.length) := by
  have he' := he
  obtain ⟨e2, e6, e8⟩ := he
  have hln := s.oR.len
  cases q : decide ((rs.length : Int) = 0) with
  | true =>
    simp only [fws, cond_true, cond_false, if_true, if_false, unV, isNil, optI, iV, stepI, evalR, reduceIte, reduceCtorEq, Nat.reduceEqDiff, Int.reduceLT, Int.reduceLE, Int.reduceToNat, Nat.reduceLT, Nat.reduceLeDiff, Int.reduceEq, Int.reduceNeg, IntKind.bits, Nat.reduceAdd, Nat.reduceMul, Nat.reducePow, Int.reducePow, ini, fwh, lk, cellsAt, tagOf, spotOf, rdN, spl, fillL, zr, fwi, F_ref08_Parser0_W, F_ref08_Parser1_W, F_ref08_Parser2_W, F_ref08_Parser3_W, F_ref08_Parser4_W, F_ref08_Parser5_W, F_ref08_Parser6_W, F_ref08_Parser7_W, F_ref08_Parser8_W, F_ref08_Parser10_W, F_ref08_Parser11_W, F_ref08_Parser12_W, F_ref08_Parser13_W, F_ref08_Parser14_W, F_ref08_Parser15_W, F_ref08_Parser16_W, F_ref08_Parser17_W, F_ref08_Parser18_W, F_ref08_Parser19_W, F_ref08_Parser9_W, F_ref08_Parsel0_W, F_ref08_Parser20_W, F_ref08_Parser21_W, F_ref08_Parser22_W, F_ref08_Parser22_g3, F_ref08_Parser22_g10, F_ref08_Parser23_W, F_ref08_Parser24_W, F_ref08_Parser25_W, F_ref08_Parser26_W, F_ref08_Parser27_W, F_ref08_Parser28_W, F_ref08_Parser30_W, F_ref08_Parser31_W, F_ref08_Parser32_W, F_ref08_Parser32_g3, F_ref08_Parser32_g9, F_ref08_Parser32_g16, F_ref08_Parser32_g20, F_ref08_Parser33_W, F_ref08_Parser34_W, F_ref08_Parsec_W, e8, hln, q]
    rw [← w_seq]
    exact W.mono (ph29 ⟨e2, e6, e8⟩ s) fun x e h hd => .inl hd
  | false =>
    have q1 : ¬ (rs.length : Int) = 0 := of_decide_eq_false q
    simp only [fws, cond_true, cond_false, if_true, if_false, unV, isNil, optI, iV, stepI, evalR, reduceIte, reduceCtorEq, Nat.reduceEqDiff, Int.reduceLT, Int.reduceLE, Int.reduceToNat, Nat.reduceLT, Nat.reduceLeDiff, Int.reduceEq, Int.reduceNeg, IntKind.bits, Nat.reduceAdd, Nat.reduceMul, Nat.reducePow, Int.reducePow, ini, fwh, lk, cellsAt, tagOf, spotOf, rdN, spl, fillL, zr, fwi, F_ref08_Parser0_W, F_ref08_Parser1_W, F_ref08_Parser2_W, F_ref08_Parser3_W, F_ref08_Parser4_W, F_ref08_Parser5_W, F_ref08_Parser6_W, F_ref08_Parser7_W, F_ref08_Parser8_W, F_ref08_Parser10_W, F_ref08_Parser11_W, F_ref08_Parser12_W, F_ref08_Parser13_W, F_ref08_Parser14_W, F_ref08_Parser15_W, F_ref08_Parser16_W, F_ref08_Parser17_W, F_ref08_Parser18_W, F_ref08_Parser19_W, F_ref08_Parser9_W, F_ref08_Parsel0_W, F_ref08_Parser20_W, F_ref08_Parser21_W, F_ref08_Parser22_W, F_ref08_Parser22_g3, F_ref08_Parser22_g10, F_ref08_Parser23_W, F_ref08_Parser24_W, F_ref08_Parser25_W, F_ref08_Parser26_W, F_ref08_Parser27_W, F_ref08_Parser28_W, F_ref08_Parser30_W, F_ref08_Parser31_W, F_ref08_Parser32_W, F_ref08_Parser32_g3, F_ref08_Parser32_g9, F_ref08_Parser32_g16, F_ref08_Parser32_g20, F_ref08_Parser33_W, F_ref08_Parser34_W, F_ref08_Parsec_W, e8, hln, q]
    exact .inr ⟨trivial, trivial, ⟨e2, e6, e8⟩, by omega⟩
theorem ph26 (he : WJ env rv) {b : Bool} (e12 : env 12 = .bool b) (s : HT H mch nv rv ls rs dy re) : W T (.seq (.reg F_ref08_Parser26) (.cond (.t 127) (.seq (.reg F_ref08_Parser27) .ret) .skip)) env H fun x e h => (dead x e h) ∨ (h = H ∧ x = .normal ∧ WJ e rv) := by
  obtain ⟨e2, e6, e8⟩ := he
  have hr := s.r
  have hs := fun X => List.getElem?_set_self (a := X) (List.getElem?_eq_some_iff.1 hr).1
  cases b with
  | false =>
    simp only [fws, cond_true, cond_false, if_true, if_false, unV, isNil, optI, iV, stepI, evalR, reduceIte, reduceCtorEq, Nat.reduceEqDiff, Int.reduceLT, Int.reduceLE, Int.reduceToNat, Nat.reduceLT, Nat.reduceLeDiff, Int.reduceEq, Int.reduceNeg, IntKind.bits, Nat.reduceAdd, Nat.reduceMul, Nat.reducePow, Int.reducePow, ini, fwh, lk, cellsAt, tagOf, spotOf, rdN, spl, fillL, zr, fwi, F_ref08_Parser0_W, F_ref08_Parser1_W, F_ref08_Parser2_W, F_ref08_Parser3_W, F_ref08_Parser4_W, F_ref08_Parser5_W, F_ref08_Parser6_W, F_ref08_Parser7_W, F_ref08_Parser8_W, F_ref08_Parser10_W, F_ref08_Parser11_W, F_ref08_Parser12_W, F_ref08_Parser13_W, F_ref08_Parser14_W, F_ref08_Parser15_W, F_ref08_Parser16_W, F_ref08_Parser17_W, F_ref08_Parser18_W, F_ref08_Parser19_W, F_ref08_Parser9_W, F_ref08_Parsel0_W, F_ref08_Parser20_W, F_ref08_Parser21_W, F_ref08_Parser22_W, F_ref08_Parser22_g3, F_ref08_Parser22_g10, F_ref08_Parser23_W, F_ref08_Parser24_W, F_ref08_Parser25_W, F_ref08_Parser26_W, F_ref08_Parser27_W, F_ref08_Parser28_W, F_ref08_Parser29_W, F_ref08_Parser30_W, F_ref08_Parser31_W, F_ref08_Parser32_W, F_ref08_Parser32_g3, F_ref08_Parser32_g9, F_ref08_Parser32_g16, F_ref08_Parser32_g20, F_ref08_Parser33_W, F_ref08_Parser34_W, F_ref08_Parsec_W, e2, e12, hr, hs]
    exact .inl ⟨rfl, KH_err ⟨rfl, hs _, e2, 86, by decide, rfl⟩⟩
  | true =>
    simp only [fws, cond_true, cond_false, if_true, if_false, unV, isNil, optI, iV, stepI, evalR, reduceIte, reduceCtorEq, Nat.reduceEqDiff, Int.reduceLT, Int.reduceLE, Int.reduceToNat, Nat.reduceLT, Nat.reduceLeDiff, Int.reduceEq, Int.reduceNeg, IntKind.bits, Nat.reduceAdd, Nat.reduceMul, Nat.reducePow, Int.reducePow, ini, fwh, lk, cellsAt, tagOf, spotOf, rdN, spl, fillL, zr, fwi, F_ref08_Parser0_W, F_ref08_Parser1_W, F_ref08_Parser2_W, F_ref08_Parser3_W, F_ref08_Parser4_W, F_ref08_Parser5_W, F_ref08_Parser6_W, F_ref08_Parser7_W, F_ref08_Parser8_W, F_ref08_Parser10_W, F_ref08_Parser11_W, F_ref08_Parser12_W, F_ref08_Parser13_W, F_ref08_Parser14_W, F_ref08_Parser15_W, F_ref08_Parser16_W, F_ref08_Parser17_W, F_ref08_Parser18_W, F_ref08_Parser19_W, F_ref08_Parser9_W, F_ref08_Parsel0_W, F_ref08_Parser20_W, F_ref08_Parser21_W, F_ref08_Parser22_W, F_ref08_Parser22_g3, F_ref08_Parser22_g10, F_ref08_Parser23_W, F_ref08_Parser24_W, F_ref08_Parser25_W, F_ref08_Parser26_W, F_ref08_Parser27_W, F_ref08_Parser28_W, F_ref08_Parser29_W, F_ref08_Parser30_W, F_ref08_Parser31_W, F_ref08_Parser32_W, F_ref08_Parser32_g3, F_ref08_Parser32_g9, F_ref08_Parser32_g16, F_ref08_Parser32_g20, F_ref08_Parser33_W, F_ref08_Parser34_W, F_ref08_Parsec_W, e2, e12, hr, hs]
    exact .inr ⟨trivial, trivial, ⟨e2, e6, e8⟩⟩
theorem ph32 (he : WJ env rv) {k : Int} (hk : k = -1 ∨ ∃ n : Nat, n < ls.length ∧ k = n) (e13 : env 13 = .int .i64 k) (s : HT H mch nv rv ls rs dy re) : W T (.seq (.reg F_ref08_Parser32) (.cond (.t 175) (.seq (.reg F_ref08_Parser33) .ret) .skip)) env H fun x e h => (dead x e h) ∨ (h = H ∧ x = .normal ∧ WJ e rv) := by
  obtain ⟨e2, e6, e8⟩ := he
  have hr := s.r
  have hh := s.hh
  have hln := s.oR.len
  have hs := fun X => List.getElem?_set_self (a := X) (List.getElem?_eq_some_iff.1 hr).1
  obtain ⟨w1, w2, w3, w4, w5, w6, w7⟩ := s.ke
  simp only [u64_iff] at w4
  have t1 := tmodN (b := 256) w4.1
  by_cases q1 : ((1 : Int) < rs.length)
  · simp only [fws, cond_true, cond_false, if_true, if_false, unV, isNil, optI, iV, stepI, evalR, reduceIte, reduceCtorEq, Nat.reduceEqDiff, Int.reduceLT, Int.reduceLE, Int.reduceToNat, Nat.reduceLT, Nat.reduceLeDiff, Int.reduceEq, Int.reduceNeg, IntKind.bits, Nat.reduceAdd, Nat.reduceMul, Nat.reducePow, Int.reducePow, ini, fwh, lk, cellsAt, tagOf, spotOf, rdN, spl, fillL, zr, fwi, F_ref08_Parser0_W, F_ref08_Parser1_W, F_ref08_Parser2_W, F_ref08_Parser3_W, F_ref08_Parser4_W, F_ref08_Parser5_W, F_ref08_Parser6_W, F_ref08_Parser7_W, F_ref08_Parser8_W, F_ref08_Parser10_W, F_ref08_Parser11_W, F_ref08_Parser12_W, F_ref08_Parser13_W, F_ref08_Parser14_W, F_ref08_Parser15_W, F_ref08_Parser16_W, F_ref08_Parser17_W, F_ref08_Parser18_W, F_ref08_Parser19_W, F_ref08_Parser9_W, F_ref08_Parsel0_W, F_ref08_Parser20_W, F_ref08_Parser21_W, F_ref08_Parser22_W, F_ref08_Parser22_g3, F_ref08_Parser22_g10, F_ref08_Parser23_W, F_ref08_Parser24_W, F_ref08_Parser25_W, F_ref08_Parser26_W, F_ref08_Parser27_W, F_ref08_Parser28_W, F_ref08_Parser29_W, F_ref08_Parser30_W, F_ref08_Parser31_W, F_ref08_Parser32_W, F_ref08_Parser32_g3, F_ref08_Parser32_g9, F_ref08_Parser32_g16, F_ref08_Parser32_g20, F_ref08_Parser33_W, F_ref08_Parser34_W, F_ref08_Parsec_W, e2, e6, e8, e13, hr, hh, hln, hs, q1]
    exact .inl ⟨rfl, KH_err ⟨rfl, hs _, e2, 87, by decide, rfl⟩⟩
  by_cases q2 : re.Memsz = 0
  · simp only [fws, cond_true, cond_false, if_true, if_false, unV, isNil, optI, iV, stepI, evalR, reduceIte, reduceCtorEq, Nat.reduceEqDiff, Int.reduceLT, Int.reduceLE, Int.reduceToNat, Nat.reduceLT, Nat.reduceLeDiff, Int.reduceEq, Int.reduceNeg, IntKind.bits, Nat.reduceAdd, Nat.reduceMul, Nat.reducePow, Int.reducePow, ini, fwh, lk, cellsAt, tagOf, spotOf, rdN, spl, fillL, zr, fwi, F_ref08_Parser0_W, F_ref08_Parser1_W, F_ref08_Parser2_W, F_ref08_Parser3_W, F_ref08_Parser4_W, F_ref08_Parser5_W, F_ref08_Parser6_W, F_ref08_Parser7_W, F_ref08_Parser8_W, F_ref08_Parser10_W, F_ref08_Parser11_W, F_ref08_Parser12_W, F_ref08_Parser13_W, F_ref08_Parser14_W, F_ref08_Parser15_W, F_ref08_Parser16_W, F_ref08_Parser17_W, F_ref08_Parser18_W, F_ref08_Parser19_W, F_ref08_Parser9_W, F_ref08_Parsel0_W, F_ref08_Parser20_W, F_ref08_Parser21_W, F_ref08_Parser22_W, F_ref08_Parser22_g3, F_ref08_Parser22_g10, F_ref08_Parser23_W, F_ref08_Parser24_W, F_ref08_Parser25_W, F_ref08_Parser26_W, F_ref08_Parser27_W, F_ref08_Parser28_W, F_ref08_Parser29_W, F_ref08_Parser30_W, F_ref08_Parser31_W, F_ref08_Parser32_W, F_ref08_Parser32_g3, F_ref08_Parser32_g9, F_ref08_Parser32_g16, F_ref08_Parser32_g20, F_ref08_Parser33_W, F_ref08_Parser34_W, F_ref08_Parsec_W, e2, e6, e8, e13, hr, hh, hln, hs, q1, q2]
    exact .inl ⟨rfl, KH_err ⟨rfl, hs _, e2, 87, by decide, rfl⟩⟩
  by_cases q3 : re.Vaddr % 256 = 0
  rotate_left
  · simp only [fws, cond_true, cond_false, if_true, if_false, unV, isNil, optI, iV, stepI, evalR, reduceIte, reduceCtorEq, Nat.reduceEqDiff, Int.reduceLT, Int.reduceLE, Int.reduceToNat, Nat.reduceLT, Nat.reduceLeDiff, Int.reduceEq, Int.reduceNeg, IntKind.bits, Nat.reduceAdd, Nat.reduceMul, Nat.reducePow, Int.reducePow, ini, fwh, lk, cellsAt, tagOf, spotOf, rdN, spl, fillL, zr, fwi, F_ref08_Parser0_W, F_ref08_Parser1_W, F_ref08_Parser2_W, F_ref08_Parser3_W, F_ref08_Parser4_W, F_ref08_Parser5_W, F_ref08_Parser6_W, F_ref08_Parser7_W, F_ref08_Parser8_W, F_ref08_Parser10_W, F_ref08_Parser11_W, F_ref08_Parser12_W, F_ref08_Parser13_W, F_ref08_Parser14_W, F_ref08_Parser15_W, F_ref08_Parser16_W, F_ref08_Parser17_W, F_ref08_Parser18_W, F_ref08_Parser19_W, F_ref08_Parser9_W, F_ref08_Parsel0_W, F_ref08_Parser20_W, F_ref08_Parser21_W, F_ref08_Parser22_W, F_ref08_Parser22_g3, F_ref08_Parser22_g10, F_ref08_Parser23_W, F_ref08_Parser24_W, F_ref08_Parser25_W, F_ref08_Parser26_W, F_ref08_Parser27_W, F_ref08_Parser28_W, F_ref08_Parser29_W, F_ref08_Parser30_W, F_ref08_Parser31_W, F_ref08_Parser32_W, F_ref08_Parser32_g3, F_ref08_Parser32_g9, F_ref08_Parser32_g16, F_ref08_Parser32_g20, F_ref08_Parser33_W, F_ref08_Parser34_W, F_ref08_Parsec_W, e2, e6, e8, e13, hr, hh, hln, hs, q1, q2, t1, q3]
    exact .inl ⟨rfl, KH_err ⟨rfl, hs _, e2, 87, by decide, rfl⟩⟩
  rcases hk with rfl | ⟨n, hn, rfl⟩
  · have q4 : ((-1 : Int) < 0) := by decide
    simp only [fws, cond_true, cond_false, if_true, if_false, unV, isNil, optI, iV, stepI, evalR, reduceIte, reduceCtorEq, Nat.reduceEqDiff, Int.reduceLT, Int.reduceLE, Int.reduceToNat, Nat.reduceLT, Nat.reduceLeDiff, Int.reduceEq, Int.reduceNeg, IntKind.bits, Nat.reduceAdd, Nat.reduceMul, Nat.reducePow, Int.reducePow, ini, fwh, lk, cellsAt, tagOf, spotOf, rdN, spl, fillL, zr, fwi, F_ref08_Parser0_W, F_ref08_Parser1_W, F_ref08_Parser2_W, F_ref08_Parser3_W, F_ref08_Parser4_W, F_ref08_Parser5_W, F_ref08_Parser6_W, F_ref08_Parser7_W, F_ref08_Parser8_W, F_ref08_Parser10_W, F_ref08_Parser11_W, F_ref08_Parser12_W, F_ref08_Parser13_W, F_ref08_Parser14_W, F_ref08_Parser15_W, F_ref08_Parser16_W, F_ref08_Parser17_W, F_ref08_Parser18_W, F_ref08_Parser19_W, F_ref08_Parser9_W, F_ref08_Parsel0_W, F_ref08_Parser20_W, F_ref08_Parser21_W, F_ref08_Parser22_W, F_ref08_Parser22_g3, F_ref08_Parser22_g10, F_ref08_Parser23_W, F_ref08_Parser24_W, F_ref08_Parser25_W, F_ref08_Parser26_W, F_ref08_Parser27_W, F_ref08_Parser28_W, F_ref08_Parser29_W, F_ref08_Parser30_W, F_ref08_Parser31_W, F_ref08_Parser32_W, F_ref08_Parser32_g3, F_ref08_Parser32_g9, F_ref08_Parser32_g16, F_ref08_Parser32_g20, F_ref08_Parser33_W, F_ref08_Parser34_W, F_ref08_Parsec_W, e2, e6, e8, e13, hr, hh, hln, hs, q1, q2, t1, q3, q4]
    exact .inl ⟨rfl, KH_err ⟨rfl, hs _, e2, 87, by decide, rfl⟩⟩
  · have q4 : ¬ ((n : Int) < 0) := by omega
    obtain ⟨p, p1, p3, p4, a0, a1, a3, a4, b1, b3, b4, b7⟩ := Own.ph s.on hn .i64
    obtain ⟨v1, v2, v3, v4, v5, v6, v7⟩ := s.kn _ (List.getElem_mem hn)
    cases q5 : decide ((IntKind.u32.wrap (ls[n].Flags.tdiv 2)).tmod 2 = 0) with
    | true =>
      simp only [fws, cond_true, cond_false, if_true, if_false, unV, isNil, optI, iV, stepI, evalR, reduceIte, reduceCtorEq, Nat.reduceEqDiff, Int.reduceLT, Int.reduceLE, Int.reduceToNat, Nat.reduceLT, Nat.reduceLeDiff, Int.reduceEq, Int.reduceNeg, IntKind.bits, Nat.reduceAdd, Nat.reduceMul, Nat.reducePow, Int.reducePow, ini, fwh, lk, cellsAt, tagOf, spotOf, rdN, spl, fillL, zr, fwi, F_ref08_Parser0_W, F_ref08_Parser1_W, F_ref08_Parser2_W, F_ref08_Parser3_W, F_ref08_Parser4_W, F_ref08_Parser5_W, F_ref08_Parser6_W, F_ref08_Parser7_W, F_ref08_Parser8_W, F_ref08_Parser10_W, F_ref08_Parser11_W, F_ref08_Parser12_W, F_ref08_Parser13_W, F_ref08_Parser14_W, F_ref08_Parser15_W, F_ref08_Parser16_W, F_ref08_Parser17_W, F_ref08_Parser18_W, F_ref08_Parser19_W, F_ref08_Parser9_W, F_ref08_Parsel0_W, F_ref08_Parser20_W, F_ref08_Parser21_W, F_ref08_Parser22_W, F_ref08_Parser22_g3, F_ref08_Parser22_g10, F_ref08_Parser23_W, F_ref08_Parser24_W, F_ref08_Parser25_W, F_ref08_Parser26_W, F_ref08_Parser27_W, F_ref08_Parser28_W, F_ref08_Parser29_W, F_ref08_Parser30_W, F_ref08_Parser31_W, F_ref08_Parser32_W, F_ref08_Parser32_g3, F_ref08_Parser32_g9, F_ref08_Parser32_g16, F_ref08_Parser32_g20, F_ref08_Parser33_W, F_ref08_Parser34_W, F_ref08_Parsec_W, e2, e6, e8, e13, hr, hh, hln, hs, q1, q2, t1, q3, q4, a0, a1, b1, q5]
      exact .inl ⟨rfl, KH_err ⟨rfl, hs _, e2, 87, by decide, rfl⟩⟩
    | false =>
      simp only [fws, cond_true, cond_false, if_true, if_false, unV, isNil, optI, iV, stepI, evalR, reduceIte, reduceCtorEq, Nat.reduceEqDiff, Int.reduceLT, Int.reduceLE, Int.reduceToNat, Nat.reduceLT, Nat.reduceLeDiff, Int.reduceEq, Int.reduceNeg, IntKind.bits, Nat.reduceAdd, Nat.reduceMul, Nat.reducePow, Int.reducePow, ini, fwh, lk, cellsAt, tagOf, spotOf, rdN, spl, fillL, zr, fwi, F_ref08_Parser0_W, F_ref08_Parser1_W, F_ref08_Parser2_W, F_ref08_Parser3_W, F_ref08_Parser4_W, F_ref08_Parser5_W, F_ref08_Parser6_W, F_ref08_Parser7_W, F_ref08_Parser8_W, F_ref08_Parser10_W, F_ref08_Parser11_W, F_ref08_Parser12_W, F_ref08_Parser13_W, F_ref08_Parser14_W, F_ref08_Parser15_W, F_ref08_Parser16_W, F_ref08_Parser17_W, F_ref08_Parser18_W, F_ref08_Parser19_W, F_ref08_Parser9_W, F_ref08_Parsel0_W, F_ref08_Parser20_W, F_ref08_Parser21_W, F_ref08_Parser22_W, F_ref08_Parser22_g3, F_ref08_Parser22_g10, F_ref08_Parser23_W, F_ref08_Parser24_W, F_ref08_Parser25_W, F_ref08_Parser26_W, F_ref08_Parser27_W, F_ref08_Parser28_W, F_ref08_Parser29_W, F_ref08_Parser30_W, F_ref08_Parser31_W, F_ref08_Parser32_W, F_ref08_Parser32_g3, F_ref08_Parser32_g9, F_ref08_Parser32_g16, F_ref08_Parser32_g20, F_ref08_Parser33_W, F_ref08_Parser34_W, F_ref08_Parsec_W, e2, e6, e8, e13, hr, hh, hln, hs, q1, q2, t1, q3, q4, a0, a1, b1, q5]
      exact .inr ⟨trivial, trivial, ⟨e2, e6, e8⟩⟩
include h0 h1 h2 h4
theorem ph25 (he : WJ env rv) (s : HT H mch nv rv ls rs dy zP) : W T (.reg F_ref08_Parser25) env H fun x e h => h = H ∧ x = .normal ∧ WJ e rv ∧ ∃ b, e 12 = .bool b := by
  obtain ⟨e2, e6, e8⟩ := he
  have hh := s.hh
  obtain ⟨d, dw, _, f1, _⟩ := arg_of (mch := mch) s.on s.kn s.ln s.kd s.ke
  have hw := s.kd
  obtain ⟨w1, w2, w3, w4, w5, w6, w7⟩ := hw
  simp only [u64_iff] at w4 w5
  obtain ⟨p, _, c1⟩ := f_ref08_Off h0 h1 h2 d dw w4 w5 h4
  have hfz : List.mapM (frz 8 H) [.agg (hc2 mch nv dy zP).toArray, .int .u64 dy.Vaddr, .int .u64 dy.Filesz] = some [d.v, .int .u64 dy.Vaddr, .int .u64 dy.Filesz] := by
    simp only [List.mapM_cons, List.mapM_nil, f1, frz_pure pure_int]
    rfl
  simp only [fws, cond_true, cond_false, if_true, if_false, unV, isNil, optI, iV, stepI, evalR, reduceIte, reduceCtorEq, Nat.reduceEqDiff, Int.reduceLT, Int.reduceLE, Int.reduceToNat, Nat.reduceLT, Nat.reduceLeDiff, Int.reduceEq, Int.reduceNeg, IntKind.bits, Nat.reduceAdd, Nat.reduceMul, Nat.reducePow, Int.reducePow, ini, fwh, lk, cellsAt, tagOf, spotOf, rdN, spl, fillL, zr, fwi, F_ref08_Parser0_W, F_ref08_Parser1_W, F_ref08_Parser2_W, F_ref08_Parser3_W, F_ref08_Parser4_W, F_ref08_Parser5_W, F_ref08_Parser6_W, F_ref08_Parser7_W, F_ref08_Parser8_W, F_ref08_Parser10_W, F_ref08_Parser11_W, F_ref08_Parser12_W, F_ref08_Parser13_W, F_ref08_Parser14_W, F_ref08_Parser15_W, F_ref08_Parser16_W, F_ref08_Parser17_W, F_ref08_Parser18_W, F_ref08_Parser19_W, F_ref08_Parser9_W, F_ref08_Parsel0_W, F_ref08_Parser20_W, F_ref08_Parser21_W, F_ref08_Parser22_W, F_ref08_Parser22_g3, F_ref08_Parser22_g10, F_ref08_Parser23_W, F_ref08_Parser24_W, F_ref08_Parser25_W, F_ref08_Parser26_W, F_ref08_Parser27_W, F_ref08_Parser28_W, F_ref08_Parser29_W, F_ref08_Parser30_W, F_ref08_Parser31_W, F_ref08_Parser32_W, F_ref08_Parser32_g3, F_ref08_Parser32_g9, F_ref08_Parser32_g16, F_ref08_Parser32_g20, F_ref08_Parser33_W, F_ref08_Parser34_W, F_ref08_Parsec_W, e6, hh, hfz, CL_of c1 rfl]
  exact ⟨trivial, trivial, ⟨e2, e6, e8⟩, _, rfl⟩
include h3 h5
omit h4 in
theorem ph31 (he : WJ env rv) (s : HT H mch nv rv ls rs dy re) : W T (.reg F_ref08_Parser31) env H fun x e h => h = H ∧ x = .normal ∧ WJ e rv ∧ ∃ k : Int, (k = -1 ∨ ∃ n : Nat, n < ls.length ∧ k = n) ∧ e 13 = .int .i64 k := by
  obtain ⟨e2, e6, e8⟩ := he
  have hh := s.hh
  obtain ⟨d, dw, dl, f1, _⟩ := arg_of (mch := mch) s.on s.kn s.ln s.kd s.ke
  have hw := s.ke
  obtain ⟨w1, w2, w3, w4, w5, w6, w7⟩ := hw
  simp only [u64_iff] at w4 w6
  obtain ⟨k, hk, c1⟩ := f_ref08_Holder h0 h1 h2 h3 d dw w4 w6 h5
  rw [dl] at hk
  have hfz : List.mapM (frz 8 H) [.agg (hc2 mch nv dy re).toArray, .int .u64 re.Vaddr, .int .u64 re.Memsz] = some [d.v, .int .u64 re.Vaddr, .int .u64 re.Memsz] := by
    simp only [List.mapM_cons, List.mapM_nil, f1, frz_pure pure_int]
    rfl
  simp only [fws, cond_true, cond_false, if_true, if_false, unV, isNil, optI, iV, stepI, evalR, reduceIte, reduceCtorEq, Nat.reduceEqDiff, Int.reduceLT, Int.reduceLE, Int.reduceToNat, Nat.reduceLT, Nat.reduceLeDiff, Int.reduceEq, Int.reduceNeg, IntKind.bits, Nat.reduceAdd, Nat.reduceMul, Nat.reducePow, Int.reducePow, ini, fwh, lk, cellsAt, tagOf, spotOf, rdN, spl, fillL, zr, fwi, F_ref08_Parser0_W, F_ref08_Parser1_W, F_ref08_Parser2_W, F_ref08_Parser3_W, F_ref08_Parser4_W, F_ref08_Parser5_W, F_ref08_Parser6_W, F_ref08_Parser7_W, F_ref08_Parser8_W, F_ref08_Parser10_W, F_ref08_Parser11_W, F_ref08_Parser12_W, F_ref08_Parser13_W, F_ref08_Parser14_W, F_ref08_Parser15_W, F_ref08_Parser16_W, F_ref08_Parser17_W, F_ref08_Parser18_W, F_ref08_Parser19_W, F_ref08_Parser9_W, F_ref08_Parsel0_W, F_ref08_Parser20_W, F_ref08_Parser21_W, F_ref08_Parser22_W, F_ref08_Parser22_g3, F_ref08_Parser22_g10, F_ref08_Parser23_W, F_ref08_Parser24_W, F_ref08_Parser25_W, F_ref08_Parser26_W, F_ref08_Parser27_W, F_ref08_Parser28_W, F_ref08_Parser29_W, F_ref08_Parser30_W, F_ref08_Parser31_W, F_ref08_Parser32_W, F_ref08_Parser32_g3, F_ref08_Parser32_g9, F_ref08_Parser32_g16, F_ref08_Parser32_g20, F_ref08_Parser33_W, F_ref08_Parser34_W, F_ref08_Parsec_W, e6, hh, hfz, CL_of c1 rfl]
  exact ⟨trivial, trivial, ⟨e2, e6, e8⟩, k, hk, rfl⟩
end
end Go.Proofs.Ytdkdifjjpbfohaa
/- The document's headers, joined. -/
namespace Go.Proofs.Ytdkdifjjpbfohaa
open Go Fw
set_option linter.unusedSimpArgs false
set_option linter.unusedVariables false
set_option linter.unusedSectionVars false

structure QF (T : Tab) : Prop where
  get : T 62 = some F_ref02_Get
  sum : T 72 = some F_ref01_Sum
  less : T 71 = some F_ref01_Less
  ins : T 61 = some F_ref01_Inside
  n : T 47 = some F_ref08_N
  table : T 46 = some F_ref08_Table
  en : T 49 = some F_ref08_End
  may : T 48 = some F_ref08_may
  off : T 50 = some F_ref08_Off
  holder : T 51 = some F_ref08_Holder
  parse : T 31 = some F_ref08_Parse
section
variable {T : Tab} (t : QF T) (o : Option (List UInt8)) (hl : (lst o).length ≤ 100000000)
theorem dead_seq {T : Tab} {x : Ex} {e : Env} {h : Heap} {b : ICode} (hd : dead x e h) : seqQ T b (retQ [.cell 2 (some 16), .tmp 3] KH) x e h := by
  obtain ⟨rfl, hd⟩ := hd
  rw [seqQ_ret]; exact hd
include t hl
theorem pp1 {env : Env} {H : Heap} (e0 : env 0 = slV byteE o) (e2 : env 2 = ptrA 0 0) : W T (.reg F_ref08_Parser1) env H fun x e h => h = H ∧ x = .normal ∧ e 0 = slV byteE o ∧ e 2 = ptrA 0 0 ∧ ∃ p : TP, p.ok ∧ e 4 = slV PhE p.1 ∧ e 5 = .int .i64 p.2 := by
  obtain ⟨p, hp, c1⟩ := f_ref08_Table t.get t.n o hl t.sum t.less t.ins t.table
  unfold TP.v at c1
  simp only [fws, cond_true, cond_false, if_true, if_false, unV, isNil, optI, iV, stepI, evalR, reduceIte, reduceCtorEq, Nat.reduceEqDiff, Int.reduceLT, Int.reduceLE, Int.reduceToNat, Nat.reduceLT, Nat.reduceLeDiff, Int.reduceEq, Int.reduceNeg, IntKind.bits, Nat.reduceAdd, Nat.reduceMul, Nat.reducePow, Int.reducePow, ini, fwh, lk, cellsAt, tagOf, spotOf, rdN, spl, fillL, zr, fwi, F_ref08_Parser0_W, F_ref08_Parser1_W, F_ref08_Parser2_W, F_ref08_Parser3_W, F_ref08_Parser4_W, F_ref08_Parser5_W, F_ref08_Parser6_W, F_ref08_Parser7_W, F_ref08_Parser8_W, F_ref08_Parser10_W, F_ref08_Parser11_W, F_ref08_Parser12_W, F_ref08_Parser13_W, F_ref08_Parser14_W, F_ref08_Parser15_W, F_ref08_Parser16_W, F_ref08_Parser17_W, F_ref08_Parser18_W, F_ref08_Parser19_W, F_ref08_Parser9_W, F_ref08_Parsel0_W, F_ref08_Parser20_W, F_ref08_Parser21_W, F_ref08_Parser22_W, F_ref08_Parser22_g3, F_ref08_Parser22_g10, F_ref08_Parser23_W, F_ref08_Parser24_W, F_ref08_Parser25_W, F_ref08_Parser26_W, F_ref08_Parser27_W, F_ref08_Parser28_W, F_ref08_Parser29_W, F_ref08_Parser30_W, F_ref08_Parser31_W, F_ref08_Parser32_W, F_ref08_Parser32_g3, F_ref08_Parser32_g9, F_ref08_Parser32_g16, F_ref08_Parser32_g20, F_ref08_Parser33_W, F_ref08_Parser34_W, F_ref08_Parsec_W, e0, CC_of c1]
  exact ⟨trivial, trivial, trivial, e2, p, hp, rfl, rfl⟩
theorem pp4 {env : Env} {tl : Option (List S_api_Phdr)} (e0 : env 0 = slV byteE o) (e2 : env 2 = ptrA 0 0) (e4 : env 4 = slV PhE tl) : W T (.reg F_ref08_Parser4) env [blk 16 Zh] fun x e h => x = .normal ∧ e 0 = slV byteE o ∧ e 2 = ptrA 0 0 ∧ e 4 = slV PhE tl ∧ e 6 = ptrA 1 0 ∧ ∃ mch, h = [blk 16 Zh, blk 16 (hcs mch (.slice none 0 0))] := by
  obtain ⟨n, hn, c1⟩ := f_ref08_Nx t.get t.n o hl (a := 18) (by decide) 2 (by decide)
  have c1 : FnV T 47 [slV byteE o, .int .u64 18, .int .i64 2] (.int .u64 n) := c1
  simp only [fws, cond_true, cond_false, if_true, if_false, unV, isNil, optI, iV, stepI, evalR, reduceIte, reduceCtorEq, Nat.reduceEqDiff, Int.reduceLT, Int.reduceLE, Int.reduceToNat, Nat.reduceLT, Nat.reduceLeDiff, Int.reduceEq, Int.reduceNeg, IntKind.bits, Nat.reduceAdd, Nat.reduceMul, Nat.reducePow, Int.reducePow, ini, fwh, lk, cellsAt, tagOf, spotOf, rdN, spl, fillL, zr, fwi, F_ref08_Parser0_W, F_ref08_Parser1_W, F_ref08_Parser2_W, F_ref08_Parser3_W, F_ref08_Parser4_W, F_ref08_Parser5_W, F_ref08_Parser6_W, F_ref08_Parser7_W, F_ref08_Parser8_W, F_ref08_Parser10_W, F_ref08_Parser11_W, F_ref08_Parser12_W, F_ref08_Parser13_W, F_ref08_Parser14_W, F_ref08_Parser15_W, F_ref08_Parser16_W, F_ref08_Parser17_W, F_ref08_Parser18_W, F_ref08_Parser19_W, F_ref08_Parser9_W, F_ref08_Parsel0_W, F_ref08_Parser20_W, F_ref08_Parser21_W, F_ref08_Parser22_W, F_ref08_Parser22_g3, F_ref08_Parser22_g10, F_ref08_Parser23_W, F_ref08_Parser24_W, F_ref08_Parser25_W, F_ref08_Parser26_W, F_ref08_Parser27_W, F_ref08_Parser28_W, F_ref08_Parser29_W, F_ref08_Parser30_W, F_ref08_Parser31_W, F_ref08_Parser32_W, F_ref08_Parser32_g3, F_ref08_Parser32_g9, F_ref08_Parser32_g16, F_ref08_Parser32_g20, F_ref08_Parser33_W, F_ref08_Parser34_W, F_ref08_Parsec_W, e0, CC_of c1]
  exact ⟨trivial, trivial, e2, e4, trivial, _, rfl⟩
theorem f_ref08_Parse : ∃ x : HX, x.1.wf ∧ FnV T 31 [slV byteE o] x.v := by
  refine FnV_ex (P := fun x : HX => x.1.wf) (g := HX.v) (by simp [pure_sl (E := byteE) (o := o) (k := 6) rfl]) ?_
  rw [Ev_fn t.parse rfl]
  show W T F_ref08_Parsec _ _ (retQ [.cell 2 (some 16), .tmp 3] KH)
  unfold F_ref08_Parsec
  rw [w_seq]
  have st0 : W T (.reg F_ref08_Parser0) (ini [slV byteE o]) [] fun x e h => h = [blk 16 Zh] ∧ x = .normal ∧ e 0 = slV byteE o ∧ e 2 = ptrA 0 0 := by
    simp only [fws, cond_true, cond_false, if_true, if_false, unV, isNil, optI, iV, stepI, evalR, reduceIte, reduceCtorEq, Nat.reduceEqDiff, Int.reduceLT, Int.reduceLE, Int.reduceToNat, Nat.reduceLT, Nat.reduceLeDiff, Int.reduceEq, Int.reduceNeg, IntKind.bits, Nat.reduceAdd, Nat.reduceMul, Nat.reducePow, Int.reducePow, ini, fwh, lk, cellsAt, tagOf, spotOf, rdN, spl, fillL, zr, fwi, F_ref08_Parser0_W, F_ref08_Parser1_W, F_ref08_Parser2_W, F_ref08_Parser3_W, F_ref08_Parser4_W, F_ref08_Parser5_W, F_ref08_Parser6_W, F_ref08_Parser7_W, F_ref08_Parser8_W, F_ref08_Parser10_W, F_ref08_Parser11_W, F_ref08_Parser12_W, F_ref08_Parser13_W, F_ref08_Parser14_W, F_ref08_Parser15_W, F_ref08_Parser16_W, F_ref08_Parser17_W, F_ref08_Parser18_W, F_ref08_Parser19_W, F_ref08_Parser9_W, F_ref08_Parsel0_W, F_ref08_Parser20_W, F_ref08_Parser21_W, F_ref08_Parser22_W, F_ref08_Parser22_g3, F_ref08_Parser22_g10, F_ref08_Parser23_W, F_ref08_Parser24_W, F_ref08_Parser25_W, F_ref08_Parser26_W, F_ref08_Parser27_W, F_ref08_Parser28_W, F_ref08_Parser29_W, F_ref08_Parser30_W, F_ref08_Parser31_W, F_ref08_Parser32_W, F_ref08_Parser32_g3, F_ref08_Parser32_g9, F_ref08_Parser32_g16, F_ref08_Parser32_g20, F_ref08_Parser33_W, F_ref08_Parser34_W, F_ref08_Parsec_W]
    exact ⟨trivial, trivial, trivial, trivial⟩
  refine W.mono st0 fun x e h ⟨q1, q2, e0, e2⟩ => ?_
  subst h q2
  rw [seqQ_normal, w_seq]
  refine W.mono (pp1 t o hl e0 e2) fun x e h ⟨q1, q2, e0, e2, p, pk, e4, e5⟩ => ?_
  subst h q2
  rw [seqQ_normal, w_seq]
  have key : W T (.seq (.reg F_ref08_Parser2) (.cond (.t 20) (.seq (.reg F_ref08_Parser3) .ret) .skip)) e [blk 16 Zh] fun x e h => dead x e h ∨ (h = [blk 16 Zh] ∧ x = .normal ∧ e 0 = slV byteE o ∧ e 2 = ptrA 0 0 ∧ e 4 = slV PhE p.1) := by
    by_cases q : p.2 = 0
    · rw [q] at e5
      simp only [fws, cond_true, cond_false, if_true, if_false, unV, isNil, optI, iV, stepI, evalR, reduceIte, reduceCtorEq, Nat.reduceEqDiff, Int.reduceLT, Int.reduceLE, Int.reduceToNat, Nat.reduceLT, Nat.reduceLeDiff, Int.reduceEq, Int.reduceNeg, IntKind.bits, Nat.reduceAdd, Nat.reduceMul, Nat.reducePow, Int.reducePow, ini, fwh, lk, cellsAt, tagOf, spotOf, rdN, spl, fillL, zr, fwi, F_ref08_Parser0_W, F_ref08_Parser1_W, F_ref08_Parser2_W, F_ref08_Parser3_W, F_ref08_Parser4_W, F_ref08_Parser5_W, F_ref08_Parser6_W, F_ref08_Parser7_W, F_ref08_Parser8_W, F_ref08_Parser10_W, F_ref08_Parser11_W, F_ref08_Parser12_W, F_ref08_Parser13_W, F_ref08_Parser14_W, F_ref08_Parser15_W, F_ref08_Parser16_W, F_ref08_Parser17_W, F_ref08_Parser18_W, F_ref08_Parser19_W, F_ref08_Parser9_W, F_ref08_Parsel0_W, F_ref08_Parser20_W, F_ref08_Parser21_W, F_ref08_Parser22_W, F_ref08_Parser22_g3, F_ref08_Parser22_g10, F_ref08_Parser23_W, F_ref08_Parser24_W, F_ref08_Parser25_W, F_ref08_Parser26_W, F_ref08_Parser27_W, F_ref08_Parser28_W, F_ref08_Parser29_W, F_ref08_Parser30_W, F_ref08_Parser31_W, F_ref08_Parser32_W, F_ref08_Parser32_g3, F_ref08_Parser32_g9, F_ref08_Parser32_g16, F_ref08_Parser32_g20, F_ref08_Parser33_W, F_ref08_Parser34_W, F_ref08_Parsec_W, e2, e5]
      exact .inr ⟨trivial, trivial, e0, trivial, e4⟩
    · simp only [fws, cond_true, cond_false, if_true, if_false, unV, isNil, optI, iV, stepI, evalR, reduceIte, reduceCtorEq, Nat.reduceEqDiff, Int.reduceLT, Int.reduceLE, Int.reduceToNat, Nat.reduceLT, Nat.reduceLeDiff, Int.reduceEq, Int.reduceNeg, IntKind.bits, Nat.reduceAdd, Nat.reduceMul, Nat.reducePow, Int.reducePow, ini, fwh, lk, cellsAt, tagOf, spotOf, rdN, spl, fillL, zr, fwi, F_ref08_Parser0_W, F_ref08_Parser1_W, F_ref08_Parser2_W, F_ref08_Parser3_W, F_ref08_Parser4_W, F_ref08_Parser5_W, F_ref08_Parser6_W, F_ref08_Parser7_W, F_ref08_Parser8_W, F_ref08_Parser10_W, F_ref08_Parser11_W, F_ref08_Parser12_W, F_ref08_Parser13_W, F_ref08_Parser14_W, F_ref08_Parser15_W, F_ref08_Parser16_W, F_ref08_Parser17_W, F_ref08_Parser18_W, F_ref08_Parser19_W, F_ref08_Parser9_W, F_ref08_Parsel0_W, F_ref08_Parser20_W, F_ref08_Parser21_W, F_ref08_Parser22_W, F_ref08_Parser22_g3, F_ref08_Parser22_g10, F_ref08_Parser23_W, F_ref08_Parser24_W, F_ref08_Parser25_W, F_ref08_Parser26_W, F_ref08_Parser27_W, F_ref08_Parser28_W, F_ref08_Parser29_W, F_ref08_Parser30_W, F_ref08_Parser31_W, F_ref08_Parser32_W, F_ref08_Parser32_g3, F_ref08_Parser32_g9, F_ref08_Parser32_g16, F_ref08_Parser32_g20, F_ref08_Parser33_W, F_ref08_Parser34_W, F_ref08_Parsec_W, e2, e5, q]
      exact .inl ⟨rfl, KH_err ⟨rfl, rfl, e2, p.2, q, rfl⟩⟩
  refine W.mono key fun x e h q => ?_
  rcases q with q | ⟨q1, q2, e0, e2, e4⟩
  · exact dead_seq q
  subst h q2
  rw [seqQ_normal, w_seq]
  refine W.mono (pp4 t o hl e0 e2 e4) fun x e h ⟨q2, e0, e2, e4, e6, mch, q1⟩ => ?_
  subst h q2
  rw [seqQ_normal, w_seq]
  have st5 : W T (.reg F_ref08_Parser5) e [blk 16 Zh, blk 16 (hcs mch (.slice none 0 0))] fun x e h => h = [blk 16 Zh, blk 16 (hcs mch (.slice none 0 0))] ∧ x = .normal ∧ e 0 = slV byteE o ∧ e 2 = ptrA 0 0 ∧ e 4 = slV PhE p.1 ∧ e 6 = ptrA 1 0 ∧ e 7 = .slice none 0 0 ∧ e 8 = .slice none 0 0 := by
    simp only [fws, cond_true, cond_false, if_true, if_false, unV, isNil, optI, iV, stepI, evalR, reduceIte, reduceCtorEq, Nat.reduceEqDiff, Int.reduceLT, Int.reduceLE, Int.reduceToNat, Nat.reduceLT, Nat.reduceLeDiff, Int.reduceEq, Int.reduceNeg, IntKind.bits, Nat.reduceAdd, Nat.reduceMul, Nat.reducePow, Int.reducePow, ini, fwh, lk, cellsAt, tagOf, spotOf, rdN, spl, fillL, zr, fwi, F_ref08_Parser0_W, F_ref08_Parser1_W, F_ref08_Parser2_W, F_ref08_Parser3_W, F_ref08_Parser4_W, F_ref08_Parser5_W, F_ref08_Parser6_W, F_ref08_Parser7_W, F_ref08_Parser8_W, F_ref08_Parser10_W, F_ref08_Parser11_W, F_ref08_Parser12_W, F_ref08_Parser13_W, F_ref08_Parser14_W, F_ref08_Parser15_W, F_ref08_Parser16_W, F_ref08_Parser17_W, F_ref08_Parser18_W, F_ref08_Parser19_W, F_ref08_Parser9_W, F_ref08_Parsel0_W, F_ref08_Parser20_W, F_ref08_Parser21_W, F_ref08_Parser22_W, F_ref08_Parser22_g3, F_ref08_Parser22_g10, F_ref08_Parser23_W, F_ref08_Parser24_W, F_ref08_Parser25_W, F_ref08_Parser26_W, F_ref08_Parser27_W, F_ref08_Parser28_W, F_ref08_Parser29_W, F_ref08_Parser30_W, F_ref08_Parser31_W, F_ref08_Parser32_W, F_ref08_Parser32_g3, F_ref08_Parser32_g9, F_ref08_Parser32_g16, F_ref08_Parser32_g20, F_ref08_Parser33_W, F_ref08_Parser34_W, F_ref08_Parsec_W]
    exact ⟨trivial, trivial, e0, e2, e4, e6, trivial, trivial⟩
  refine W.mono st5 fun x e h ⟨q1, q2, e0, e2, e4, e6, e7, e8⟩ => ?_
  subst h q2
  rw [seqQ_normal, w_seq]
  have st6 : W T (.reg F_ref08_Parser6) e [blk 16 Zh, blk 16 (hcs mch (.slice none 0 0))] fun x e h => h = [blk 16 Zh, blk 16 (hcs mch (.slice none 0 0))] ∧ x = .normal ∧ e 0 = slV byteE o ∧ e 2 = ptrA 0 0 ∧ e 4 = slV PhE p.1 ∧ e 6 = ptrA 1 0 ∧ e 7 = .slice none 0 0 ∧ e 8 = .slice none 0 0 ∧ e 9 = .int .u64 0 := by
    simp only [fws, cond_true, cond_false, if_true, if_false, unV, isNil, optI, iV, stepI, evalR, reduceIte, reduceCtorEq, Nat.reduceEqDiff, Int.reduceLT, Int.reduceLE, Int.reduceToNat, Nat.reduceLT, Nat.reduceLeDiff, Int.reduceEq, Int.reduceNeg, IntKind.bits, Nat.reduceAdd, Nat.reduceMul, Nat.reducePow, Int.reducePow, ini, fwh, lk, cellsAt, tagOf, spotOf, rdN, spl, fillL, zr, fwi, F_ref08_Parser0_W, F_ref08_Parser1_W, F_ref08_Parser2_W, F_ref08_Parser3_W, F_ref08_Parser4_W, F_ref08_Parser5_W, F_ref08_Parser6_W, F_ref08_Parser7_W, F_ref08_Parser8_W, F_ref08_Parser10_W, F_ref08_Parser11_W, F_ref08_Parser12_W, F_ref08_Parser13_W, F_ref08_Parser14_W, F_ref08_Parser15_W, F_ref08_Parser16_W, F_ref08_Parser17_W, F_ref08_Parser18_W, F_ref08_Parser19_W, F_ref08_Parser9_W, F_ref08_Parsel0_W, F_ref08_Parser20_W, F_ref08_Parser21_W, F_ref08_Parser22_W, F_ref08_Parser22_g3, F_ref08_Parser22_g10, F_ref08_Parser23_W, F_ref08_Parser24_W, F_ref08_Parser25_W, F_ref08_Parser26_W, F_ref08_Parser27_W, F_ref08_Parser28_W, F_ref08_Parser29_W, F_ref08_Parser30_W, F_ref08_Parser31_W, F_ref08_Parser32_W, F_ref08_Parser32_g3, F_ref08_Parser32_g9, F_ref08_Parser32_g16, F_ref08_Parser32_g20, F_ref08_Parser33_W, F_ref08_Parser34_W, F_ref08_Parsec_W]
    exact ⟨trivial, trivial, e0, e2, e4, e6, e7, e8, trivial⟩
  refine W.mono st6 fun x e h ⟨q1, q2, e0, e2, e4, e6, e7, e8, e9⟩ => ?_
  subst h q2
  rw [seqQ_normal, w_seq]
  have sl : HS [blk 16 Zh, blk 16 (hcs mch (.slice none 0 0))] mch (.slice none 0 0) (.slice none 0 0) (.slice none 0 0) [] [] [] 0 :=
    ⟨rfl, rfl, Own.nil, Own.nil, Own.nil, (fun _ h => nomatch h), (fun _ h => nomatch h), (fun _ h => nomatch h), (fun _ h => nomatch h), (fun _ h => nomatch h), (fun _ h => nomatch h), (fun _ h => nomatch h), (fun _ h => nomatch h), (fun _ h => nomatch h), Nat.le_refl _, Nat.le_refl _, Nat.le_refl _⟩
  have key : W T (.seq (.reg F_ref08_Parser7) (.block 0 (.loop F_ref08_Parsel0))) e [blk 16 Zh, blk 16 (hcs mch (.slice none 0 0))] fun x e h => dead x e h ∨ (x = .normal ∧ ∃ nv dv rv ls ds rs, WJ e rv ∧ e 7 = dv ∧ Own PhE h dv ds ∧ okP ds ∧ HT h mch nv rv ls rs zP zP) := by
    simp only [fws, cond_true, cond_false, if_true, if_false, unV, isNil, optI, iV, stepI, evalR, reduceIte, reduceCtorEq, Nat.reduceEqDiff, Int.reduceLT, Int.reduceLE, Int.reduceToNat, Nat.reduceLT, Nat.reduceLeDiff, Int.reduceEq, Int.reduceNeg, IntKind.bits, Nat.reduceAdd, Nat.reduceMul, Nat.reducePow, Int.reducePow, ini, fwh, lk, cellsAt, tagOf, spotOf, rdN, spl, fillL, zr, fwi, F_ref08_Parser0_W, F_ref08_Parser1_W, F_ref08_Parser2_W, F_ref08_Parser3_W, F_ref08_Parser4_W, F_ref08_Parser5_W, F_ref08_Parser6_W, F_ref08_Parser7_W, F_ref08_Parser8_W, F_ref08_Parser10_W, F_ref08_Parser11_W, F_ref08_Parser12_W, F_ref08_Parser13_W, F_ref08_Parser14_W, F_ref08_Parser15_W, F_ref08_Parser16_W, F_ref08_Parser17_W, F_ref08_Parser18_W, F_ref08_Parser19_W, F_ref08_Parser9_W, F_ref08_Parser20_W, F_ref08_Parser21_W, F_ref08_Parser22_W, F_ref08_Parser22_g3, F_ref08_Parser22_g10, F_ref08_Parser23_W, F_ref08_Parser24_W, F_ref08_Parser25_W, F_ref08_Parser26_W, F_ref08_Parser27_W, F_ref08_Parser28_W, F_ref08_Parser29_W, F_ref08_Parser30_W, F_ref08_Parser31_W, F_ref08_Parser32_W, F_ref08_Parser32_g3, F_ref08_Parser32_g9, F_ref08_Parser32_g16, F_ref08_Parser32_g20, F_ref08_Parser33_W, F_ref08_Parser34_W, F_ref08_Parsec_W]
    refine W.mono (loop_ref08_Parse t.sum t.less t.ins t.en t.may o hl p.1 pk.1 pk.2 (lst p.1).length 0 _ _ _ _ _ 0 [] [] [] (Nat.zero_add _) (by decide) ⟨?_, ?_, ?_, ?_, ?_, ?_, ?_, ?_⟩ sl) fun x e h q => ?_
    all_goals try (first | assumption | rfl)
    rcases q with ⟨rfl, q⟩ | ⟨rfl, nv, dv, rv, en, ls, ds, rs, he, s⟩
    · simp only [fws, cond_true, cond_false, if_true, if_false, unV, isNil, optI, iV, stepI, evalR, reduceIte, reduceCtorEq, Nat.reduceEqDiff, Int.reduceLT, Int.reduceLE, Int.reduceToNat, Nat.reduceLT, Nat.reduceLeDiff, Int.reduceEq, Int.reduceNeg, IntKind.bits, Nat.reduceAdd, Nat.reduceMul, Nat.reducePow, Int.reducePow, ini]
      exact .inl ⟨rfl, KH_err ⟨rfl, q⟩⟩
    · simp only [fws, cond_true, cond_false, if_true, if_false, unV, isNil, optI, iV, stepI, evalR, reduceIte, reduceCtorEq, Nat.reduceEqDiff, Int.reduceLT, Int.reduceLE, Int.reduceToNat, Nat.reduceLT, Nat.reduceLeDiff, Int.reduceEq, Int.reduceNeg, IntKind.bits, Nat.reduceAdd, Nat.reduceMul, Nat.reducePow, Int.reducePow, ini]
      exact .inr ⟨trivial, nv, dv, rv, ls, ds, rs, ⟨he.e2, he.e6, he.e8⟩, he.e7, s.od, s.kd, ⟨s.r, s.hh, s.on, s.oR, s.hn, s.hr, s.kn, s.kr, Nat.le_trans s.ln pk.2, zH_wf.2.1, zH_wf.2.1⟩⟩
  refine W.mono key fun x e h q => ?_
  rcases q with q | ⟨q2, nv, dv, rv, ls, ds, rs, he, e7, od, kd, s⟩
  · exact dead_seq q
  subst q2
  rw [seqQ_normal, w_seq]
  refine W.mono (ph20 he e7 s) fun x e h' q => ?_
  rcases q with q | ⟨q1, q2, he, e7⟩
  · exact dead_seq q
  subst h' q2
  rw [seqQ_normal, w_seq]
  refine W.mono (ph22 he e7 od kd s) fun x e h' q => ?_
  rcases q with q | ⟨q1, q2, he, e7, hdl⟩
  · exact dead_seq q
  subst h' q2
  rw [seqQ_normal, w_seq]
  refine W.mono (ph24 he e7 od kd hdl s) fun x e h ⟨q2, he, s⟩ => ?_
  subst q2
  rw [seqQ_normal, w_seq]
  refine W.mono (ph25 t.sum t.less t.ins t.off he s) fun x e h' ⟨q1, q2, he, b, e12⟩ => ?_
  subst h' q2
  rw [seqQ_normal, w_seq]
  refine W.mono (ph26 he e12 s) fun x e h' q => ?_
  rcases q with q | ⟨q1, q2, he⟩
  · exact dead_seq q
  subst h' q2
  rw [seqQ_normal, w_seq]
  refine W.mono (ph28 he s) fun x e h' q => ?_
  rcases q with q | ⟨q1, q2, he, hrl⟩
  · exact dead_seq q
  subst h' q2
  rw [seqQ_normal, w_seq]
  refine W.mono (ph30 he hrl s) fun x e h ⟨q2, he, s⟩ => ?_
  subst q2
  rw [seqQ_normal, w_seq]
  refine W.mono (ph31 t.sum t.less t.ins t.en t.holder he s) fun x e h' ⟨q1, q2, he, k, hk, e13⟩ => ?_
  subst h' q2
  rw [seqQ_normal, w_seq]
  refine W.mono (ph32 he hk e13 s) fun x e h' q => ?_
  rcases q with q | ⟨q1, q2, he⟩
  · exact dead_seq q
  subst h' q2
  rw [seqQ_normal]
  refine W.mono (ph34 he s) fun x e h' ⟨q1, q2⟩ => ?_
  subst q1
  exact q2
end
end Go.Proofs.Ytdkdifjjpbfohaa
/- Two libraries of which nothing is known are the same. -/
namespace Go.Proofs.Ytdkdifjjpbfohaa
open Go Fw
set_option linter.unusedSimpArgs false
set_option linter.unusedVariables false
set_option linter.unusedSectionVars false

theorem f_ref09_Same : FnV TDyn 34 [.agg Zc.toArray, .agg Zc.toArray] (.bool true) := FnV_run 60 rfl (by kernel_rfl)
end Go.Proofs.Ytdkdifjjpbfohaa
