/- Groups of relocations, written: by the program. -/
import Derived.Test.YtdkdifjjpbfohaaApsO
namespace Go.Proofs.Ytdkdifjjpbfohaa
open Go Fw
set_option linter.unusedSimpArgs false
set_option linter.unusedVariables false
set_option linter.unusedSectionVars false

theorem bne_ft : (false != true) = true := rfl
theorem bne_tf : (true != false) = true := rfl
abbrev obE (v : Value) : Entry := ⟨0, .cells false 1 [v]⟩
/-- A list of bytes in a variable at block 1. -/
structure OB (H : Heap) (v : Value) (l : List UInt8) : Prop where
  at_ : H[1]? = some (obE v)
  own : Own byteE H v l
  ne : blkV v ≠ some 1
theorem OB.app {H : Heap} {v : Value} {l m : List UInt8} (h : OB H v l) {n : Nat} (hn : n = m.length) (hb : l.length + m.length ≤ 140737488355328) :
    ∃ v' H', appV 1 1 H v (byteE.cs m) n = some (v', H') ∧ H'[1]? = some (obE v) ∧ OB (H'.set 1 (obE v')) v' (l ++ m) := by
  obtain ⟨v', H', a1, a2, a3⟩ := h.own.app (n := 1) (eb := 1) (m := m) rfl hn (by omega)
  have hk := (List.getElem?_eq_some_iff.1 h.at_).1
  have hk' : H'[1]? = some (obE v) := by rw [a3.same 1 hk h.ne]; exact h.at_
  have hne : blkV v' ≠ some 1 := by
    rcases a3.blk with h1 | ⟨_, b, h2, h3⟩
    · rw [h1]; exact h.ne
    · rw [h2]; intro he; cases he; omega
  have hkl := (List.getElem?_eq_some_iff.1 hk').1
  exact ⟨v', H', a1, hk', ⟨List.getElem?_set_self hkl, a2.keep fun b hb => List.getElem?_set_ne (fun he => hne (by rw [hb, he])), hne⟩⟩
theorem putS_len10 (n : Int) : (putS 10 n).length ≤ 10 := by
  have key : ∀ (f : Nat) (n : Int), (putS f n).length ≤ f := by
    intro f
    induction f with
    | zero => intro n; exact Nat.le_refl _
    | succ f ih =>
      intro n
      rw [putS]
      split
      · simp
      · have := ih (n / 128)
        simp only [List.length_cons]
        omega
  exact key 10 n
theorem ev_put1 {T : Tab} (h0 : T 14 = some F_leb_PutS) (h : T 44 = some F_aps_Encode_1) {H : Heap} {v : Value} {l : List UInt8} (t : OB H v l) (hl : l.length ≤ 100000000) {n : Int} (hn : isI64r n) :
    Ev T 44 [.int .i64 n, .pointer (some ⟨1, 0, none⟩)] H fun u h => u = .tuple #[] ∧ ∃ v', OB h v' (l ++ putS 10 n) := by
  rw [Ev_fn h rfl]
  have c := f_leb_PutS h0 hn.1 hn.2
  have hpl := putS_len10 n
  obtain ⟨v', H', a1, a2, a3⟩ := t.app (m := putS 10 n) (n := (putS 10 n).length) rfl (by omega)
  have hat := t.at_
  have hs : srcOf H 1 (imm byteE (putS 10 n)) = some (byteE.cs (putS 10 n), (putS 10 n).length) := srcOf_sl (E := byteE) (o := some (putS 10 n)) rfl
  obtain ⟨o1, o2⟩ := one_own a3.own
  simp only [F_aps_Encode_1, fws, cond_true, cond_false, if_true, if_false, unV, isNil, optI, iV, stepI, evalR, reduceIte, reduceCtorEq, Nat.reduceEqDiff, Int.reduceLT, Int.reduceLE, Int.reduceToNat, Nat.reduceLT, Nat.reduceLeDiff, Int.reduceEq, Int.reduceNeg, IntKind.bits, Nat.reduceAdd, Nat.reduceMul, Nat.reducePow, Int.reducePow, ini, fwh, lk, cellsAt, tagOf, spotOf, rdN, spl, fillL, zr, fwi, F_aps_Encode_1r0_W, F_aps_Encode_1c_W, F_aps_Encode_1r0_W, F_aps_Encode_1c_W, hat, CC_of c, hs, a1, a2, o1, o2]
  exact ⟨trivial, v', a3⟩
abbrev putF : Value := .func (.func 44) #[] #[.pointer (some ⟨1, 0, none⟩)]
theorem numsE_len (rela : Bool) (l : List S_api_Rel) : ∀ i, (putL (numsE rela l i)).length ≤ 20 + 50 * i
  | 0 => by
    have h1 := putS_len10 (l.length : Int)
    have h2 := putS_len10 0
    show (putS 10 (l.length : Int) ++ (putS 10 0 ++ [])).length ≤ _
    simp only [List.length_append, List.length_nil]
    omega
  | i + 1 => by
    have ih := numsE_len rela l i
    have key : ∀ L : List Int, (putL L).length ≤ 10 * L.length := fun L => by
      induction L with
      | nil => exact Nat.le_refl _
      | cons a L ih =>
        have := putS_len10 a
        show (putS 10 a ++ putL L).length ≤ _
        rw [List.length_append, List.length_cons]; omega
    rw [numsE, putL_app, putL_app, List.length_append, List.length_append]
    have h1 := key (if isHd l i then hdL rela l i else [])
    have h2 := key (elL rela l i)
    have h3 : (if isHd l i then hdL rela l i else []).length ≤ 3 := by split <;> simp [hdL]
    have h4 : (elL rela l i).length ≤ 2 := by unfold elL; cases rela <;> simp
    omega
section
variable {T : Tab} (h0 : T 14 = some F_leb_PutS) (h1 : T 44 = some F_aps_Encode_1) (h2 : T 45 = some F_aps_info) (o : Option (List S_api_Rel)) (hl : (lst o).length ≤ 512) (hw : okRels (lst o)) (rela : Bool)
include h0 h1 h2 hl hw
theorem rel_at {i : Nat} (hi : i < (lst o).length) : (∀ H, ixaI H 5 (slV RelE o) (.int .i64 i) = some (atI RelE (lst o) i, H)) ∧ (∀ H, loadNI H 5 (atI RelE (lst o) i) = some (relA (rAt (lst o) i), H)) ∧ okRel (rAt (lst o) i) := by
  rw [rAt_lt hi]
  exact ⟨fun H => ix_sl (E := RelE) (n := 5) rfl hi .i64 H, fun H => loadNI_at rfl hi, hw _ (List.getElem_mem hi)⟩
theorem rel_fa {i : Nat} (hi : i < (lst o).length) : ∃ p0 p3 p4, (∀ H, faI H 0 (atI RelE (lst o) i) = some (p0, H)) ∧ (∀ H, faI H 3 (atI RelE (lst o) i) = some (p3, H)) ∧ (∀ H, faI H 4 (atI RelE (lst o) i) = some (p4, H)) ∧ (∀ H, loadI H p0 = some (.int .u64 (rAt (lst o) i).At, H)) ∧ (∀ H, loadI H p3 = some (.int .i64 (rAt (lst o) i).Add, H)) ∧ (∀ H, loadI H p4 = some (.bool (rAt (lst o) i).Has, H)) := by
  rw [rAt_lt hi, at_cons hi]
  exact ⟨_, _, _, fun H => faI_iptr, fun H => faI_iptr, fun H => faI_iptr, fun H => rfl, fun H => rfl, fun H => rfl⟩
/-- A row of the same type and symbol is looked over. -/
theorem loop_enc1 {i : Nat} (hi : i < (lst o).length) : ∀ (f k : Nat) (H : Heap) (env : Env), (lst o).length = k + f → i ≤ k → env 0 = slV RelE o → env 1 = .bool rela → env 6 = .pointer (some ⟨1, 0, none⟩) → env 7 = putF → env 10 = .int .i64 i → env 11 = .int .i64 k →
    W T (.loop F_aps_Encodel1) env H fun x e h => h = H ∧ e 0 = slV RelE o ∧ e 1 = .bool rela ∧ e 6 = .pointer (some ⟨1, 0, none⟩) ∧ e 7 = putF ∧ e 8 = env 8 ∧ e 9 = env 9 ∧ e 10 = .int .i64 i ∧
      ((x = .ret ∧ e 4 = .slice none 0 0 ∧ e 5 = .int .i64 140 ∧ (lst o).all (encOkR rela) = false) ∨ (x = .exit 2 ∧ e 11 = .int .i64 (goK (lst o) (keyI (rAt (lst o) i)) f k) ∧ ∀ j, k ≤ j → j < goK (lst o) (keyI (rAt (lst o) i)) f k → encOkR rela (rAt (lst o) j) = true)) := by
  intro f
  induction f with
  | zero =>
    intro k H env hk hik e0 e1 e6 e7 e10 e11
    have q : ¬ ((k : Int) < (lst o).length) := by omega
    rw [w_loop]
    simp only [fws, cond_true, cond_false, if_true, if_false, unV, isNil, optI, iV, stepI, evalR, reduceIte, reduceCtorEq, Nat.reduceEqDiff, Int.reduceLT, Int.reduceLE, Int.reduceToNat, Nat.reduceLT, Nat.reduceLeDiff, Int.reduceEq, Int.reduceNeg, IntKind.bits, Nat.reduceAdd, Nat.reduceMul, Nat.reducePow, Int.reducePow, ini, fwi, F_aps_Encoder0_W, F_aps_Encoder1_W, F_aps_Encoder2_W, F_aps_Encoder3_W, F_aps_Encoder4_W, F_aps_Encoder5_W, F_aps_Encoder6_W, F_aps_Encoder7_W, F_aps_Encoder8_W, F_aps_Encoder9_W, F_aps_Encoder10_W, F_aps_Encoder11_g4, F_aps_Encoder11_W, F_aps_Encoder12_W, F_aps_Encoder12_g7, F_aps_Encoder12_g10, F_aps_Encoder13_W, F_aps_Encoder14_W, F_aps_Encodel1_W, F_aps_Encoder15_W, F_aps_Encoder16_W, F_aps_Encoder17_W, F_aps_Encoder18_W, F_aps_Encoder19_W, F_aps_Encoder20_W, F_aps_Encoder21_W, F_aps_Encoder23_W, F_aps_Encoder24_W, F_aps_Encoder25_W, F_aps_Encoder26_W, F_aps_Encoder27_W, F_aps_Encoder22_W, F_aps_Encodel2_W, F_aps_Encodel0_W, F_aps_Encoder28_W, F_aps_Encodec_W, F_aps_Encoder0_W, F_aps_Encoder1_W, F_aps_Encoder2_W, F_aps_Encoder3_W, F_aps_Encoder4_W, F_aps_Encoder5_W, F_aps_Encoder6_W, F_aps_Encoder7_W, F_aps_Encoder8_W, F_aps_Encoder9_W, F_aps_Encoder10_W, F_aps_Encoder11_g4, F_aps_Encoder11_W, F_aps_Encoder12_W, F_aps_Encoder12_g7, F_aps_Encoder12_g10, F_aps_Encoder13_W, F_aps_Encoder14_W, F_aps_Encodel1_W, F_aps_Encoder15_W, F_aps_Encoder16_W, F_aps_Encoder17_W, F_aps_Encoder18_W, F_aps_Encoder19_W, F_aps_Encoder20_W, F_aps_Encoder21_W, F_aps_Encoder23_W, F_aps_Encoder24_W, F_aps_Encoder25_W, F_aps_Encoder26_W, F_aps_Encoder27_W, F_aps_Encoder22_W, F_aps_Encodel2_W, F_aps_Encodel0_W, F_aps_Encoder28_W, F_aps_Encodec_W, e0, e1, e6, e7, e10, e11, lenI_sl, q]
    exact ⟨trivial, trivial, trivial, trivial, trivial, trivial, trivial, trivial, .inr ⟨trivial, rfl, fun j h1 h2 => by rw [goK] at h2; omega⟩⟩
  | succ f ih =>
    intro k H env hk hik e0 e1 e6 e7 e10 e11
    have hkl : k < (lst o).length := by omega
    have q : ((k : Int) < (lst o).length) := by omega
    obtain ⟨x1, x2, x3⟩ := rel_at h0 h1 h2 o hl hw hkl
    obtain ⟨y1, y2, y3⟩ := rel_at h0 h1 h2 o hl hw hi
    obtain ⟨p0, p3, p4, z0, z3, z4, v0, v3, v4⟩ := rel_fa h0 h1 h2 o hl hw hkl
    have c1 := f_aps_info h2 x3
    have c2 := f_aps_info h2 y3
    have w2 : IntKind.i64.wrap ((k : Int) + 1) = ((k + 1 : Nat) : Int) := by rw [wrapI64 (by omega) (by omega)]; rfl
    have hbad : encOkR rela (rAt (lst o) k) = false → (lst o).all (encOkR rela) = false := fun h => by
      rw [List.all_eq_false]
      exact ⟨(lst o)[k], List.getElem_mem hkl, by rw [rAt_lt hkl] at h; simp [h]⟩
    rw [w_loop, goK]
    by_cases hkey : keyI (rAt (lst o) k) = keyI (rAt (lst o) i)
    · rw [if_pos ⟨hkl, hkey⟩]
      have c1 : FnV T 45 [relA (rAt (lst o) k)] (.int .i64 (keyI (rAt (lst o) i))) := by rw [← hkey]; exact c1
      have fin : encOkR rela (rAt (lst o) k) = true → ∀ env' : Env, env' 0 = slV RelE o → env' 1 = .bool rela → env' 6 = .pointer (some ⟨1, 0, none⟩) → env' 7 = putF → env' 8 = env 8 → env' 9 = env 9 → env' 10 = .int .i64 i → env' 11 = .int .i64 (k + 1 : Nat) → W T (.loop F_aps_Encodel1) env' H fun x e h => h = H ∧ e 0 = slV RelE o ∧ e 1 = .bool rela ∧ e 6 = .pointer (some ⟨1, 0, none⟩) ∧ e 7 = putF ∧ e 8 = env 8 ∧ e 9 = env 9 ∧ e 10 = .int .i64 i ∧
          ((x = .ret ∧ e 4 = .slice none 0 0 ∧ e 5 = .int .i64 140 ∧ (lst o).all (encOkR rela) = false) ∨ (x = .exit 2 ∧ e 11 = .int .i64 (goK (lst o) (keyI (rAt (lst o) i)) f (k + 1)) ∧ ∀ j, k ≤ j → j < goK (lst o) (keyI (rAt (lst o) i)) f (k + 1) → encOkR rela (rAt (lst o) j) = true)) := fun hok env' u0 u1 u6 u7 u8 u9 u10 u11 =>
        W.mono (ih (k + 1) H env' (by omega) (by omega) u0 u1 u6 u7 u10 u11) fun x e h ⟨g1, g2, g3, g4, g5, g6, g7, g8, g9⟩ => ⟨g1, g2, g3, g4, g5, g6.trans u8, g7.trans u9, g8, g9.imp id fun ⟨k1, k2, k3⟩ => ⟨k1, k2, fun j hj1 hj2 => by
          rcases Nat.eq_or_lt_of_le hj1 with hj | hj
          · subst hj; exact hok
          · exact k3 j hj hj2⟩⟩
      rcases hs : rAt (lst o) k with ⟨ra, rb, rc, rd, re⟩
      rw [hs] at v3 v4 hbad fin x2 c1
      cases re <;> cases rela
      · by_cases hd : rd = 0
        · subst hd
          simp only [fws, cond_true, cond_false, if_true, if_false, unV, isNil, optI, iV, stepI, evalR, reduceIte, reduceCtorEq, Nat.reduceEqDiff, Int.reduceLT, Int.reduceLE, Int.reduceToNat, Nat.reduceLT, Nat.reduceLeDiff, Int.reduceEq, Int.reduceNeg, IntKind.bits, Nat.reduceAdd, Nat.reduceMul, Nat.reducePow, Int.reducePow, ini, fwi, F_aps_Encoder0_W, F_aps_Encoder1_W, F_aps_Encoder2_W, F_aps_Encoder3_W, F_aps_Encoder4_W, F_aps_Encoder5_W, F_aps_Encoder6_W, F_aps_Encoder7_W, F_aps_Encoder8_W, F_aps_Encoder9_W, F_aps_Encoder10_W, F_aps_Encoder11_g4, F_aps_Encoder11_W, F_aps_Encoder12_W, F_aps_Encoder12_g7, F_aps_Encoder12_g10, F_aps_Encoder13_W, F_aps_Encoder14_W, F_aps_Encodel1_W, F_aps_Encoder15_W, F_aps_Encoder16_W, F_aps_Encoder17_W, F_aps_Encoder18_W, F_aps_Encoder19_W, F_aps_Encoder20_W, F_aps_Encoder21_W, F_aps_Encoder23_W, F_aps_Encoder24_W, F_aps_Encoder25_W, F_aps_Encoder26_W, F_aps_Encoder27_W, F_aps_Encoder22_W, F_aps_Encodel2_W, F_aps_Encodel0_W, F_aps_Encoder28_W, F_aps_Encodec_W, F_aps_Encoder0_W, F_aps_Encoder1_W, F_aps_Encoder2_W, F_aps_Encoder3_W, F_aps_Encoder4_W, F_aps_Encoder5_W, F_aps_Encoder6_W, F_aps_Encoder7_W, F_aps_Encoder8_W, F_aps_Encoder9_W, F_aps_Encoder10_W, F_aps_Encoder11_g4, F_aps_Encoder11_W, F_aps_Encoder12_W, F_aps_Encoder12_g7, F_aps_Encoder12_g10, F_aps_Encoder13_W, F_aps_Encoder14_W, F_aps_Encodel1_W, F_aps_Encoder15_W, F_aps_Encoder16_W, F_aps_Encoder17_W, F_aps_Encoder18_W, F_aps_Encoder19_W, F_aps_Encoder20_W, F_aps_Encoder21_W, F_aps_Encoder23_W, F_aps_Encoder24_W, F_aps_Encoder25_W, F_aps_Encoder26_W, F_aps_Encoder27_W, F_aps_Encoder22_W, F_aps_Encodel2_W, F_aps_Encodel0_W, F_aps_Encoder28_W, F_aps_Encodec_W, e0, e1, e6, e7, e10, e11, lenI_sl, q, x1, x2, y1, y2, CC_of c1, CC_of c2, z3, z4, v3, v4, w2]
          refine fin rfl _ ?_ ?_ ?_ ?_ ?_ ?_ ?_ ?_
          all_goals (first | assumption | rfl)
        · simp only [fws, cond_true, cond_false, if_true, if_false, unV, isNil, optI, iV, stepI, evalR, reduceIte, reduceCtorEq, Nat.reduceEqDiff, Int.reduceLT, Int.reduceLE, Int.reduceToNat, Nat.reduceLT, Nat.reduceLeDiff, Int.reduceEq, Int.reduceNeg, IntKind.bits, Nat.reduceAdd, Nat.reduceMul, Nat.reducePow, Int.reducePow, ini, fwi, F_aps_Encoder0_W, F_aps_Encoder1_W, F_aps_Encoder2_W, F_aps_Encoder3_W, F_aps_Encoder4_W, F_aps_Encoder5_W, F_aps_Encoder6_W, F_aps_Encoder7_W, F_aps_Encoder8_W, F_aps_Encoder9_W, F_aps_Encoder10_W, F_aps_Encoder11_g4, F_aps_Encoder11_W, F_aps_Encoder12_W, F_aps_Encoder12_g7, F_aps_Encoder12_g10, F_aps_Encoder13_W, F_aps_Encoder14_W, F_aps_Encodel1_W, F_aps_Encoder15_W, F_aps_Encoder16_W, F_aps_Encoder17_W, F_aps_Encoder18_W, F_aps_Encoder19_W, F_aps_Encoder20_W, F_aps_Encoder21_W, F_aps_Encoder23_W, F_aps_Encoder24_W, F_aps_Encoder25_W, F_aps_Encoder26_W, F_aps_Encoder27_W, F_aps_Encoder22_W, F_aps_Encodel2_W, F_aps_Encodel0_W, F_aps_Encoder28_W, F_aps_Encodec_W, F_aps_Encoder0_W, F_aps_Encoder1_W, F_aps_Encoder2_W, F_aps_Encoder3_W, F_aps_Encoder4_W, F_aps_Encoder5_W, F_aps_Encoder6_W, F_aps_Encoder7_W, F_aps_Encoder8_W, F_aps_Encoder9_W, F_aps_Encoder10_W, F_aps_Encoder11_g4, F_aps_Encoder11_W, F_aps_Encoder12_W, F_aps_Encoder12_g7, F_aps_Encoder12_g10, F_aps_Encoder13_W, F_aps_Encoder14_W, F_aps_Encodel1_W, F_aps_Encoder15_W, F_aps_Encoder16_W, F_aps_Encoder17_W, F_aps_Encoder18_W, F_aps_Encoder19_W, F_aps_Encoder20_W, F_aps_Encoder21_W, F_aps_Encoder23_W, F_aps_Encoder24_W, F_aps_Encoder25_W, F_aps_Encoder26_W, F_aps_Encoder27_W, F_aps_Encoder22_W, F_aps_Encodel2_W, F_aps_Encodel0_W, F_aps_Encoder28_W, F_aps_Encodec_W, e0, e1, e6, e7, e10, e11, lenI_sl, q, x1, x2, y1, y2, CC_of c1, CC_of c2, z3, z4, v3, v4, hd]
          exact ⟨trivial, trivial, trivial, trivial, trivial, trivial, trivial, trivial, .inl ⟨trivial, trivial, trivial, hbad (by simp [encOkR, hd])⟩⟩
      · simp only [fws, cond_true, cond_false, if_true, if_false, unV, isNil, optI, iV, stepI, evalR, reduceIte, reduceCtorEq, Nat.reduceEqDiff, Int.reduceLT, Int.reduceLE, Int.reduceToNat, Nat.reduceLT, Nat.reduceLeDiff, Int.reduceEq, Int.reduceNeg, IntKind.bits, Nat.reduceAdd, Nat.reduceMul, Nat.reducePow, Int.reducePow, ini, fwi, F_aps_Encoder0_W, F_aps_Encoder1_W, F_aps_Encoder2_W, F_aps_Encoder3_W, F_aps_Encoder4_W, F_aps_Encoder5_W, F_aps_Encoder6_W, F_aps_Encoder7_W, F_aps_Encoder8_W, F_aps_Encoder9_W, F_aps_Encoder10_W, F_aps_Encoder11_g4, F_aps_Encoder11_W, F_aps_Encoder12_W, F_aps_Encoder12_g7, F_aps_Encoder12_g10, F_aps_Encoder13_W, F_aps_Encoder14_W, F_aps_Encodel1_W, F_aps_Encoder15_W, F_aps_Encoder16_W, F_aps_Encoder17_W, F_aps_Encoder18_W, F_aps_Encoder19_W, F_aps_Encoder20_W, F_aps_Encoder21_W, F_aps_Encoder23_W, F_aps_Encoder24_W, F_aps_Encoder25_W, F_aps_Encoder26_W, F_aps_Encoder27_W, F_aps_Encoder22_W, F_aps_Encodel2_W, F_aps_Encodel0_W, F_aps_Encoder28_W, F_aps_Encodec_W, F_aps_Encoder0_W, F_aps_Encoder1_W, F_aps_Encoder2_W, F_aps_Encoder3_W, F_aps_Encoder4_W, F_aps_Encoder5_W, F_aps_Encoder6_W, F_aps_Encoder7_W, F_aps_Encoder8_W, F_aps_Encoder9_W, F_aps_Encoder10_W, F_aps_Encoder11_g4, F_aps_Encoder11_W, F_aps_Encoder12_W, F_aps_Encoder12_g7, F_aps_Encoder12_g10, F_aps_Encoder13_W, F_aps_Encoder14_W, F_aps_Encodel1_W, F_aps_Encoder15_W, F_aps_Encoder16_W, F_aps_Encoder17_W, F_aps_Encoder18_W, F_aps_Encoder19_W, F_aps_Encoder20_W, F_aps_Encoder21_W, F_aps_Encoder23_W, F_aps_Encoder24_W, F_aps_Encoder25_W, F_aps_Encoder26_W, F_aps_Encoder27_W, F_aps_Encoder22_W, F_aps_Encodel2_W, F_aps_Encodel0_W, F_aps_Encoder28_W, F_aps_Encodec_W, e0, e1, e6, e7, e10, e11, lenI_sl, q, x1, x2, y1, y2, CC_of c1, CC_of c2, z3, z4, v3, v4, bne_ft, bne_tf]
        exact ⟨trivial, trivial, trivial, trivial, trivial, trivial, trivial, trivial, .inl ⟨trivial, trivial, trivial, hbad rfl⟩⟩
      · simp only [fws, cond_true, cond_false, if_true, if_false, unV, isNil, optI, iV, stepI, evalR, reduceIte, reduceCtorEq, Nat.reduceEqDiff, Int.reduceLT, Int.reduceLE, Int.reduceToNat, Nat.reduceLT, Nat.reduceLeDiff, Int.reduceEq, Int.reduceNeg, IntKind.bits, Nat.reduceAdd, Nat.reduceMul, Nat.reducePow, Int.reducePow, ini, fwi, F_aps_Encoder0_W, F_aps_Encoder1_W, F_aps_Encoder2_W, F_aps_Encoder3_W, F_aps_Encoder4_W, F_aps_Encoder5_W, F_aps_Encoder6_W, F_aps_Encoder7_W, F_aps_Encoder8_W, F_aps_Encoder9_W, F_aps_Encoder10_W, F_aps_Encoder11_g4, F_aps_Encoder11_W, F_aps_Encoder12_W, F_aps_Encoder12_g7, F_aps_Encoder12_g10, F_aps_Encoder13_W, F_aps_Encoder14_W, F_aps_Encodel1_W, F_aps_Encoder15_W, F_aps_Encoder16_W, F_aps_Encoder17_W, F_aps_Encoder18_W, F_aps_Encoder19_W, F_aps_Encoder20_W, F_aps_Encoder21_W, F_aps_Encoder23_W, F_aps_Encoder24_W, F_aps_Encoder25_W, F_aps_Encoder26_W, F_aps_Encoder27_W, F_aps_Encoder22_W, F_aps_Encodel2_W, F_aps_Encodel0_W, F_aps_Encoder28_W, F_aps_Encodec_W, F_aps_Encoder0_W, F_aps_Encoder1_W, F_aps_Encoder2_W, F_aps_Encoder3_W, F_aps_Encoder4_W, F_aps_Encoder5_W, F_aps_Encoder6_W, F_aps_Encoder7_W, F_aps_Encoder8_W, F_aps_Encoder9_W, F_aps_Encoder10_W, F_aps_Encoder11_g4, F_aps_Encoder11_W, F_aps_Encoder12_W, F_aps_Encoder12_g7, F_aps_Encoder12_g10, F_aps_Encoder13_W, F_aps_Encoder14_W, F_aps_Encodel1_W, F_aps_Encoder15_W, F_aps_Encoder16_W, F_aps_Encoder17_W, F_aps_Encoder18_W, F_aps_Encoder19_W, F_aps_Encoder20_W, F_aps_Encoder21_W, F_aps_Encoder23_W, F_aps_Encoder24_W, F_aps_Encoder25_W, F_aps_Encoder26_W, F_aps_Encoder27_W, F_aps_Encoder22_W, F_aps_Encodel2_W, F_aps_Encodel0_W, F_aps_Encoder28_W, F_aps_Encodec_W, e0, e1, e6, e7, e10, e11, lenI_sl, q, x1, x2, y1, y2, CC_of c1, CC_of c2, z3, z4, v3, v4, bne_ft, bne_tf]
        exact ⟨trivial, trivial, trivial, trivial, trivial, trivial, trivial, trivial, .inl ⟨trivial, trivial, trivial, hbad rfl⟩⟩
      · simp only [fws, cond_true, cond_false, if_true, if_false, unV, isNil, optI, iV, stepI, evalR, reduceIte, reduceCtorEq, Nat.reduceEqDiff, Int.reduceLT, Int.reduceLE, Int.reduceToNat, Nat.reduceLT, Nat.reduceLeDiff, Int.reduceEq, Int.reduceNeg, IntKind.bits, Nat.reduceAdd, Nat.reduceMul, Nat.reducePow, Int.reducePow, ini, fwi, F_aps_Encoder0_W, F_aps_Encoder1_W, F_aps_Encoder2_W, F_aps_Encoder3_W, F_aps_Encoder4_W, F_aps_Encoder5_W, F_aps_Encoder6_W, F_aps_Encoder7_W, F_aps_Encoder8_W, F_aps_Encoder9_W, F_aps_Encoder10_W, F_aps_Encoder11_g4, F_aps_Encoder11_W, F_aps_Encoder12_W, F_aps_Encoder12_g7, F_aps_Encoder12_g10, F_aps_Encoder13_W, F_aps_Encoder14_W, F_aps_Encodel1_W, F_aps_Encoder15_W, F_aps_Encoder16_W, F_aps_Encoder17_W, F_aps_Encoder18_W, F_aps_Encoder19_W, F_aps_Encoder20_W, F_aps_Encoder21_W, F_aps_Encoder23_W, F_aps_Encoder24_W, F_aps_Encoder25_W, F_aps_Encoder26_W, F_aps_Encoder27_W, F_aps_Encoder22_W, F_aps_Encodel2_W, F_aps_Encodel0_W, F_aps_Encoder28_W, F_aps_Encodec_W, F_aps_Encoder0_W, F_aps_Encoder1_W, F_aps_Encoder2_W, F_aps_Encoder3_W, F_aps_Encoder4_W, F_aps_Encoder5_W, F_aps_Encoder6_W, F_aps_Encoder7_W, F_aps_Encoder8_W, F_aps_Encoder9_W, F_aps_Encoder10_W, F_aps_Encoder11_g4, F_aps_Encoder11_W, F_aps_Encoder12_W, F_aps_Encoder12_g7, F_aps_Encoder12_g10, F_aps_Encoder13_W, F_aps_Encoder14_W, F_aps_Encodel1_W, F_aps_Encoder15_W, F_aps_Encoder16_W, F_aps_Encoder17_W, F_aps_Encoder18_W, F_aps_Encoder19_W, F_aps_Encoder20_W, F_aps_Encoder21_W, F_aps_Encoder23_W, F_aps_Encoder24_W, F_aps_Encoder25_W, F_aps_Encoder26_W, F_aps_Encoder27_W, F_aps_Encoder22_W, F_aps_Encodel2_W, F_aps_Encodel0_W, F_aps_Encoder28_W, F_aps_Encodec_W, e0, e1, e6, e7, e10, e11, lenI_sl, q, x1, x2, y1, y2, CC_of c1, CC_of c2, z3, z4, v3, v4, w2]
        refine fin rfl _ ?_ ?_ ?_ ?_ ?_ ?_ ?_ ?_
        all_goals (first | assumption | rfl)
    · rw [if_neg (fun h => hkey h.2)]
      simp only [fws, cond_true, cond_false, if_true, if_false, unV, isNil, optI, iV, stepI, evalR, reduceIte, reduceCtorEq, Nat.reduceEqDiff, Int.reduceLT, Int.reduceLE, Int.reduceToNat, Nat.reduceLT, Nat.reduceLeDiff, Int.reduceEq, Int.reduceNeg, IntKind.bits, Nat.reduceAdd, Nat.reduceMul, Nat.reducePow, Int.reducePow, ini, fwi, F_aps_Encoder0_W, F_aps_Encoder1_W, F_aps_Encoder2_W, F_aps_Encoder3_W, F_aps_Encoder4_W, F_aps_Encoder5_W, F_aps_Encoder6_W, F_aps_Encoder7_W, F_aps_Encoder8_W, F_aps_Encoder9_W, F_aps_Encoder10_W, F_aps_Encoder11_g4, F_aps_Encoder11_W, F_aps_Encoder12_W, F_aps_Encoder12_g7, F_aps_Encoder12_g10, F_aps_Encoder13_W, F_aps_Encoder14_W, F_aps_Encodel1_W, F_aps_Encoder15_W, F_aps_Encoder16_W, F_aps_Encoder17_W, F_aps_Encoder18_W, F_aps_Encoder19_W, F_aps_Encoder20_W, F_aps_Encoder21_W, F_aps_Encoder23_W, F_aps_Encoder24_W, F_aps_Encoder25_W, F_aps_Encoder26_W, F_aps_Encoder27_W, F_aps_Encoder22_W, F_aps_Encodel2_W, F_aps_Encodel0_W, F_aps_Encoder28_W, F_aps_Encodec_W, F_aps_Encoder0_W, F_aps_Encoder1_W, F_aps_Encoder2_W, F_aps_Encoder3_W, F_aps_Encoder4_W, F_aps_Encoder5_W, F_aps_Encoder6_W, F_aps_Encoder7_W, F_aps_Encoder8_W, F_aps_Encoder9_W, F_aps_Encoder10_W, F_aps_Encoder11_g4, F_aps_Encoder11_W, F_aps_Encoder12_W, F_aps_Encoder12_g7, F_aps_Encoder12_g10, F_aps_Encoder13_W, F_aps_Encoder14_W, F_aps_Encodel1_W, F_aps_Encoder15_W, F_aps_Encoder16_W, F_aps_Encoder17_W, F_aps_Encoder18_W, F_aps_Encoder19_W, F_aps_Encoder20_W, F_aps_Encoder21_W, F_aps_Encoder23_W, F_aps_Encoder24_W, F_aps_Encoder25_W, F_aps_Encoder26_W, F_aps_Encoder27_W, F_aps_Encoder22_W, F_aps_Encodel2_W, F_aps_Encodel0_W, F_aps_Encoder28_W, F_aps_Encodec_W, e0, e1, e6, e7, e10, e11, lenI_sl, q, x1, x2, y1, y2, CC_of c1, CC_of c2, hkey]
      exact ⟨trivial, trivial, trivial, trivial, trivial, trivial, trivial, trivial, .inr ⟨trivial, trivial, fun j hj1 hj2 => by omega⟩⟩
theorem mulp {a b : Nat} (h : a ≤ b) : a * 100 ≤ b * 100 := Nat.mul_le_mul_right _ h
/-- Its members are written. -/
theorem loop_enc2 {i k : Nat} (hk : k ≤ (lst o).length) (L : Nat → List Int) (hL : ∀ j, i ≤ j → j < k → L (j + 1) = L j ++ elL rela (lst o) j) : ∀ (m j : Nat) (H : Heap) (u : Value) (env : Env), j + m = k → i ≤ j → (putL (L j)).length + 20 * m ≤ 100000 → OB H u (mark ++ putL (L j)) → env 0 = slV RelE o → env 1 = .bool rela → env 6 = .pointer (some ⟨1, 0, none⟩) → env 7 = putF → env 8 = .int .u64 (pvAt (lst o) j) → env 9 = .int .i64 (if rela then pvAdd (lst o) j else 0) → env 10 = .int .i64 j → env 11 = .int .i64 k →
    W T (.loop F_aps_Encodel2) env H fun x e h => x = .exit 4 ∧ e 0 = slV RelE o ∧ e 1 = .bool rela ∧ e 6 = .pointer (some ⟨1, 0, none⟩) ∧ e 7 = putF ∧ e 8 = .int .u64 (pvAt (lst o) k) ∧ e 9 = .int .i64 (if rela then pvAdd (lst o) k else 0) ∧ e 10 = .int .i64 k ∧ ∃ u', OB h u' (mark ++ putL (L k)) := by
  intro m
  induction m with
  | zero =>
    intro j H u env hj hij hlen t e0 e1 e6 e7 e8 e9 e10 e11
    have : j = k := by omega
    subst this
    have q : ¬ ((j : Int) < j) := by omega
    rw [w_loop]
    simp only [fws, cond_true, cond_false, if_true, if_false, unV, isNil, optI, iV, stepI, evalR, reduceIte, reduceCtorEq, Nat.reduceEqDiff, Int.reduceLT, Int.reduceLE, Int.reduceToNat, Nat.reduceLT, Nat.reduceLeDiff, Int.reduceEq, Int.reduceNeg, IntKind.bits, Nat.reduceAdd, Nat.reduceMul, Nat.reducePow, Int.reducePow, ini, fwi, F_aps_Encoder0_W, F_aps_Encoder1_W, F_aps_Encoder2_W, F_aps_Encoder3_W, F_aps_Encoder4_W, F_aps_Encoder5_W, F_aps_Encoder6_W, F_aps_Encoder7_W, F_aps_Encoder8_W, F_aps_Encoder9_W, F_aps_Encoder10_W, F_aps_Encoder11_g4, F_aps_Encoder11_W, F_aps_Encoder12_W, F_aps_Encoder12_g7, F_aps_Encoder12_g10, F_aps_Encoder13_W, F_aps_Encoder14_W, F_aps_Encodel1_W, F_aps_Encoder15_W, F_aps_Encoder16_W, F_aps_Encoder17_W, F_aps_Encoder18_W, F_aps_Encoder19_W, F_aps_Encoder20_W, F_aps_Encoder21_W, F_aps_Encoder23_W, F_aps_Encoder24_W, F_aps_Encoder25_W, F_aps_Encoder26_W, F_aps_Encoder27_W, F_aps_Encoder22_W, F_aps_Encodel2_W, F_aps_Encodel0_W, F_aps_Encoder28_W, F_aps_Encodec_W, F_aps_Encoder0_W, F_aps_Encoder1_W, F_aps_Encoder2_W, F_aps_Encoder3_W, F_aps_Encoder4_W, F_aps_Encoder5_W, F_aps_Encoder6_W, F_aps_Encoder7_W, F_aps_Encoder8_W, F_aps_Encoder9_W, F_aps_Encoder10_W, F_aps_Encoder11_g4, F_aps_Encoder11_W, F_aps_Encoder12_W, F_aps_Encoder12_g7, F_aps_Encoder12_g10, F_aps_Encoder13_W, F_aps_Encoder14_W, F_aps_Encodel1_W, F_aps_Encoder15_W, F_aps_Encoder16_W, F_aps_Encoder17_W, F_aps_Encoder18_W, F_aps_Encoder19_W, F_aps_Encoder20_W, F_aps_Encoder21_W, F_aps_Encoder23_W, F_aps_Encoder24_W, F_aps_Encoder25_W, F_aps_Encoder26_W, F_aps_Encoder27_W, F_aps_Encoder22_W, F_aps_Encodel2_W, F_aps_Encodel0_W, F_aps_Encoder28_W, F_aps_Encodec_W, e0, e1, e6, e7, e8, e9, e10, e11, q]
    exact ⟨trivial, trivial, trivial, trivial, trivial, trivial, trivial, trivial, u, t⟩
  | succ m ih =>
    intro j H u env hj hij hlen t e0 e1 e6 e7 e8 e9 e10 e11
    have hjk : j < k := by omega
    have hjl : j < (lst o).length := by omega
    have q : ((j : Int) < k) := by omega
    obtain ⟨x1, x2, x3⟩ := rel_at h0 h1 h2 o hl hw hjl
    obtain ⟨p0, p3, p4, z0, z3, z4, v0, v3, v4⟩ := rel_fa h0 h1 h2 o hl hw hjl
    have w2 : IntKind.i64.wrap ((j : Int) + 1) = ((j + 1 : Nat) : Int) := by rw [wrapI64 (by omega) (by omega)]; rfl
    have hpv : pvAt (lst o) (j + 1) = (rAt (lst o) j).At := by unfold pvAt; rw [if_neg (by omega), Nat.add_sub_cancel]
    have hpd : pvAdd (lst o) (j + 1) = (rAt (lst o) j).Add := by unfold pvAdd; rw [if_neg (by omega), Nat.add_sub_cancel]
    have hLj := hL j hij hjk
    have n1 := i64_is (IntKind.u64.wrap ((rAt (lst o) j).At - pvAt (lst o) j))
    have c1 := ev_put1 h0 h1 t (by rw [List.length_append]; have : mark.length = 4 := rfl; omega) n1
    have pl1 := putS_len10 (IntKind.i64.wrap (IntKind.u64.wrap ((rAt (lst o) j).At - pvAt (lst o) j)))
    rw [w_loop]
    simp only [fws, cond_true, cond_false, if_true, if_false, unV, isNil, optI, iV, stepI, evalR, reduceIte, reduceCtorEq, Nat.reduceEqDiff, Int.reduceLT, Int.reduceLE, Int.reduceToNat, Nat.reduceLT, Nat.reduceLeDiff, Int.reduceEq, Int.reduceNeg, IntKind.bits, Nat.reduceAdd, Nat.reduceMul, Nat.reducePow, Int.reducePow, ini, fwi, F_aps_Encoder0_W, F_aps_Encoder1_W, F_aps_Encoder2_W, F_aps_Encoder3_W, F_aps_Encoder4_W, F_aps_Encoder5_W, F_aps_Encoder6_W, F_aps_Encoder7_W, F_aps_Encoder8_W, F_aps_Encoder9_W, F_aps_Encoder10_W, F_aps_Encoder11_g4, F_aps_Encoder11_W, F_aps_Encoder12_W, F_aps_Encoder12_g7, F_aps_Encoder12_g10, F_aps_Encoder13_W, F_aps_Encoder14_W, F_aps_Encodel1_W, F_aps_Encoder15_W, F_aps_Encoder16_W, F_aps_Encoder17_W, F_aps_Encoder18_W, F_aps_Encoder19_W, F_aps_Encoder20_W, F_aps_Encoder21_W, F_aps_Encoder23_W, F_aps_Encoder25_W, F_aps_Encoder26_W, F_aps_Encoder27_W, F_aps_Encoder22_W, F_aps_Encodel2_W, F_aps_Encodel0_W, F_aps_Encoder28_W, F_aps_Encodec_W, F_aps_Encoder0_W, F_aps_Encoder1_W, F_aps_Encoder2_W, F_aps_Encoder3_W, F_aps_Encoder4_W, F_aps_Encoder5_W, F_aps_Encoder6_W, F_aps_Encoder7_W, F_aps_Encoder8_W, F_aps_Encoder9_W, F_aps_Encoder10_W, F_aps_Encoder11_g4, F_aps_Encoder11_W, F_aps_Encoder12_W, F_aps_Encoder12_g7, F_aps_Encoder12_g10, F_aps_Encoder13_W, F_aps_Encoder14_W, F_aps_Encodel1_W, F_aps_Encoder15_W, F_aps_Encoder16_W, F_aps_Encoder17_W, F_aps_Encoder18_W, F_aps_Encoder19_W, F_aps_Encoder20_W, F_aps_Encoder21_W, F_aps_Encoder23_W, F_aps_Encoder25_W, F_aps_Encoder26_W, F_aps_Encoder27_W, F_aps_Encoder22_W, F_aps_Encodel2_W, F_aps_Encodel0_W, F_aps_Encoder28_W, F_aps_Encodec_W, e0, e1, e6, e7, e8, e9, e10, e11, q, x1, z0, v0]
    rw [WR_callv (first := #[]) (captured := #[.pointer (some ⟨1, 0, none⟩)]) rfl]
    refine Ev.mono (show Ev T 44 [.int .i64 (IntKind.i64.wrap (IntKind.u64.wrap ((rAt (lst o) j).At - pvAt (lst o) j))), .pointer (some ⟨1, 0, none⟩)] H _ from c1) fun v h ⟨_, u1, t1⟩ => ?_
    simp only [fws, cond_true, cond_false, if_true, if_false, unV, isNil, optI, iV, stepI, evalR, reduceIte, reduceCtorEq, Nat.reduceEqDiff, Int.reduceLT, Int.reduceLE, Int.reduceToNat, Nat.reduceLT, Nat.reduceLeDiff, Int.reduceEq, Int.reduceNeg, IntKind.bits, Nat.reduceAdd, Nat.reduceMul, Nat.reducePow, Int.reducePow, ini, fwi, F_aps_Encoder0_W, F_aps_Encoder1_W, F_aps_Encoder2_W, F_aps_Encoder3_W, F_aps_Encoder4_W, F_aps_Encoder5_W, F_aps_Encoder6_W, F_aps_Encoder7_W, F_aps_Encoder8_W, F_aps_Encoder9_W, F_aps_Encoder10_W, F_aps_Encoder11_g4, F_aps_Encoder11_W, F_aps_Encoder12_W, F_aps_Encoder12_g7, F_aps_Encoder12_g10, F_aps_Encoder13_W, F_aps_Encoder14_W, F_aps_Encodel1_W, F_aps_Encoder15_W, F_aps_Encoder16_W, F_aps_Encoder17_W, F_aps_Encoder18_W, F_aps_Encoder19_W, F_aps_Encoder20_W, F_aps_Encoder21_W, F_aps_Encoder23_W, F_aps_Encoder24_W, F_aps_Encoder25_W, F_aps_Encoder26_W, F_aps_Encoder27_W, F_aps_Encoder22_W, F_aps_Encodel2_W, F_aps_Encodel0_W, F_aps_Encoder28_W, F_aps_Encodec_W, F_aps_Encoder0_W, F_aps_Encoder1_W, F_aps_Encoder2_W, F_aps_Encoder3_W, F_aps_Encoder4_W, F_aps_Encoder5_W, F_aps_Encoder6_W, F_aps_Encoder7_W, F_aps_Encoder8_W, F_aps_Encoder9_W, F_aps_Encoder10_W, F_aps_Encoder11_g4, F_aps_Encoder11_W, F_aps_Encoder12_W, F_aps_Encoder12_g7, F_aps_Encoder12_g10, F_aps_Encoder13_W, F_aps_Encoder14_W, F_aps_Encodel1_W, F_aps_Encoder15_W, F_aps_Encoder16_W, F_aps_Encoder17_W, F_aps_Encoder18_W, F_aps_Encoder19_W, F_aps_Encoder20_W, F_aps_Encoder21_W, F_aps_Encoder23_W, F_aps_Encoder24_W, F_aps_Encoder25_W, F_aps_Encoder26_W, F_aps_Encoder27_W, F_aps_Encoder22_W, F_aps_Encodel2_W, F_aps_Encodel0_W, F_aps_Encoder28_W, F_aps_Encodec_W, e0, e1, e6, e7, e8, e9, e10, e11, x1, z0, v0]
    cases hr : rela with
    | false =>
      subst hr
      have hel : putL (L (j + 1)) = putL (L j) ++ putS 10 (IntKind.i64.wrap (IntKind.u64.wrap ((rAt (lst o) j).At - pvAt (lst o) j))) := by
        rw [hLj, putL_app]
        unfold elL
        rw [if_neg (by decide), List.append_nil, putL_one]
      simp only [fws, cond_true, cond_false, if_true, if_false, unV, isNil, optI, iV, stepI, evalR, reduceIte, reduceCtorEq, Nat.reduceEqDiff, Int.reduceLT, Int.reduceLE, Int.reduceToNat, Nat.reduceLT, Nat.reduceLeDiff, Int.reduceEq, Int.reduceNeg, IntKind.bits, Nat.reduceAdd, Nat.reduceMul, Nat.reducePow, Int.reducePow, ini, fwi, F_aps_Encoder0_W, F_aps_Encoder1_W, F_aps_Encoder2_W, F_aps_Encoder3_W, F_aps_Encoder4_W, F_aps_Encoder5_W, F_aps_Encoder6_W, F_aps_Encoder7_W, F_aps_Encoder8_W, F_aps_Encoder9_W, F_aps_Encoder10_W, F_aps_Encoder11_g4, F_aps_Encoder11_W, F_aps_Encoder12_W, F_aps_Encoder12_g7, F_aps_Encoder12_g10, F_aps_Encoder13_W, F_aps_Encoder14_W, F_aps_Encodel1_W, F_aps_Encoder15_W, F_aps_Encoder16_W, F_aps_Encoder17_W, F_aps_Encoder18_W, F_aps_Encoder19_W, F_aps_Encoder20_W, F_aps_Encoder21_W, F_aps_Encoder23_W, F_aps_Encoder24_W, F_aps_Encoder25_W, F_aps_Encoder26_W, F_aps_Encoder27_W, F_aps_Encoder22_W, F_aps_Encodel2_W, F_aps_Encodel0_W, F_aps_Encoder28_W, F_aps_Encodec_W, F_aps_Encoder0_W, F_aps_Encoder1_W, F_aps_Encoder2_W, F_aps_Encoder3_W, F_aps_Encoder4_W, F_aps_Encoder5_W, F_aps_Encoder6_W, F_aps_Encoder7_W, F_aps_Encoder8_W, F_aps_Encoder9_W, F_aps_Encoder10_W, F_aps_Encoder11_g4, F_aps_Encoder11_W, F_aps_Encoder12_W, F_aps_Encoder12_g7, F_aps_Encoder12_g10, F_aps_Encoder13_W, F_aps_Encoder14_W, F_aps_Encodel1_W, F_aps_Encoder15_W, F_aps_Encoder16_W, F_aps_Encoder17_W, F_aps_Encoder18_W, F_aps_Encoder19_W, F_aps_Encoder20_W, F_aps_Encoder21_W, F_aps_Encoder23_W, F_aps_Encoder24_W, F_aps_Encoder25_W, F_aps_Encoder26_W, F_aps_Encoder27_W, F_aps_Encoder22_W, F_aps_Encodel2_W, F_aps_Encodel0_W, F_aps_Encoder28_W, F_aps_Encodec_W, e10, w2]
      refine ih (j + 1) h u1 _ (by omega) (by omega) (by rw [hel, List.length_append]; omega) (by rw [hel, ← List.append_assoc]; exact t1) ?_ ?_ ?_ ?_ ?_ ?_ ?_ ?_
      · (first | assumption | rfl)
      · (first | assumption | rfl)
      · (first | assumption | rfl)
      · (first | assumption | rfl)
      · rw [hpv]; rfl
      · (first | assumption | rfl)
      · (first | assumption | rfl)
      · (first | assumption | rfl)
    | true =>
      subst hr
      have hel : putL (L (j + 1)) = putL (L j) ++ putS 10 (IntKind.i64.wrap (IntKind.u64.wrap ((rAt (lst o) j).At - pvAt (lst o) j))) ++ putS 10 (IntKind.i64.wrap ((rAt (lst o) j).Add - pvAdd (lst o) j)) := by
        rw [hLj, putL_app]
        unfold elL
        rw [if_pos rfl, putL_app, putL_one, putL_one, List.append_assoc]
      have e9 : env 9 = .int .i64 (pvAdd (lst o) j) := e9
      have n2 := i64_is ((rAt (lst o) j).Add - pvAdd (lst o) j)
      have pl2 := putS_len10 (IntKind.i64.wrap ((rAt (lst o) j).Add - pvAdd (lst o) j))
      have c2 := ev_put1 h0 h1 t1 (by simp only [List.length_append]; have : mark.length = 4 := rfl; omega) n2
      simp only [fws, cond_true, cond_false, if_true, if_false, unV, isNil, optI, iV, stepI, evalR, reduceIte, reduceCtorEq, Nat.reduceEqDiff, Int.reduceLT, Int.reduceLE, Int.reduceToNat, Nat.reduceLT, Nat.reduceLeDiff, Int.reduceEq, Int.reduceNeg, IntKind.bits, Nat.reduceAdd, Nat.reduceMul, Nat.reducePow, Int.reducePow, ini, fwi, F_aps_Encoder0_W, F_aps_Encoder1_W, F_aps_Encoder2_W, F_aps_Encoder3_W, F_aps_Encoder4_W, F_aps_Encoder5_W, F_aps_Encoder6_W, F_aps_Encoder7_W, F_aps_Encoder8_W, F_aps_Encoder9_W, F_aps_Encoder10_W, F_aps_Encoder11_g4, F_aps_Encoder11_W, F_aps_Encoder12_W, F_aps_Encoder12_g7, F_aps_Encoder12_g10, F_aps_Encoder13_W, F_aps_Encoder14_W, F_aps_Encodel1_W, F_aps_Encoder15_W, F_aps_Encoder16_W, F_aps_Encoder17_W, F_aps_Encoder18_W, F_aps_Encoder19_W, F_aps_Encoder20_W, F_aps_Encoder21_W, F_aps_Encoder23_W, F_aps_Encoder24_W, F_aps_Encoder25_W, F_aps_Encoder26_W, F_aps_Encoder22_W, F_aps_Encodel2_W, F_aps_Encodel0_W, F_aps_Encoder28_W, F_aps_Encodec_W, F_aps_Encoder0_W, F_aps_Encoder1_W, F_aps_Encoder2_W, F_aps_Encoder3_W, F_aps_Encoder4_W, F_aps_Encoder5_W, F_aps_Encoder6_W, F_aps_Encoder7_W, F_aps_Encoder8_W, F_aps_Encoder9_W, F_aps_Encoder10_W, F_aps_Encoder11_g4, F_aps_Encoder11_W, F_aps_Encoder12_W, F_aps_Encoder12_g7, F_aps_Encoder12_g10, F_aps_Encoder13_W, F_aps_Encoder14_W, F_aps_Encodel1_W, F_aps_Encoder15_W, F_aps_Encoder16_W, F_aps_Encoder17_W, F_aps_Encoder18_W, F_aps_Encoder19_W, F_aps_Encoder20_W, F_aps_Encoder21_W, F_aps_Encoder23_W, F_aps_Encoder24_W, F_aps_Encoder25_W, F_aps_Encoder26_W, F_aps_Encoder22_W, F_aps_Encodel2_W, F_aps_Encodel0_W, F_aps_Encoder28_W, F_aps_Encodec_W, e0, e1, e6, e7, e9, e10, x1, z3, v3]
      rw [WR_callv (first := #[]) (captured := #[.pointer (some ⟨1, 0, none⟩)]) rfl]
      refine Ev.mono (show Ev T 44 [.int .i64 (IntKind.i64.wrap ((rAt (lst o) j).Add - pvAdd (lst o) j)), .pointer (some ⟨1, 0, none⟩)] h _ from c2) fun v h' ⟨_, u2, t2⟩ => ?_
      simp only [fws, cond_true, cond_false, if_true, if_false, unV, isNil, optI, iV, stepI, evalR, reduceIte, reduceCtorEq, Nat.reduceEqDiff, Int.reduceLT, Int.reduceLE, Int.reduceToNat, Nat.reduceLT, Nat.reduceLeDiff, Int.reduceEq, Int.reduceNeg, IntKind.bits, Nat.reduceAdd, Nat.reduceMul, Nat.reducePow, Int.reducePow, ini, fwi, F_aps_Encoder0_W, F_aps_Encoder1_W, F_aps_Encoder2_W, F_aps_Encoder3_W, F_aps_Encoder4_W, F_aps_Encoder5_W, F_aps_Encoder6_W, F_aps_Encoder7_W, F_aps_Encoder8_W, F_aps_Encoder9_W, F_aps_Encoder10_W, F_aps_Encoder11_g4, F_aps_Encoder11_W, F_aps_Encoder12_W, F_aps_Encoder12_g7, F_aps_Encoder12_g10, F_aps_Encoder13_W, F_aps_Encoder14_W, F_aps_Encodel1_W, F_aps_Encoder15_W, F_aps_Encoder16_W, F_aps_Encoder17_W, F_aps_Encoder18_W, F_aps_Encoder19_W, F_aps_Encoder20_W, F_aps_Encoder21_W, F_aps_Encoder23_W, F_aps_Encoder24_W, F_aps_Encoder25_W, F_aps_Encoder26_W, F_aps_Encoder27_W, F_aps_Encoder22_W, F_aps_Encodel2_W, F_aps_Encodel0_W, F_aps_Encoder28_W, F_aps_Encodec_W, F_aps_Encoder0_W, F_aps_Encoder1_W, F_aps_Encoder2_W, F_aps_Encoder3_W, F_aps_Encoder4_W, F_aps_Encoder5_W, F_aps_Encoder6_W, F_aps_Encoder7_W, F_aps_Encoder8_W, F_aps_Encoder9_W, F_aps_Encoder10_W, F_aps_Encoder11_g4, F_aps_Encoder11_W, F_aps_Encoder12_W, F_aps_Encoder12_g7, F_aps_Encoder12_g10, F_aps_Encoder13_W, F_aps_Encoder14_W, F_aps_Encodel1_W, F_aps_Encoder15_W, F_aps_Encoder16_W, F_aps_Encoder17_W, F_aps_Encoder18_W, F_aps_Encoder19_W, F_aps_Encoder20_W, F_aps_Encoder21_W, F_aps_Encoder23_W, F_aps_Encoder24_W, F_aps_Encoder25_W, F_aps_Encoder26_W, F_aps_Encoder27_W, F_aps_Encoder22_W, F_aps_Encodel2_W, F_aps_Encodel0_W, F_aps_Encoder28_W, F_aps_Encodec_W, e0, e1, e6, e7, e9, e10, x1, z3, v3, w2]
      refine ih (j + 1) h' u2 _ (by omega) (by omega) (by rw [hel]; simp only [List.length_append]; omega) (by rw [hel, ← List.append_assoc, ← List.append_assoc]; exact t2) ?_ ?_ ?_ ?_ ?_ ?_ ?_ ?_
      · (first | assumption | rfl)
      · (first | assumption | rfl)
      · (first | assumption | rfl)
      · (first | assumption | rfl)
      · rw [hpv]; rfl
      · rw [hpd]; rfl
      · (first | assumption | rfl)
      · (first | assumption | rfl)
theorem loop_enc0 : ∀ (n i : Nat) (H : Heap) (u : Value) (env : Env), (lst o).length ≤ i + n → i ≤ (lst o).length → (i < (lst o).length → isHd (lst o) i = true) → (∀ j, j < i → encOkR rela (rAt (lst o) j) = true) → OB H u (mark ++ putL (numsE rela (lst o) i)) → env 0 = slV RelE o → env 1 = .bool rela → env 6 = .pointer (some ⟨1, 0, none⟩) → env 7 = putF → env 8 = .int .u64 (pvAt (lst o) i) → env 9 = .int .i64 (if rela then pvAdd (lst o) i else 0) → env 10 = .int .i64 i →
    W T (.loop F_aps_Encodel0) env H fun x e h => (x = .ret ∧ e 4 = .slice none 0 0 ∧ e 5 = .int .i64 140 ∧ (lst o).all (encOkR rela) = false) ∨ (x = .exit 0 ∧ e 6 = .pointer (some ⟨1, 0, none⟩) ∧ (lst o).all (encOkR rela) = true ∧ ∃ u, OB h u (mark ++ putL (numsE rela (lst o) (lst o).length))) := by
  have done : ∀ (i : Nat) (H : Heap) (u : Value) (env : Env), i = (lst o).length → (∀ j, j < i → encOkR rela (rAt (lst o) j) = true) → OB H u (mark ++ putL (numsE rela (lst o) i)) → env 0 = slV RelE o → env 6 = .pointer (some ⟨1, 0, none⟩) → env 10 = .int .i64 i →
      W T (.loop F_aps_Encodel0) env H fun x e h => (x = .ret ∧ e 4 = .slice none 0 0 ∧ e 5 = .int .i64 140 ∧ (lst o).all (encOkR rela) = false) ∨ (x = .exit 0 ∧ e 6 = .pointer (some ⟨1, 0, none⟩) ∧ (lst o).all (encOkR rela) = true ∧ ∃ u, OB h u (mark ++ putL (numsE rela (lst o) (lst o).length))) := by
    intro i H u env hi hok t e0 e6 e10
    subst hi
    have q : ¬ (((lst o).length : Int) < (lst o).length) := by omega
    have hall : (lst o).all (encOkR rela) = true := by
      rw [List.all_eq_true]
      intro r hr
      obtain ⟨j, hj, rfl⟩ := List.mem_iff_getElem.1 hr
      rw [← rAt_lt hj]; exact hok j hj
    rw [w_loop]
    simp only [fws, cond_true, cond_false, if_true, if_false, unV, isNil, optI, iV, stepI, evalR, reduceIte, reduceCtorEq, Nat.reduceEqDiff, Int.reduceLT, Int.reduceLE, Int.reduceToNat, Nat.reduceLT, Nat.reduceLeDiff, Int.reduceEq, Int.reduceNeg, IntKind.bits, Nat.reduceAdd, Nat.reduceMul, Nat.reducePow, Int.reducePow, ini, fwi, F_aps_Encoder0_W, F_aps_Encoder1_W, F_aps_Encoder2_W, F_aps_Encoder3_W, F_aps_Encoder4_W, F_aps_Encoder5_W, F_aps_Encoder6_W, F_aps_Encoder7_W, F_aps_Encoder8_W, F_aps_Encoder9_W, F_aps_Encoder10_W, F_aps_Encoder11_g4, F_aps_Encoder11_W, F_aps_Encoder12_W, F_aps_Encoder12_g7, F_aps_Encoder12_g10, F_aps_Encoder13_W, F_aps_Encoder14_W, F_aps_Encodel1_W, F_aps_Encoder15_W, F_aps_Encoder16_W, F_aps_Encoder17_W, F_aps_Encoder18_W, F_aps_Encoder19_W, F_aps_Encoder20_W, F_aps_Encoder21_W, F_aps_Encoder23_W, F_aps_Encoder24_W, F_aps_Encoder25_W, F_aps_Encoder26_W, F_aps_Encoder27_W, F_aps_Encoder22_W, F_aps_Encodel2_W, F_aps_Encodel0_W, F_aps_Encoder28_W, F_aps_Encodec_W, F_aps_Encoder0_W, F_aps_Encoder1_W, F_aps_Encoder2_W, F_aps_Encoder3_W, F_aps_Encoder4_W, F_aps_Encoder5_W, F_aps_Encoder6_W, F_aps_Encoder7_W, F_aps_Encoder8_W, F_aps_Encoder9_W, F_aps_Encoder10_W, F_aps_Encoder11_g4, F_aps_Encoder11_W, F_aps_Encoder12_W, F_aps_Encoder12_g7, F_aps_Encoder12_g10, F_aps_Encoder13_W, F_aps_Encoder14_W, F_aps_Encodel1_W, F_aps_Encoder15_W, F_aps_Encoder16_W, F_aps_Encoder17_W, F_aps_Encoder18_W, F_aps_Encoder19_W, F_aps_Encoder20_W, F_aps_Encoder21_W, F_aps_Encoder23_W, F_aps_Encoder24_W, F_aps_Encoder25_W, F_aps_Encoder26_W, F_aps_Encoder27_W, F_aps_Encoder22_W, F_aps_Encodel2_W, F_aps_Encodel0_W, F_aps_Encoder28_W, F_aps_Encodec_W, e0, e6, e10, lenI_sl, q]
    exact .inr ⟨trivial, trivial, hall, u, t⟩
  intro n
  induction n with
  | zero =>
    intro i H u env hn hi hh hok t e0 e1 e6 e7 e8 e9 e10
    exact done i H u env (by omega) hok t e0 e6 e10
  | succ n ih =>
    intro i H u env hn hi hh hok t e0 e1 e6 e7 e8 e9 e10
    rcases Nat.eq_or_lt_of_le hi with hil | hil
    · exact done i H u env hil hok t e0 e6 e10
    have q : ((i : Int) < (lst o).length) := by omega
    obtain ⟨x1, x2, x3⟩ := rel_at h0 h1 h2 o hl hw hil
    have c0 := f_aps_info h2 x3
    have hd := hh hil
    have hk1 := runK_gt hil
    have hk2 : runK (lst o) i ≤ (lst o).length := goK_le _ _ hi
    have hkin : ∀ j, i ≤ j → j < runK (lst o) i → keyI (rAt (lst o) j) = keyI (rAt (lst o) i) := fun j h1 h2 => goK_in _ _ j h1 h2
    have hkout : runK (lst o) i < (lst o).length → keyI (rAt (lst o) (runK (lst o) i)) ≠ keyI (rAt (lst o) i) := fun h => goK_out _ _ (by omega) h
    have hlen := numsE_len rela (lst o) i
    have hm4 : mark.length = 4 := rfl
    rw [w_loop]
    simp only [fws, cond_true, cond_false, if_true, if_false, unV, isNil, optI, iV, stepI, evalR, reduceIte, reduceCtorEq, Nat.reduceEqDiff, Int.reduceLT, Int.reduceLE, Int.reduceToNat, Nat.reduceLT, Nat.reduceLeDiff, Int.reduceEq, Int.reduceNeg, IntKind.bits, Nat.reduceAdd, Nat.reduceMul, Nat.reducePow, Int.reducePow, ini, fwi, F_aps_Encoder0_W, F_aps_Encoder1_W, F_aps_Encoder2_W, F_aps_Encoder3_W, F_aps_Encoder4_W, F_aps_Encoder5_W, F_aps_Encoder6_W, F_aps_Encoder7_W, F_aps_Encoder8_W, F_aps_Encoder9_W, F_aps_Encoder10_W, F_aps_Encoder11_g4, F_aps_Encoder11_W, F_aps_Encoder12_W, F_aps_Encoder12_g7, F_aps_Encoder12_g10, F_aps_Encoder13_W, F_aps_Encoder14_W, F_aps_Encodel1_W, F_aps_Encoder16_W, F_aps_Encoder17_W, F_aps_Encoder18_W, F_aps_Encoder19_W, F_aps_Encoder20_W, F_aps_Encoder21_W, F_aps_Encoder23_W, F_aps_Encoder24_W, F_aps_Encoder25_W, F_aps_Encoder26_W, F_aps_Encoder27_W, F_aps_Encoder22_W, F_aps_Encodel2_W, F_aps_Encodel0_W, F_aps_Encoder28_W, F_aps_Encodec_W, F_aps_Encoder0_W, F_aps_Encoder1_W, F_aps_Encoder2_W, F_aps_Encoder3_W, F_aps_Encoder4_W, F_aps_Encoder5_W, F_aps_Encoder6_W, F_aps_Encoder7_W, F_aps_Encoder8_W, F_aps_Encoder9_W, F_aps_Encoder10_W, F_aps_Encoder11_g4, F_aps_Encoder11_W, F_aps_Encoder12_W, F_aps_Encoder12_g7, F_aps_Encoder12_g10, F_aps_Encoder13_W, F_aps_Encoder14_W, F_aps_Encodel1_W, F_aps_Encoder16_W, F_aps_Encoder17_W, F_aps_Encoder18_W, F_aps_Encoder19_W, F_aps_Encoder20_W, F_aps_Encoder21_W, F_aps_Encoder23_W, F_aps_Encoder24_W, F_aps_Encoder25_W, F_aps_Encoder26_W, F_aps_Encoder27_W, F_aps_Encoder22_W, F_aps_Encodel2_W, F_aps_Encodel0_W, F_aps_Encoder28_W, F_aps_Encodec_W, e0, e1, e6, e7, e8, e9, e10, lenI_sl, q]
    refine W.mono (loop_enc1 h0 h1 h2 o hl hw rela hil ((lst o).length - i) i H _ (by omega) (Nat.le_refl _) ?_ ?_ ?_ ?_ ?_ ?_) fun x e h ⟨hH, f0, f1, f6, f7, f8, f9, f10, hq⟩ => ?_
    · (first | assumption | rfl)
    · (first | assumption | rfl)
    · (first | assumption | rfl)
    · (first | assumption | rfl)
    · (first | assumption | rfl)
    · (first | assumption | rfl)
    rcases hq with ⟨rfl, f4, f5, hall⟩ | ⟨rfl, f11, hrow⟩
    · simp only [fws, cond_true, cond_false, if_true, if_false, unV, isNil, optI, iV, stepI, evalR, reduceIte, reduceCtorEq, Nat.reduceEqDiff, Int.reduceLT, Int.reduceLE, Int.reduceToNat, Nat.reduceLT, Nat.reduceLeDiff, Int.reduceEq, Int.reduceNeg, IntKind.bits, Nat.reduceAdd, Nat.reduceMul, Nat.reducePow, Int.reducePow, ini]
      exact .inl ⟨trivial, f4, f5, hall⟩
    subst hH
    have f8 : e 8 = .int .u64 (pvAt (lst o) i) := f8.trans e8
    have f9 : e 9 = .int .i64 (if rela then pvAdd (lst o) i else 0) := f9.trans e9
    have f11 : e 11 = .int .i64 (runK (lst o) i : Nat) := f11
    have hrow : ∀ j, i ≤ j → j < runK (lst o) i → encOkR rela (rAt (lst o) j) = true := hrow
    generalize hK : runK (lst o) i = K at *
    have w1 : IntKind.i64.wrap ((K : Int) - i) = ((K - i : Nat) : Int) := by rw [wrapI64 (by omega) (by omega)]; omega
    have c1 := ev_put1 h0 h1 t (by rw [List.length_append]; omega) (n := ((K - i : Nat) : Int)) ⟨by omega, by omega⟩
    have pl1 := putS_len10 ((K - i : Nat) : Int)
    simp only [fws, cond_true, cond_false, if_true, if_false, unV, isNil, optI, iV, stepI, evalR, reduceIte, reduceCtorEq, Nat.reduceEqDiff, Int.reduceLT, Int.reduceLE, Int.reduceToNat, Nat.reduceLT, Nat.reduceLeDiff, Int.reduceEq, Int.reduceNeg, IntKind.bits, Nat.reduceAdd, Nat.reduceMul, Nat.reducePow, Int.reducePow, ini, fwi, F_aps_Encoder0_W, F_aps_Encoder1_W, F_aps_Encoder2_W, F_aps_Encoder3_W, F_aps_Encoder4_W, F_aps_Encoder5_W, F_aps_Encoder6_W, F_aps_Encoder7_W, F_aps_Encoder8_W, F_aps_Encoder9_W, F_aps_Encoder10_W, F_aps_Encoder11_g4, F_aps_Encoder11_W, F_aps_Encoder12_W, F_aps_Encoder12_g7, F_aps_Encoder12_g10, F_aps_Encoder13_W, F_aps_Encoder14_W, F_aps_Encodel1_W, F_aps_Encoder15_W, F_aps_Encoder16_W, F_aps_Encoder17_W, F_aps_Encoder18_W, F_aps_Encoder19_W, F_aps_Encoder20_W, F_aps_Encoder21_W, F_aps_Encoder23_W, F_aps_Encoder24_W, F_aps_Encoder25_W, F_aps_Encoder26_W, F_aps_Encoder27_W, F_aps_Encoder22_W, F_aps_Encodel2_W, F_aps_Encodel0_W, F_aps_Encoder28_W, F_aps_Encodec_W, F_aps_Encoder0_W, F_aps_Encoder1_W, F_aps_Encoder2_W, F_aps_Encoder3_W, F_aps_Encoder4_W, F_aps_Encoder5_W, F_aps_Encoder6_W, F_aps_Encoder7_W, F_aps_Encoder8_W, F_aps_Encoder9_W, F_aps_Encoder10_W, F_aps_Encoder11_g4, F_aps_Encoder11_W, F_aps_Encoder12_W, F_aps_Encoder12_g7, F_aps_Encoder12_g10, F_aps_Encoder13_W, F_aps_Encoder14_W, F_aps_Encodel1_W, F_aps_Encoder15_W, F_aps_Encoder16_W, F_aps_Encoder17_W, F_aps_Encoder18_W, F_aps_Encoder19_W, F_aps_Encoder20_W, F_aps_Encoder21_W, F_aps_Encoder23_W, F_aps_Encoder24_W, F_aps_Encoder25_W, F_aps_Encoder26_W, F_aps_Encoder27_W, F_aps_Encoder22_W, F_aps_Encodel2_W, F_aps_Encodel0_W, F_aps_Encoder28_W, F_aps_Encodec_W, f0, f1, f6, f7, f8, f9, f10, f11, w1]
    rw [WR_callv (first := #[]) (captured := #[.pointer (some ⟨1, 0, none⟩)]) rfl]
    refine Ev.mono (show Ev T 44 [.int .i64 ((K - i : Nat) : Int), .pointer (some ⟨1, 0, none⟩)] h _ from c1) fun v h3 ⟨_, u1, t1⟩ => ?_
    have hfl : ∀ env' : Env, env' 0 = slV RelE o → env' 1 = .bool rela → env' 6 = .pointer (some ⟨1, 0, none⟩) → env' 7 = putF → env' 8 = .int .u64 (pvAt (lst o) i) → env' 9 = .int .i64 (if rela then pvAdd (lst o) i else 0) → env' 10 = .int .i64 i → env' 11 = .int .i64 K → env' 12 = .int .i64 (flagsI rela) →
        W T (.reg F_aps_Encoder19) env' h3 (seqQ T (.seq (.reg F_aps_Encoder20) (.block 4 (.loop F_aps_Encodel2))) (blockQ 1 (seqQ T (.loop F_aps_Encodel0) fun x e h => (x = .ret ∧ e 4 = .slice none 0 0 ∧ e 5 = .int .i64 140 ∧ (lst o).all (encOkR rela) = false) ∨ (x = .exit 0 ∧ e 6 = .pointer (some ⟨1, 0, none⟩) ∧ (lst o).all (encOkR rela) = true ∧ ∃ u, OB h u (mark ++ putL (numsE rela (lst o) (lst o).length)))))) := by
      intro env' g0 g1 g6 g7 g8 g9 g10 g11 g12
      have nf : isI64r (flagsI rela) := by unfold flagsI; cases rela <;> exact ⟨by decide, by decide⟩
      have c2 := ev_put1 h0 h1 t1 (by simp only [List.length_append]; omega) nf
      have pl2 := putS_len10 (flagsI rela)
      simp only [fws, cond_true, cond_false, if_true, if_false, unV, isNil, optI, iV, stepI, evalR, reduceIte, reduceCtorEq, Nat.reduceEqDiff, Int.reduceLT, Int.reduceLE, Int.reduceToNat, Nat.reduceLT, Nat.reduceLeDiff, Int.reduceEq, Int.reduceNeg, IntKind.bits, Nat.reduceAdd, Nat.reduceMul, Nat.reducePow, Int.reducePow, ini, fwi, F_aps_Encoder0_W, F_aps_Encoder1_W, F_aps_Encoder2_W, F_aps_Encoder3_W, F_aps_Encoder4_W, F_aps_Encoder5_W, F_aps_Encoder6_W, F_aps_Encoder7_W, F_aps_Encoder8_W, F_aps_Encoder9_W, F_aps_Encoder10_W, F_aps_Encoder11_g4, F_aps_Encoder11_W, F_aps_Encoder12_W, F_aps_Encoder12_g7, F_aps_Encoder12_g10, F_aps_Encoder13_W, F_aps_Encoder14_W, F_aps_Encodel1_W, F_aps_Encoder15_W, F_aps_Encoder16_W, F_aps_Encoder17_W, F_aps_Encoder18_W, F_aps_Encoder19_W, F_aps_Encoder20_W, F_aps_Encoder21_W, F_aps_Encoder23_W, F_aps_Encoder24_W, F_aps_Encoder25_W, F_aps_Encoder26_W, F_aps_Encoder27_W, F_aps_Encoder22_W, F_aps_Encodel2_W, F_aps_Encodel0_W, F_aps_Encoder28_W, F_aps_Encodec_W, F_aps_Encoder0_W, F_aps_Encoder1_W, F_aps_Encoder2_W, F_aps_Encoder3_W, F_aps_Encoder4_W, F_aps_Encoder5_W, F_aps_Encoder6_W, F_aps_Encoder7_W, F_aps_Encoder8_W, F_aps_Encoder9_W, F_aps_Encoder10_W, F_aps_Encoder11_g4, F_aps_Encoder11_W, F_aps_Encoder12_W, F_aps_Encoder12_g7, F_aps_Encoder12_g10, F_aps_Encoder13_W, F_aps_Encoder14_W, F_aps_Encodel1_W, F_aps_Encoder15_W, F_aps_Encoder16_W, F_aps_Encoder17_W, F_aps_Encoder18_W, F_aps_Encoder19_W, F_aps_Encoder20_W, F_aps_Encoder21_W, F_aps_Encoder23_W, F_aps_Encoder24_W, F_aps_Encoder25_W, F_aps_Encoder26_W, F_aps_Encoder27_W, F_aps_Encoder22_W, F_aps_Encodel2_W, F_aps_Encodel0_W, F_aps_Encoder28_W, F_aps_Encodec_W, g0, g7, g12]
      rw [WR_callv (first := #[]) (captured := #[.pointer (some ⟨1, 0, none⟩)]) rfl]
      refine Ev.mono (show Ev T 44 [.int .i64 (flagsI rela), .pointer (some ⟨1, 0, none⟩)] h3 _ from c2) fun v h4 ⟨_, u2, t2⟩ => ?_
      have c3 := ev_put1 h0 h1 t2 (by simp only [List.length_append]; omega) (i64_is ((rAt (lst o) i).Sym * 4294967296 + (rAt (lst o) i).Typ))
      have pl3 := putS_len10 (keyI (rAt (lst o) i))
      simp only [fws, cond_true, cond_false, if_true, if_false, unV, isNil, optI, iV, stepI, evalR, reduceIte, reduceCtorEq, Nat.reduceEqDiff, Int.reduceLT, Int.reduceLE, Int.reduceToNat, Nat.reduceLT, Nat.reduceLeDiff, Int.reduceEq, Int.reduceNeg, IntKind.bits, Nat.reduceAdd, Nat.reduceMul, Nat.reducePow, Int.reducePow, ini, fwi, F_aps_Encoder0_W, F_aps_Encoder1_W, F_aps_Encoder2_W, F_aps_Encoder3_W, F_aps_Encoder4_W, F_aps_Encoder5_W, F_aps_Encoder6_W, F_aps_Encoder7_W, F_aps_Encoder8_W, F_aps_Encoder9_W, F_aps_Encoder10_W, F_aps_Encoder11_g4, F_aps_Encoder11_W, F_aps_Encoder12_W, F_aps_Encoder12_g7, F_aps_Encoder12_g10, F_aps_Encoder13_W, F_aps_Encoder14_W, F_aps_Encodel1_W, F_aps_Encoder15_W, F_aps_Encoder16_W, F_aps_Encoder17_W, F_aps_Encoder18_W, F_aps_Encoder19_W, F_aps_Encoder20_W, F_aps_Encoder21_W, F_aps_Encoder23_W, F_aps_Encoder24_W, F_aps_Encoder25_W, F_aps_Encoder26_W, F_aps_Encoder27_W, F_aps_Encoder22_W, F_aps_Encodel2_W, F_aps_Encodel0_W, F_aps_Encoder28_W, F_aps_Encodec_W, F_aps_Encoder0_W, F_aps_Encoder1_W, F_aps_Encoder2_W, F_aps_Encoder3_W, F_aps_Encoder4_W, F_aps_Encoder5_W, F_aps_Encoder6_W, F_aps_Encoder7_W, F_aps_Encoder8_W, F_aps_Encoder9_W, F_aps_Encoder10_W, F_aps_Encoder11_g4, F_aps_Encoder11_W, F_aps_Encoder12_W, F_aps_Encoder12_g7, F_aps_Encoder12_g10, F_aps_Encoder13_W, F_aps_Encoder14_W, F_aps_Encodel1_W, F_aps_Encoder15_W, F_aps_Encoder16_W, F_aps_Encoder17_W, F_aps_Encoder18_W, F_aps_Encoder19_W, F_aps_Encoder20_W, F_aps_Encoder21_W, F_aps_Encoder23_W, F_aps_Encoder24_W, F_aps_Encoder25_W, F_aps_Encoder26_W, F_aps_Encoder27_W, F_aps_Encoder22_W, F_aps_Encodel2_W, F_aps_Encodel0_W, F_aps_Encoder28_W, F_aps_Encodec_W, g0, g7, g10, x1, x2, CC_of c0]
      rw [WR_callv (first := #[]) (captured := #[.pointer (some ⟨1, 0, none⟩)]) rfl]
      refine Ev.mono (show Ev T 44 [.int .i64 (keyI (rAt (lst o) i)), .pointer (some ⟨1, 0, none⟩)] h4 _ from c3) fun v h5 ⟨_, u3, t3⟩ => ?_
      simp only [fws, cond_true, cond_false, if_true, if_false, unV, isNil, optI, iV, stepI, evalR, reduceIte, reduceCtorEq, Nat.reduceEqDiff, Int.reduceLT, Int.reduceLE, Int.reduceToNat, Nat.reduceLT, Nat.reduceLeDiff, Int.reduceEq, Int.reduceNeg, IntKind.bits, Nat.reduceAdd, Nat.reduceMul, Nat.reducePow, Int.reducePow, ini, fwi, F_aps_Encoder0_W, F_aps_Encoder1_W, F_aps_Encoder2_W, F_aps_Encoder3_W, F_aps_Encoder4_W, F_aps_Encoder5_W, F_aps_Encoder6_W, F_aps_Encoder7_W, F_aps_Encoder8_W, F_aps_Encoder9_W, F_aps_Encoder10_W, F_aps_Encoder11_g4, F_aps_Encoder11_W, F_aps_Encoder12_W, F_aps_Encoder12_g7, F_aps_Encoder12_g10, F_aps_Encoder13_W, F_aps_Encoder14_W, F_aps_Encodel1_W, F_aps_Encoder15_W, F_aps_Encoder16_W, F_aps_Encoder17_W, F_aps_Encoder18_W, F_aps_Encoder19_W, F_aps_Encoder20_W, F_aps_Encoder21_W, F_aps_Encoder23_W, F_aps_Encoder24_W, F_aps_Encoder25_W, F_aps_Encoder26_W, F_aps_Encoder27_W, F_aps_Encoder22_W, F_aps_Encodel0_W, F_aps_Encoder28_W, F_aps_Encodec_W, F_aps_Encoder0_W, F_aps_Encoder1_W, F_aps_Encoder2_W, F_aps_Encoder3_W, F_aps_Encoder4_W, F_aps_Encoder5_W, F_aps_Encoder6_W, F_aps_Encoder7_W, F_aps_Encoder8_W, F_aps_Encoder9_W, F_aps_Encoder10_W, F_aps_Encoder11_g4, F_aps_Encoder11_W, F_aps_Encoder12_W, F_aps_Encoder12_g7, F_aps_Encoder12_g10, F_aps_Encoder13_W, F_aps_Encoder14_W, F_aps_Encodel1_W, F_aps_Encoder15_W, F_aps_Encoder16_W, F_aps_Encoder17_W, F_aps_Encoder18_W, F_aps_Encoder19_W, F_aps_Encoder20_W, F_aps_Encoder21_W, F_aps_Encoder23_W, F_aps_Encoder24_W, F_aps_Encoder25_W, F_aps_Encoder26_W, F_aps_Encoder27_W, F_aps_Encoder22_W, F_aps_Encodel0_W, F_aps_Encoder28_W, F_aps_Encodec_W]
      have hLi : putL (numsE rela (lst o) i ++ hdL rela (lst o) i) = putL (numsE rela (lst o) i) ++ putS 10 ((K - i : Nat) : Int) ++ putS 10 (flagsI rela) ++ putS 10 (keyI (rAt (lst o) i)) := by
        rw [putL_app]
        unfold hdL
        rw [hK]
        have : putL [((K - i : Nat) : Int), flagsI rela, keyI (rAt (lst o) i)] = putS 10 ((K - i : Nat) : Int) ++ (putS 10 (flagsI rela) ++ (putS 10 (keyI (rAt (lst o) i)) ++ [])) := rfl
        rw [this, List.append_nil]
        simp only [List.append_assoc]
      have hnh : ∀ j, i < j → j < K → isHd (lst o) j = false := fun j h1 h2 => by
        unfold isHd
        have e1 := hkin j (by omega) h2
        have e2 := hkin (j - 1) (by omega) (by omega)
        have : ¬ j = 0 := by omega
        simp [e1, e2, this]
      refine W.mono (loop_enc2 h0 h1 h2 o hl hw rela (i := i) hk2 (fun j => if j = i then numsE rela (lst o) i ++ hdL rela (lst o) i else numsE rela (lst o) j) (fun j hj1 hj2 => ?_) (K - i) i h5 u3 _ (by omega) (Nat.le_refl _) ?_ ?_ ?_ ?_ ?_ ?_ ?_ ?_ ?_ ?_) fun x e h6 ⟨hx, k0, k1, k6, k7, k8, k9, k10, u6, t6⟩ => ?_
      · have hne : ¬ (j + 1 = i) := by omega
        rw [if_neg hne]
        rcases Nat.eq_or_lt_of_le hj1 with h | h
        · subst h
          rw [if_pos rfl, numsE, if_pos hd]
        · rw [if_neg (by omega), numsE, hnh j h hj2, if_neg (by decide), List.append_nil]
      · rw [if_pos rfl, hLi]
        simp only [List.length_append]
        omega
      · rw [if_pos rfl, hLi]
        simp only [← List.append_assoc]
        exact t3
      · (first | assumption | rfl)
      · (first | assumption | rfl)
      · (first | assumption | rfl)
      · (first | assumption | rfl)
      · (first | assumption | rfl)
      · (first | assumption | rfl)
      · (first | assumption | rfl)
      · (first | assumption | rfl)
      subst hx
      rw [if_neg (by omega)] at t6
      simp only [fws, cond_true, cond_false, if_true, if_false, unV, isNil, optI, iV, stepI, evalR, reduceIte, reduceCtorEq, Nat.reduceEqDiff, Int.reduceLT, Int.reduceLE, Int.reduceToNat, Nat.reduceLT, Nat.reduceLeDiff, Int.reduceEq, Int.reduceNeg, IntKind.bits, Nat.reduceAdd, Nat.reduceMul, Nat.reducePow, Int.reducePow, ini]
      refine ih K h6 u6 e (by omega) hk2 (fun hKl => ?_) (fun j hj => ?_) t6 k0 k1 k6 k7 k8 k9 k10
      · unfold isHd
        have e1 := hkout hKl
        have e2 := hkin (K - 1) (by omega) (by omega)
        simp [e1, e2]
      · rcases Nat.lt_or_ge j i with h | h
        · exact hok j h
        · exact hrow j h hj
    cases hr : rela with
    | false =>
      subst hr
      simp only [fws, cond_true, cond_false, if_true, if_false, unV, isNil, optI, iV, stepI, evalR, reduceIte, reduceCtorEq, Nat.reduceEqDiff, Int.reduceLT, Int.reduceLE, Int.reduceToNat, Nat.reduceLT, Nat.reduceLeDiff, Int.reduceEq, Int.reduceNeg, IntKind.bits, Nat.reduceAdd, Nat.reduceMul, Nat.reducePow, Int.reducePow, ini, fwi, F_aps_Encoder0_W, F_aps_Encoder1_W, F_aps_Encoder2_W, F_aps_Encoder3_W, F_aps_Encoder4_W, F_aps_Encoder5_W, F_aps_Encoder6_W, F_aps_Encoder7_W, F_aps_Encoder8_W, F_aps_Encoder9_W, F_aps_Encoder10_W, F_aps_Encoder11_g4, F_aps_Encoder11_W, F_aps_Encoder12_W, F_aps_Encoder12_g7, F_aps_Encoder12_g10, F_aps_Encoder13_W, F_aps_Encoder14_W, F_aps_Encodel1_W, F_aps_Encoder15_W, F_aps_Encoder16_W, F_aps_Encoder17_W, F_aps_Encoder18_W, F_aps_Encoder20_W, F_aps_Encoder21_W, F_aps_Encoder23_W, F_aps_Encoder24_W, F_aps_Encoder25_W, F_aps_Encoder26_W, F_aps_Encoder27_W, F_aps_Encoder22_W, F_aps_Encodel2_W, F_aps_Encodel0_W, F_aps_Encoder28_W, F_aps_Encodec_W, F_aps_Encoder0_W, F_aps_Encoder1_W, F_aps_Encoder2_W, F_aps_Encoder3_W, F_aps_Encoder4_W, F_aps_Encoder5_W, F_aps_Encoder6_W, F_aps_Encoder7_W, F_aps_Encoder8_W, F_aps_Encoder9_W, F_aps_Encoder10_W, F_aps_Encoder11_g4, F_aps_Encoder11_W, F_aps_Encoder12_W, F_aps_Encoder12_g7, F_aps_Encoder12_g10, F_aps_Encoder13_W, F_aps_Encoder14_W, F_aps_Encodel1_W, F_aps_Encoder15_W, F_aps_Encoder16_W, F_aps_Encoder17_W, F_aps_Encoder18_W, F_aps_Encoder20_W, F_aps_Encoder21_W, F_aps_Encoder23_W, F_aps_Encoder24_W, F_aps_Encoder25_W, F_aps_Encoder26_W, F_aps_Encoder27_W, F_aps_Encoder22_W, F_aps_Encodel2_W, F_aps_Encodel0_W, F_aps_Encoder28_W, F_aps_Encodec_W, f0, f1, f6, f7, f8, f9, f10, f11]
      refine hfl _ ?_ ?_ ?_ ?_ ?_ ?_ ?_ ?_ ?_
      all_goals (first | assumption | rfl)
    | true =>
      subst hr
      have w9 : Go.bits .or .i64 1 8 = 9 := by kernel_rfl
      simp only [fws, cond_true, cond_false, if_true, if_false, unV, isNil, optI, iV, stepI, evalR, reduceIte, reduceCtorEq, Nat.reduceEqDiff, Int.reduceLT, Int.reduceLE, Int.reduceToNat, Nat.reduceLT, Nat.reduceLeDiff, Int.reduceEq, Int.reduceNeg, IntKind.bits, Nat.reduceAdd, Nat.reduceMul, Nat.reducePow, Int.reducePow, ini, fwi, F_aps_Encoder0_W, F_aps_Encoder1_W, F_aps_Encoder2_W, F_aps_Encoder3_W, F_aps_Encoder4_W, F_aps_Encoder5_W, F_aps_Encoder6_W, F_aps_Encoder7_W, F_aps_Encoder8_W, F_aps_Encoder9_W, F_aps_Encoder10_W, F_aps_Encoder11_g4, F_aps_Encoder11_W, F_aps_Encoder12_W, F_aps_Encoder12_g7, F_aps_Encoder12_g10, F_aps_Encoder13_W, F_aps_Encoder14_W, F_aps_Encodel1_W, F_aps_Encoder15_W, F_aps_Encoder16_W, F_aps_Encoder17_W, F_aps_Encoder18_W, F_aps_Encoder20_W, F_aps_Encoder21_W, F_aps_Encoder23_W, F_aps_Encoder24_W, F_aps_Encoder25_W, F_aps_Encoder26_W, F_aps_Encoder27_W, F_aps_Encoder22_W, F_aps_Encodel2_W, F_aps_Encodel0_W, F_aps_Encoder28_W, F_aps_Encodec_W, F_aps_Encoder0_W, F_aps_Encoder1_W, F_aps_Encoder2_W, F_aps_Encoder3_W, F_aps_Encoder4_W, F_aps_Encoder5_W, F_aps_Encoder6_W, F_aps_Encoder7_W, F_aps_Encoder8_W, F_aps_Encoder9_W, F_aps_Encoder10_W, F_aps_Encoder11_g4, F_aps_Encoder11_W, F_aps_Encoder12_W, F_aps_Encoder12_g7, F_aps_Encoder12_g10, F_aps_Encoder13_W, F_aps_Encoder14_W, F_aps_Encodel1_W, F_aps_Encoder15_W, F_aps_Encoder16_W, F_aps_Encoder17_W, F_aps_Encoder18_W, F_aps_Encoder20_W, F_aps_Encoder21_W, F_aps_Encoder23_W, F_aps_Encoder24_W, F_aps_Encoder25_W, F_aps_Encoder26_W, F_aps_Encoder27_W, F_aps_Encoder22_W, F_aps_Encodel2_W, F_aps_Encodel0_W, F_aps_Encoder28_W, F_aps_Encodec_W, f0, f1, f6, f7, f8, f9, f10, f11, w9]
      refine hfl _ ?_ ?_ ?_ ?_ ?_ ?_ ?_ ?_ ?_
      all_goals (first | assumption | rfl)
theorem f_aps_Encode (h : T 29 = some F_aps_Encode) : ∃ x, lst x = apsB rela (lst o) ∧ FnV T 29 [slV RelE o, .bool rela] (.tuple #[slV byteE x, .int .i64 (apsE rela (lst o))]) := by
  refine FnV_ex (g := fun x => .tuple #[slV byteE x, .int .i64 (apsE rela (lst o))]) (by simp [pure_bool, pure_rl]) ?_
  rw [Ev_fn h rfl]
  have q : ¬ ((512 : Int) < (lst o).length) := by omega
  have hcv : cvslI [⟨0, .cells false 1 [.int .u8 65, .int .u8 80, .int .u8 83, .int .u8 50]⟩] (.slice (some ⟨0, 0, none⟩) 4 4) = some (.slice (some ⟨0, 0, none⟩) 4 4, [⟨0, .cells false 1 [.int .u8 65, .int .u8 80, .int .u8 83, .int .u8 50]⟩]) := rfl
  have t0 : OB [⟨0, .cells false 1 [.int .u8 65, .int .u8 80, .int .u8 83, .int .u8 50]⟩, obE (.slice (some ⟨0, 0, none⟩) 4 4)] (.slice (some ⟨0, 0, none⟩) 4 4) mark := ⟨rfl, .inr ⟨0, 0, rfl, rfl⟩, fun he => by cases he⟩
  have hm4 : mark.length = 4 := rfl
  have pl1 := putS_len10 ((lst o).length : Int)
  have c1 := ev_put1 h0 h1 t0 (by omega) (n := ((lst o).length : Int)) ⟨by omega, by omega⟩
  simp only [F_aps_Encode, fws, cond_true, cond_false, if_true, if_false, unV, isNil, optI, iV, stepI, evalR, reduceIte, reduceCtorEq, Nat.reduceEqDiff, Int.reduceLT, Int.reduceLE, Int.reduceToNat, Nat.reduceLT, Nat.reduceLeDiff, Int.reduceEq, Int.reduceNeg, IntKind.bits, Nat.reduceAdd, Nat.reduceMul, Nat.reducePow, Int.reducePow, ini, fwh, lk, cellsAt, tagOf, spotOf, rdN, spl, fillL, zr, fwi, F_aps_Encoder0_W, F_aps_Encoder1_W, F_aps_Encoder2_W, F_aps_Encoder3_W, F_aps_Encoder4_W, F_aps_Encoder5_W, F_aps_Encoder7_W, F_aps_Encoder8_W, F_aps_Encoder9_W, F_aps_Encoder10_W, F_aps_Encoder11_g4, F_aps_Encoder11_W, F_aps_Encoder12_W, F_aps_Encoder12_g7, F_aps_Encoder12_g10, F_aps_Encoder13_W, F_aps_Encoder14_W, F_aps_Encodel1_W, F_aps_Encoder15_W, F_aps_Encoder16_W, F_aps_Encoder17_W, F_aps_Encoder18_W, F_aps_Encoder19_W, F_aps_Encoder20_W, F_aps_Encoder21_W, F_aps_Encoder23_W, F_aps_Encoder24_W, F_aps_Encoder25_W, F_aps_Encoder26_W, F_aps_Encoder27_W, F_aps_Encoder22_W, F_aps_Encodel2_W, F_aps_Encodel0_W, F_aps_Encoder28_W, F_aps_Encodec_W, F_aps_Encoder0_W, F_aps_Encoder1_W, F_aps_Encoder2_W, F_aps_Encoder3_W, F_aps_Encoder4_W, F_aps_Encoder5_W, F_aps_Encoder7_W, F_aps_Encoder8_W, F_aps_Encoder9_W, F_aps_Encoder10_W, F_aps_Encoder11_g4, F_aps_Encoder11_W, F_aps_Encoder12_W, F_aps_Encoder12_g7, F_aps_Encoder12_g10, F_aps_Encoder13_W, F_aps_Encoder14_W, F_aps_Encodel1_W, F_aps_Encoder15_W, F_aps_Encoder16_W, F_aps_Encoder17_W, F_aps_Encoder18_W, F_aps_Encoder19_W, F_aps_Encoder20_W, F_aps_Encoder21_W, F_aps_Encoder23_W, F_aps_Encoder24_W, F_aps_Encoder25_W, F_aps_Encoder26_W, F_aps_Encoder27_W, F_aps_Encoder22_W, F_aps_Encodel2_W, F_aps_Encodel0_W, F_aps_Encoder28_W, F_aps_Encodec_W, lenI_sl, q, hcv]
  rw [WR_callv (first := #[]) (captured := #[.pointer (some ⟨1, 0, none⟩)]) rfl]
  refine Ev.mono (show Ev T 44 [.int .i64 ((lst o).length : Int), .pointer (some ⟨1, 0, none⟩)] _ _ from c1) fun v H1 ⟨_, u1, t1⟩ => ?_
  have pl2 := putS_len10 0
  have c2 := ev_put1 h0 h1 t1 (by rw [List.length_append]; omega) (n := 0) ⟨by decide, by decide⟩
  simp only [fws, cond_true, cond_false, if_true, if_false, unV, isNil, optI, iV, stepI, evalR, reduceIte, reduceCtorEq, Nat.reduceEqDiff, Int.reduceLT, Int.reduceLE, Int.reduceToNat, Nat.reduceLT, Nat.reduceLeDiff, Int.reduceEq, Int.reduceNeg, IntKind.bits, Nat.reduceAdd, Nat.reduceMul, Nat.reducePow, Int.reducePow, ini, fwi, F_aps_Encoder0_W, F_aps_Encoder1_W, F_aps_Encoder2_W, F_aps_Encoder3_W, F_aps_Encoder4_W, F_aps_Encoder5_W, F_aps_Encoder6_W, F_aps_Encoder7_W, F_aps_Encoder8_W, F_aps_Encoder9_W, F_aps_Encoder10_W, F_aps_Encoder11_g4, F_aps_Encoder11_W, F_aps_Encoder12_W, F_aps_Encoder12_g7, F_aps_Encoder12_g10, F_aps_Encoder13_W, F_aps_Encoder14_W, F_aps_Encodel1_W, F_aps_Encoder15_W, F_aps_Encoder16_W, F_aps_Encoder17_W, F_aps_Encoder18_W, F_aps_Encoder19_W, F_aps_Encoder20_W, F_aps_Encoder21_W, F_aps_Encoder23_W, F_aps_Encoder24_W, F_aps_Encoder25_W, F_aps_Encoder26_W, F_aps_Encoder27_W, F_aps_Encoder22_W, F_aps_Encodel2_W, F_aps_Encodel0_W, F_aps_Encoder28_W, F_aps_Encodec_W, F_aps_Encoder0_W, F_aps_Encoder1_W, F_aps_Encoder2_W, F_aps_Encoder3_W, F_aps_Encoder4_W, F_aps_Encoder5_W, F_aps_Encoder6_W, F_aps_Encoder7_W, F_aps_Encoder8_W, F_aps_Encoder9_W, F_aps_Encoder10_W, F_aps_Encoder11_g4, F_aps_Encoder11_W, F_aps_Encoder12_W, F_aps_Encoder12_g7, F_aps_Encoder12_g10, F_aps_Encoder13_W, F_aps_Encoder14_W, F_aps_Encodel1_W, F_aps_Encoder15_W, F_aps_Encoder16_W, F_aps_Encoder17_W, F_aps_Encoder18_W, F_aps_Encoder19_W, F_aps_Encoder20_W, F_aps_Encoder21_W, F_aps_Encoder23_W, F_aps_Encoder24_W, F_aps_Encoder25_W, F_aps_Encoder26_W, F_aps_Encoder27_W, F_aps_Encoder22_W, F_aps_Encodel2_W, F_aps_Encodel0_W, F_aps_Encoder28_W, F_aps_Encodec_W]
  rw [WR_callv (first := #[]) (captured := #[.pointer (some ⟨1, 0, none⟩)]) rfl]
  refine Ev.mono (show Ev T 44 [.int .i64 0, .pointer (some ⟨1, 0, none⟩)] _ _ from c2) fun v H2 ⟨_, u2, t2⟩ => ?_
  have hL0 : mark ++ putS 10 ((lst o).length : Int) ++ putS 10 0 = mark ++ putL (numsE rela (lst o) 0) := by
    have : putL (numsE rela (lst o) 0) = putS 10 ((lst o).length : Int) ++ (putS 10 0 ++ []) := rfl
    rw [this, List.append_nil, List.append_assoc]
  rw [hL0] at t2
  simp only [fws, cond_true, cond_false, if_true, if_false, unV, isNil, optI, iV, stepI, evalR, reduceIte, reduceCtorEq, Nat.reduceEqDiff, Int.reduceLT, Int.reduceLE, Int.reduceToNat, Nat.reduceLT, Nat.reduceLeDiff, Int.reduceEq, Int.reduceNeg, IntKind.bits, Nat.reduceAdd, Nat.reduceMul, Nat.reducePow, Int.reducePow, ini, fwi, F_aps_Encoder0_W, F_aps_Encoder1_W, F_aps_Encoder2_W, F_aps_Encoder3_W, F_aps_Encoder4_W, F_aps_Encoder5_W, F_aps_Encoder6_W, F_aps_Encoder7_W, F_aps_Encoder8_W, F_aps_Encoder9_W, F_aps_Encoder10_W, F_aps_Encoder11_g4, F_aps_Encoder11_W, F_aps_Encoder12_W, F_aps_Encoder12_g7, F_aps_Encoder12_g10, F_aps_Encoder13_W, F_aps_Encoder14_W, F_aps_Encodel1_W, F_aps_Encoder15_W, F_aps_Encoder16_W, F_aps_Encoder17_W, F_aps_Encoder18_W, F_aps_Encoder19_W, F_aps_Encoder20_W, F_aps_Encoder21_W, F_aps_Encoder23_W, F_aps_Encoder24_W, F_aps_Encoder25_W, F_aps_Encoder26_W, F_aps_Encoder27_W, F_aps_Encoder22_W, F_aps_Encodel2_W, F_aps_Encoder28_W, F_aps_Encodec_W, F_aps_Encoder0_W, F_aps_Encoder1_W, F_aps_Encoder2_W, F_aps_Encoder3_W, F_aps_Encoder4_W, F_aps_Encoder5_W, F_aps_Encoder6_W, F_aps_Encoder7_W, F_aps_Encoder8_W, F_aps_Encoder9_W, F_aps_Encoder10_W, F_aps_Encoder11_g4, F_aps_Encoder11_W, F_aps_Encoder12_W, F_aps_Encoder12_g7, F_aps_Encoder12_g10, F_aps_Encoder13_W, F_aps_Encoder14_W, F_aps_Encodel1_W, F_aps_Encoder15_W, F_aps_Encoder16_W, F_aps_Encoder17_W, F_aps_Encoder18_W, F_aps_Encoder19_W, F_aps_Encoder20_W, F_aps_Encoder21_W, F_aps_Encoder23_W, F_aps_Encoder24_W, F_aps_Encoder25_W, F_aps_Encoder26_W, F_aps_Encoder27_W, F_aps_Encoder22_W, F_aps_Encodel2_W, F_aps_Encoder28_W, F_aps_Encodec_W]
  refine W.mono (loop_enc0 h0 h1 h2 o hl hw rela (lst o).length 0 H2 u2 _ (by omega) (Nat.zero_le _) (fun _ => rfl) (fun j hj => absurd hj (Nat.not_lt_zero _)) t2 ?_ ?_ ?_ ?_ ?_ ?_ ?_) fun x e h hq => ?_
  · (first | assumption | rfl)
  · (first | assumption | rfl)
  · (first | assumption | rfl)
  · (first | assumption | rfl)
  · (first | assumption | rfl)
  · cases rela <;> rfl
  · (first | assumption | rfl)
  rcases hq with ⟨rfl, e4, e5, hbad⟩ | ⟨rfl, e6, hall, u, t⟩
  · have ok : encOk rela (lst o) = false := by unfold encOk; rw [hbad, Bool.and_false]
    simp only [fws, cond_true, cond_false, if_true, if_false, unV, isNil, optI, iV, stepI, evalR, reduceIte, reduceCtorEq, Nat.reduceEqDiff, Int.reduceLT, Int.reduceLE, Int.reduceToNat, Nat.reduceLT, Nat.reduceLeDiff, Int.reduceEq, Int.reduceNeg, IntKind.bits, Nat.reduceAdd, Nat.reduceMul, Nat.reducePow, Int.reducePow, ini, F_aps_Encoder0_W, F_aps_Encoder1_W, F_aps_Encoder2_W, F_aps_Encoder3_W, F_aps_Encoder4_W, F_aps_Encoder5_W, F_aps_Encoder6_W, F_aps_Encoder7_W, F_aps_Encoder8_W, F_aps_Encoder9_W, F_aps_Encoder10_W, F_aps_Encoder11_g4, F_aps_Encoder11_W, F_aps_Encoder12_W, F_aps_Encoder12_g7, F_aps_Encoder12_g10, F_aps_Encoder13_W, F_aps_Encoder14_W, F_aps_Encodel1_W, F_aps_Encoder15_W, F_aps_Encoder16_W, F_aps_Encoder17_W, F_aps_Encoder18_W, F_aps_Encoder19_W, F_aps_Encoder20_W, F_aps_Encoder21_W, F_aps_Encoder23_W, F_aps_Encoder24_W, F_aps_Encoder25_W, F_aps_Encoder26_W, F_aps_Encoder27_W, F_aps_Encoder22_W, F_aps_Encodel2_W, F_aps_Encodel0_W, F_aps_Encoder28_W, F_aps_Encodec_W, F_aps_Encoder0_W, F_aps_Encoder1_W, F_aps_Encoder2_W, F_aps_Encoder3_W, F_aps_Encoder4_W, F_aps_Encoder5_W, F_aps_Encoder6_W, F_aps_Encoder7_W, F_aps_Encoder8_W, F_aps_Encoder9_W, F_aps_Encoder10_W, F_aps_Encoder11_g4, F_aps_Encoder11_W, F_aps_Encoder12_W, F_aps_Encoder12_g7, F_aps_Encoder12_g10, F_aps_Encoder13_W, F_aps_Encoder14_W, F_aps_Encodel1_W, F_aps_Encoder15_W, F_aps_Encoder16_W, F_aps_Encoder17_W, F_aps_Encoder18_W, F_aps_Encoder19_W, F_aps_Encoder20_W, F_aps_Encoder21_W, F_aps_Encoder23_W, F_aps_Encoder24_W, F_aps_Encoder25_W, F_aps_Encoder26_W, F_aps_Encoder27_W, F_aps_Encoder22_W, F_aps_Encodel2_W, F_aps_Encodel0_W, F_aps_Encoder28_W, F_aps_Encodec_W, e4, e5]
    exact ⟨none, by unfold apsB; rw [ok]; rfl, by unfold apsE; rw [ok]; rfl⟩
  · have ok : encOk rela (lst o) = true := by unfold encOk; rw [hall, Bool.and_true]; exact decide_eq_true hl
    have hat := t.at_
    simp only [fws, cond_true, cond_false, if_true, if_false, unV, isNil, optI, iV, stepI, evalR, reduceIte, reduceCtorEq, Nat.reduceEqDiff, Int.reduceLT, Int.reduceLE, Int.reduceToNat, Nat.reduceLT, Nat.reduceLeDiff, Int.reduceEq, Int.reduceNeg, IntKind.bits, Nat.reduceAdd, Nat.reduceMul, Nat.reducePow, Int.reducePow, ini, fwh, lk, cellsAt, tagOf, spotOf, rdN, spl, fillL, zr, fwi, F_aps_Encoder0_W, F_aps_Encoder1_W, F_aps_Encoder2_W, F_aps_Encoder3_W, F_aps_Encoder4_W, F_aps_Encoder5_W, F_aps_Encoder6_W, F_aps_Encoder7_W, F_aps_Encoder8_W, F_aps_Encoder9_W, F_aps_Encoder10_W, F_aps_Encoder11_g4, F_aps_Encoder11_W, F_aps_Encoder12_W, F_aps_Encoder12_g7, F_aps_Encoder12_g10, F_aps_Encoder13_W, F_aps_Encoder14_W, F_aps_Encodel1_W, F_aps_Encoder15_W, F_aps_Encoder16_W, F_aps_Encoder17_W, F_aps_Encoder18_W, F_aps_Encoder19_W, F_aps_Encoder20_W, F_aps_Encoder21_W, F_aps_Encoder23_W, F_aps_Encoder24_W, F_aps_Encoder25_W, F_aps_Encoder26_W, F_aps_Encoder27_W, F_aps_Encoder22_W, F_aps_Encodel2_W, F_aps_Encodel0_W, F_aps_Encoder28_W, F_aps_Encodec_W, F_aps_Encoder0_W, F_aps_Encoder1_W, F_aps_Encoder2_W, F_aps_Encoder3_W, F_aps_Encoder4_W, F_aps_Encoder5_W, F_aps_Encoder6_W, F_aps_Encoder7_W, F_aps_Encoder8_W, F_aps_Encoder9_W, F_aps_Encoder10_W, F_aps_Encoder11_g4, F_aps_Encoder11_W, F_aps_Encoder12_W, F_aps_Encoder12_g7, F_aps_Encoder12_g10, F_aps_Encoder13_W, F_aps_Encoder14_W, F_aps_Encodel1_W, F_aps_Encoder15_W, F_aps_Encoder16_W, F_aps_Encoder17_W, F_aps_Encoder18_W, F_aps_Encoder19_W, F_aps_Encoder20_W, F_aps_Encoder21_W, F_aps_Encoder23_W, F_aps_Encoder24_W, F_aps_Encoder25_W, F_aps_Encoder26_W, F_aps_Encoder27_W, F_aps_Encoder22_W, F_aps_Encodel2_W, F_aps_Encodel0_W, F_aps_Encoder28_W, F_aps_Encodec_W, e6, hat]
    obtain ⟨x, p1, p2⟩ := Own.frzE t.own (k := 6) (by decide)
    exact ⟨x, by rw [p1]; unfold apsB; rw [ok]; rfl, by unfold apsE; rw [ok]; exact frz_t2 p2 (frz_pure rfl)⟩
end
theorem f_aps_Encode_gt {T : Tab} (o : Option (List S_api_Rel)) (hl : ¬ (lst o).length ≤ 512) (rela : Bool) (h : T 29 = some F_aps_Encode) : ∃ x, lst x = apsB rela (lst o) ∧ FnV T 29 [slV RelE o, .bool rela] (.tuple #[slV byteE x, .int .i64 (apsE rela (lst o))]) := by
  refine FnV_ex (g := fun x => .tuple #[slV byteE x, .int .i64 (apsE rela (lst o))]) (by simp [pure_bool, pure_rl]) ?_
  rw [Ev_fn h rfl]
  have q : ((512 : Int) < (lst o).length) := by omega
  have ok : encOk rela (lst o) = false := by unfold encOk; rw [decide_eq_false hl, Bool.false_and]
  simp only [F_aps_Encode, fws, cond_true, cond_false, if_true, if_false, unV, isNil, optI, iV, stepI, evalR, reduceIte, reduceCtorEq, Nat.reduceEqDiff, Int.reduceLT, Int.reduceLE, Int.reduceToNat, Nat.reduceLT, Nat.reduceLeDiff, Int.reduceEq, Int.reduceNeg, IntKind.bits, Nat.reduceAdd, Nat.reduceMul, Nat.reducePow, Int.reducePow, ini, fwi, F_aps_Encoder0_W, F_aps_Encoder1_W, F_aps_Encoder2_W, F_aps_Encoder3_W, F_aps_Encoder4_W, F_aps_Encoder5_W, F_aps_Encoder6_W, F_aps_Encoder7_W, F_aps_Encoder8_W, F_aps_Encoder9_W, F_aps_Encoder10_W, F_aps_Encoder11_g4, F_aps_Encoder11_W, F_aps_Encoder12_W, F_aps_Encoder12_g7, F_aps_Encoder12_g10, F_aps_Encoder13_W, F_aps_Encoder14_W, F_aps_Encodel1_W, F_aps_Encoder15_W, F_aps_Encoder16_W, F_aps_Encoder17_W, F_aps_Encoder18_W, F_aps_Encoder19_W, F_aps_Encoder20_W, F_aps_Encoder21_W, F_aps_Encoder23_W, F_aps_Encoder24_W, F_aps_Encoder25_W, F_aps_Encoder26_W, F_aps_Encoder27_W, F_aps_Encoder22_W, F_aps_Encodel2_W, F_aps_Encodel0_W, F_aps_Encoder28_W, F_aps_Encodec_W, F_aps_Encoder0_W, F_aps_Encoder1_W, F_aps_Encoder2_W, F_aps_Encoder3_W, F_aps_Encoder4_W, F_aps_Encoder5_W, F_aps_Encoder6_W, F_aps_Encoder7_W, F_aps_Encoder8_W, F_aps_Encoder9_W, F_aps_Encoder10_W, F_aps_Encoder11_g4, F_aps_Encoder11_W, F_aps_Encoder12_W, F_aps_Encoder12_g7, F_aps_Encoder12_g10, F_aps_Encoder13_W, F_aps_Encoder14_W, F_aps_Encodel1_W, F_aps_Encoder15_W, F_aps_Encoder16_W, F_aps_Encoder17_W, F_aps_Encoder18_W, F_aps_Encoder19_W, F_aps_Encoder20_W, F_aps_Encoder21_W, F_aps_Encoder23_W, F_aps_Encoder24_W, F_aps_Encoder25_W, F_aps_Encoder26_W, F_aps_Encoder27_W, F_aps_Encoder22_W, F_aps_Encodel2_W, F_aps_Encodel0_W, F_aps_Encoder28_W, F_aps_Encodec_W, lenI_sl, q]
  exact ⟨none, by unfold apsB; rw [ok]; rfl, by unfold apsE; rw [ok]; rfl⟩
end Go.Proofs.Ytdkdifjjpbfohaa
