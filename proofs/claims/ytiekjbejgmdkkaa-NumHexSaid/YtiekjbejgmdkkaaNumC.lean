/- Numbers in the base 16. -/
import Derived.Test.YtiekjbejgmdkkaaNumB
namespace Go.Proofs.Ytiekjbejgmdkkaa
open Go Fw
set_option linter.unusedSimpArgs false
set_option linter.unusedVariables false

abbrev hexT : List UInt8 := [48, 49, 50, 51, 52, 53, 54, 55, 56, 57, 97, 98, 99, 100, 101, 102]
def hexC (d : Nat) : UInt8 := hexT.getD d 0
def digV (c : UInt8) : Nat := if 48 ≤ c.toNat ∧ c.toNat ≤ 57 then c.toNat - 48 else if 97 ≤ c.toNat ∧ c.toNat ≤ 102 then c.toNat - 87 else 16
theorem digV_le (c : UInt8) : digV c ≤ 16 := by unfold digV; split <;> (try split) <;> omega
theorem u8_all {P : UInt8 → Bool} (h : ((List.range 256).all fun n => P (UInt8.ofNat n)) = true) (c : UInt8) : P c = true := by
  have := List.all_eq_true.1 h c.toNat (by simp; exact c.toNat_lt)
  rwa [UInt8.ofNat_toNat] at this
theorem hexC_digV {c : UInt8} (h : digV c < 16) : hexC (digV c) = c := by
  have := u8_all (P := fun c => decide (digV c < 16 → hexC (digV c) = c)) (by kernel_rfl) c
  exact of_decide_eq_true this h
theorem digV_hexC {d : Nat} (h : d < 16) : digV (hexC d) = d := by
  have : ((List.range 16).all fun d => decide (digV (hexC d) = d)) = true := by kernel_rfl
  exact of_decide_eq_true (List.all_eq_true.1 this d (by simpa using h))
theorem hexC_ne {c : UInt8} {d : Nat} (h : d < 16) : hexC d = c ↔ digV c = d := by
  constructor
  · rintro rfl; exact digV_hexC h
  · intro h2; rw [← h2]; exact hexC_digV (by omega)
def hexD : Nat → Nat → List UInt8
  | 0, _ => []
  | f + 1, n => if n < 16 then [hexC n] else hexD f (n / 16) ++ [hexC (n % 16)]
def valH (l : List UInt8) (h : Nat) : Nat := l.foldl (fun h c => h * 16 + digV c) h
def okH (l : List UInt8) : Bool := l.all fun c => decide (digV c < 16)
theorem valH_app (l : List UInt8) (c : UInt8) (h : Nat) : valH (l ++ [c]) h = valH l h * 16 + digV c := by simp [valH]
theorem valH_ge : ∀ (l : List UInt8) (h : Nat), h ≤ valH l h
  | [], h => Nat.le_refl h
  | c :: l, h => Nat.le_trans (by omega) (valH_ge l (h * 16 + digV c))
theorem hexD_val : ∀ (f n : Nat), n < 16 ^ f → valH (hexD f n) 0 = n
  | 0, n, h => by simp at h; subst h; rfl
  | f + 1, n, h => by
    have hp : 16 ^ (f + 1) = 16 ^ f * 16 := Nat.pow_succ ..
    rw [hexD]
    split
    · rename_i h16
      simp [valH, digV_hexC h16]
    · rw [valH_app, hexD_val f (n / 16) (by omega), digV_hexC (Nat.mod_lt _ (by decide))]
      omega
theorem hexD_ok : ∀ (f n : Nat), okH (hexD f n) = true
  | 0, n => rfl
  | f + 1, n => by
    rw [hexD]
    split
    · rename_i h16
      simp [okH, digV_hexC h16, h16]
    · have := hexD_ok f (n / 16)
      unfold okH at this ⊢
      rw [List.all_append, this]
      have h2 := digV_hexC (Nat.mod_lt n (show 16 > 0 by decide))
      have h3 : n % 16 < 16 := Nat.mod_lt _ (by decide)
      simp [h2, h3]
theorem hexD_ne {f n : Nat} : hexD (f + 1) n ≠ [] := by rw [hexD]; split <;> simp
theorem hexD_len : ∀ (f n : Nat), (hexD f n).length ≤ f
  | 0, n => Nat.le_refl 0
  | f + 1, n => by
    rw [hexD]
    split
    · simp
    · have := hexD_len f (n / 16)
      simp; omega
/-- No zero ahead of others. -/
def noZ (l : List UInt8) : Prop := l.head? = some 48 → l.length = 1
theorem hexD_noZ : ∀ (f n : Nat), n < 16 ^ f → noZ (hexD f n) ∧ ((hexD f n).head? = some 48 → n = 0)
  | 0, n, h => ⟨fun h => (by cases h), fun h => (by cases h)⟩
  | f + 1, n, h => by
    have hp : 16 ^ (f + 1) = 16 ^ f * 16 := Nat.pow_succ ..
    rw [hexD]
    split
    · rename_i h16
      refine ⟨fun _ => rfl, fun hh => ?_⟩
      have h1 : hexC n = 48 := by simpa using hh
      have := (hexC_ne h16).1 h1
      rw [← this]; rfl
    · rename_i h16
      obtain ⟨h1, h2⟩ := hexD_noZ f (n / 16) (by omega)
      cases f with
      | zero => simp at hp h; omega
      | succ f =>
        have hh : (hexD (f + 1) (n / 16) ++ [hexC (n % 16)]).head? = (hexD (f + 1) (n / 16)).head? := by
          cases hx : hexD (f + 1) (n / 16) with
          | nil => exact absurd hx hexD_ne
          | cons a r => rfl
        refine ⟨fun hz => ?_, fun hz => ?_⟩
        · rw [hh] at hz; have := h2 hz; omega
        · rw [hh] at hz; have := h2 hz; omega
theorem hexD_of : ∀ (f : Nat) (l : List UInt8), l ≠ [] → okH l = true → noZ l → l.length ≤ f → hexD f (valH l 0) = l := by
  intro f
  induction f with
  | zero => intro l h1 _ _ h4; exact absurd (List.length_eq_zero_iff.1 (by omega)) h1
  | succ f ih =>
    intro l h1 h2 h3 h4
    obtain ⟨r, c, rfl⟩ : ∃ r c, l = r ++ [c] := ⟨l.dropLast, l.getLast h1, (List.dropLast_concat_getLast h1).symm⟩
    have hc : digV c < 16 := by
      unfold okH at h2
      rw [List.all_append] at h2
      simp at h2
      exact h2.2
    have hr : okH r = true := by
      unfold okH at h2 ⊢
      rw [List.all_append] at h2
      simp at h2 ⊢
      exact h2.1
    rw [valH_app, hexD]
    cases r with
    | nil =>
      rw [if_pos (by simp [valH]; exact hc)]
      simp [valH, hexC_digV hc]
    | cons a r =>
      have ha : a ≠ 48 := fun ha => by
        have := h3 (by simp [ha])
        simp at this
      have ha2 : 1 ≤ digV a := by
        have h5 : digV a ≠ 0 := fun h0 => ha (by
          have := (hexC_ne (c := a) (d := 0) (by decide)).2 h0
          rw [← this]; rfl)
        omega
      have hv : 1 ≤ valH (a :: r) 0 := by
        have := valH_ge r (0 * 16 + digV a)
        show 1 ≤ valH r (0 * 16 + digV a)
        omega
      rw [if_neg (by omega)]
      have e1 : (valH (a :: r) 0 * 16 + digV c) / 16 = valH (a :: r) 0 := by omega
      have e2 : (valH (a :: r) 0 * 16 + digV c) % 16 = digV c := by omega
      rw [e1, e2, ih (a :: r) (by simp) hr (fun hz => absurd (by simpa using hz) ha) (by simp at h4 ⊢; omega), hexC_digV hc]
theorem valH_lt : ∀ (l : List UInt8) (h k : Nat), okH l = true → h < 16 ^ k → valH l h < 16 ^ (k + l.length)
  | [], h, k, _, hh => hh
  | c :: l, h, k, ho, hh => by
    unfold okH at ho
    simp at ho
    have := valH_lt l (h * 16 + digV c) (k + 1) (by unfold okH; simpa using ho.2) (by rw [Nat.pow_succ]; omega)
    rw [List.length_cons, show k + (l.length + 1) = k + 1 + l.length by omega]
    exact this

/-! The program's -/
theorem f_num_digit {T : Tab} (h : T 37 = some F_num_digit) (c : UInt8) : FnV T 37 [.int .u8 c.toNat] (.int .u64 (digV c)) := by
  refine FnV_of rfl ?_
  rw [Ev_fn h rfl]
  have hc := c.toNat_lt
  unfold digV
  by_cases h1 : 48 ≤ c.toNat ∧ c.toNat ≤ 57
  · have e1 : (48 : Int) ≤ c.toNat := by omega
    have e2 : (c.toNat : Int) ≤ 57 := by omega
    have w1 : IntKind.u64.wrap (IntKind.u8.wrap ((c.toNat : Int) - 48)) = ((c.toNat - 48 : Nat) : Int) := by rw [wrap_u8, wrap_u64]; omega
    rw [if_pos h1]
    simp only [F_num_digit, fws, cond_true, cond_false, if_true, if_false, unV, isNil, optI, iV, stepI, evalR, reduceIte, reduceCtorEq, Nat.reduceEqDiff, Int.reduceLT, Int.reduceLE, Int.reduceToNat, Nat.reduceLT, Nat.reduceLeDiff, Int.reduceEq, Int.reduceNeg, IntKind.bits, Nat.reduceAdd, Nat.reduceMul, Nat.reducePow, Int.reducePow, ini, F_num_digitr0_W, F_num_digitr1_W, F_num_digitr1_g2, F_num_digitr2_W, F_num_digitr3_W, F_num_digitr3_g2, F_num_digitr4_W, F_num_digitr5_W, F_num_digitc_W, e1, e2, w1]
    rfl
  · rw [if_neg h1]
    by_cases h2 : 97 ≤ c.toNat ∧ c.toNat ≤ 102
    · have e0 : (48 : Int) ≤ c.toNat := by omega
      have e0' : ¬ (c.toNat : Int) ≤ 57 := by omega
      have e1 : (97 : Int) ≤ c.toNat := by omega
      have e2 : (c.toNat : Int) ≤ 102 := by omega
      have w1 : IntKind.u64.wrap (IntKind.u64.wrap (IntKind.u8.wrap ((c.toNat : Int) - 97)) + 10) = ((c.toNat - 87 : Nat) : Int) := by rw [wrap_u8, wrap_u64, wrap_u64]; omega
      rw [if_pos h2]
      simp only [F_num_digit, fws, cond_true, cond_false, if_true, if_false, unV, isNil, optI, iV, stepI, evalR, reduceIte, reduceCtorEq, Nat.reduceEqDiff, Int.reduceLT, Int.reduceLE, Int.reduceToNat, Nat.reduceLT, Nat.reduceLeDiff, Int.reduceEq, Int.reduceNeg, IntKind.bits, Nat.reduceAdd, Nat.reduceMul, Nat.reducePow, Int.reducePow, ini, F_num_digitr0_W, F_num_digitr1_W, F_num_digitr1_g2, F_num_digitr2_W, F_num_digitr3_W, F_num_digitr3_g2, F_num_digitr4_W, F_num_digitr5_W, F_num_digitc_W, e0, e0', e1, e2, w1]
      rfl
    · rw [if_neg h2]
      by_cases e0 : (48 : Int) ≤ c.toNat
      · have e0' : ¬ (c.toNat : Int) ≤ 57 := by omega
        by_cases e1 : (97 : Int) ≤ c.toNat
        · have e2 : ¬ (c.toNat : Int) ≤ 102 := by omega
          simp only [F_num_digit, fws, cond_true, cond_false, if_true, if_false, unV, isNil, optI, iV, stepI, evalR, reduceIte, reduceCtorEq, Nat.reduceEqDiff, Int.reduceLT, Int.reduceLE, Int.reduceToNat, Nat.reduceLT, Nat.reduceLeDiff, Int.reduceEq, Int.reduceNeg, IntKind.bits, Nat.reduceAdd, Nat.reduceMul, Nat.reducePow, Int.reducePow, ini, F_num_digitr0_W, F_num_digitr1_W, F_num_digitr1_g2, F_num_digitr2_W, F_num_digitr3_W, F_num_digitr3_g2, F_num_digitr4_W, F_num_digitr5_W, F_num_digitc_W, e0, e0', e1, e2]
          rfl
        · simp only [F_num_digit, fws, cond_true, cond_false, if_true, if_false, unV, isNil, optI, iV, stepI, evalR, reduceIte, reduceCtorEq, Nat.reduceEqDiff, Int.reduceLT, Int.reduceLE, Int.reduceToNat, Nat.reduceLT, Nat.reduceLeDiff, Int.reduceEq, Int.reduceNeg, IntKind.bits, Nat.reduceAdd, Nat.reduceMul, Nat.reducePow, Int.reducePow, ini, F_num_digitr0_W, F_num_digitr1_W, F_num_digitr1_g2, F_num_digitr2_W, F_num_digitr3_W, F_num_digitr3_g2, F_num_digitr4_W, F_num_digitr5_W, F_num_digitc_W, e0, e0', e1]
          rfl
      · have e1 : ¬ (97 : Int) ≤ c.toNat := by omega
        simp only [F_num_digit, fws, cond_true, cond_false, if_true, if_false, unV, isNil, optI, iV, stepI, evalR, reduceIte, reduceCtorEq, Nat.reduceEqDiff, Int.reduceLT, Int.reduceLE, Int.reduceToNat, Nat.reduceLT, Nat.reduceLeDiff, Int.reduceEq, Int.reduceNeg, IntKind.bits, Nat.reduceAdd, Nat.reduceMul, Nat.reducePow, Int.reducePow, ini, F_num_digitr0_W, F_num_digitr1_W, F_num_digitr1_g2, F_num_digitr2_W, F_num_digitr3_W, F_num_digitr3_g2, F_num_digitr4_W, F_num_digitr5_W, F_num_digitc_W, e0, e1]
        rfl
theorem hex_set {k : Nat} {acc : List UInt8} {cs : List Value} (h : cs = List.replicate (k + 1) (.int .u8 0) ++ byteE.cs acc) (c : UInt8) : k + 1 ≤ cs.length ∧ cs.set k (.int .u8 c.toNat) = List.replicate k (.int .u8 0) ++ byteE.cs (c :: acc) := by
  subst h
  refine ⟨by simp, ?_⟩
  rw [List.replicate_succ', List.append_assoc, List.set_append_right _ _ (by simp)]
  simp [cs_cons, byteE_e]
theorem loop_num_Hex {T : Tab} : ∀ (f n k : Nat) (acc : List UInt8) (cs : List Value) (env : Env), n < 16 ^ (f + 1) → k + 1 + acc.length = 18 → f ≤ k → n < 18446744073709551616 → cs = List.replicate (k + 1) (.int .u8 0) ++ byteE.cs acc → env 0 = .int .u64 n → env 3 = .pointer (some ⟨0, 0, none⟩) → env 4 = .int .i64 (k + 1 : Nat) →
    W T (.loop F_num_Hexl0) env [⟨0, .cells false 1 cs⟩] fun x e h => x = .exit 0 ∧ e 3 = .pointer (some ⟨0, 0, none⟩) ∧ ∃ k' cs', k' + (hexD (f + 1) n ++ acc).length = 18 ∧ e 4 = .int .i64 (k' : Nat) ∧ h = [⟨0, .cells false 1 cs'⟩] ∧ cs' = List.replicate k' (.int .u8 0) ++ byteE.cs (hexD (f + 1) n ++ acc) := by
  intro f
  induction f with
  | zero =>
    intro n k acc cs env hn hk hf hn2 hcs v0 v3 v4
    have w1 : IntKind.i64.wrap (((k + 1 : Nat) : Int) - 1) = (k : Int) := by rw [wrapI64 (by omega) (by omega)]; omega
    have b1 : Go.bits .and .u64 (n : Int) 15 = ((n % 16 : Nat) : Int) := by
      rw [show (15 : Int) = ((15 : Nat) : Int) from rfl, (bits_u64 hn2 (by decide)).1, Nat.and_two_pow_sub_one_eq_mod n 4]
    have b2 : (n : Int).fdiv 16 = ((n / 16 : Nat) : Int) := shrN (k := 4)
    have hm : ((n % 16 : Nat) : Int) < 16 := by omega
    have hm0 : (0 : Int) ≤ ((n % 16 : Nat) : Int) := by omega
    have hk0 : (0 : Int) ≤ (k : Int) := by omega
    have hk18 : (k : Int) < 18 := by omega
    have hz : decide (((n / 16 : Nat) : Int) = 0) = true := by simp; omega
    obtain ⟨s1, s2⟩ := hex_set hcs (hexC (n % 16))
    have hD : hexD 1 n = [hexC (n % 16)] := by rw [hexD, if_pos (by omega), Nat.mod_eq_of_lt (by omega)]
    unfold hexC at s2
    rw [w_loop]
    simp only [fws, cond_true, cond_false, if_true, if_false, unV, isNil, optI, iV, stepI, evalR, reduceIte, reduceCtorEq, Nat.reduceEqDiff, Int.reduceLT, Int.reduceLE, Int.reduceToNat, Nat.reduceLT, Nat.reduceLeDiff, Int.reduceEq, Int.reduceNeg, IntKind.bits, Nat.reduceAdd, Nat.reduceMul, Nat.reducePow, Int.reducePow, ini, fwh, lk, cellsAt, tagOf, spotOf, rdN, spl, fillL, zr, fwi, F_num_Hexr0_W, F_num_Hexr1_W, F_num_Hexr2_W, F_num_Hexr3_W, F_num_Hexr4_W, F_num_Hexr5_W, F_num_Hexr6_W, F_num_Hexl0_W, F_num_Hexr7_W, F_num_Hexc_W, v0, v3, v4, w1, b1, b2, hm, hm0, hk0, hk18, and_self, Nat.mul_one, s1, hz]
    refine ⟨trivial, trivial, k, _, ?_, rfl, rfl, ?_⟩
    · rw [hD]; simp; omega
    · rw [s2, hD]; rfl
  | succ f ih =>
    intro n k acc cs env hn hk hf hn2 hcs v0 v3 v4
    have w1 : IntKind.i64.wrap (((k + 1 : Nat) : Int) - 1) = (k : Int) := by rw [wrapI64 (by omega) (by omega)]; omega
    have b1 : Go.bits .and .u64 (n : Int) 15 = ((n % 16 : Nat) : Int) := by
      rw [show (15 : Int) = ((15 : Nat) : Int) from rfl, (bits_u64 hn2 (by decide)).1, Nat.and_two_pow_sub_one_eq_mod n 4]
    have b2 : (n : Int).fdiv 16 = ((n / 16 : Nat) : Int) := shrN (k := 4)
    have hm : ((n % 16 : Nat) : Int) < 16 := by omega
    have hm0 : (0 : Int) ≤ ((n % 16 : Nat) : Int) := by omega
    have hk0 : (0 : Int) ≤ (k : Int) := by omega
    have hk18 : (k : Int) < 18 := by omega
    obtain ⟨s1, s2⟩ := hex_set hcs (hexC (n % 16))
    unfold hexC at s2
    rw [w_loop]
    by_cases h16 : n < 16
    · have hz : decide (((n / 16 : Nat) : Int) = 0) = true := by simp; omega
      have hD : hexD (f + 1 + 1) n = [hexC (n % 16)] := by rw [hexD, if_pos h16, Nat.mod_eq_of_lt h16]
      simp only [fws, cond_true, cond_false, if_true, if_false, unV, isNil, optI, iV, stepI, evalR, reduceIte, reduceCtorEq, Nat.reduceEqDiff, Int.reduceLT, Int.reduceLE, Int.reduceToNat, Nat.reduceLT, Nat.reduceLeDiff, Int.reduceEq, Int.reduceNeg, IntKind.bits, Nat.reduceAdd, Nat.reduceMul, Nat.reducePow, Int.reducePow, ini, fwh, lk, cellsAt, tagOf, spotOf, rdN, spl, fillL, zr, fwi, F_num_Hexr0_W, F_num_Hexr1_W, F_num_Hexr2_W, F_num_Hexr3_W, F_num_Hexr4_W, F_num_Hexr5_W, F_num_Hexr6_W, F_num_Hexl0_W, F_num_Hexr7_W, F_num_Hexc_W, v0, v3, v4, w1, b1, b2, hm, hm0, hk0, hk18, and_self, Nat.mul_one, s1, hz]
      refine ⟨trivial, trivial, k, _, ?_, rfl, rfl, ?_⟩
      · rw [hD]; simp; omega
      · rw [s2, hD]; rfl
    · have hz : decide (((n / 16 : Nat) : Int) = 0) = false := by simp; omega
      have hD : hexD (f + 1 + 1) n = hexD (f + 1) (n / 16) ++ [hexC (n % 16)] := by rw [hexD, if_neg h16]
      have hp : 16 ^ (f + 1 + 1) = 16 ^ (f + 1) * 16 := Nat.pow_succ ..
      obtain ⟨k2, rfl⟩ : ∃ k2, k = k2 + 1 := ⟨k - 1, by omega⟩
      simp only [fws, cond_true, cond_false, if_true, if_false, unV, isNil, optI, iV, stepI, evalR, reduceIte, reduceCtorEq, Nat.reduceEqDiff, Int.reduceLT, Int.reduceLE, Int.reduceToNat, Nat.reduceLT, Nat.reduceLeDiff, Int.reduceEq, Int.reduceNeg, IntKind.bits, Nat.reduceAdd, Nat.reduceMul, Nat.reducePow, Int.reducePow, ini, fwh, lk, cellsAt, tagOf, spotOf, rdN, spl, fillL, zr, fwi, F_num_Hexr0_W, F_num_Hexr1_W, F_num_Hexr2_W, F_num_Hexr3_W, F_num_Hexr4_W, F_num_Hexr5_W, F_num_Hexr6_W, F_num_Hexl0_W, F_num_Hexr7_W, F_num_Hexc_W, v0, v3, v4, w1, b1, b2, hm, hm0, hk0, hk18, and_self, Nat.mul_one, s1, hz]
      refine W.mono (ih (n / 16) k2 (hexC (n % 16) :: acc) _ _ (by omega) (by simp; omega) (by omega) (by omega) s2 ?_ ?_ ?_) fun x e h ⟨g1, g2, k', cs', g3, g4, g5, g6⟩ => ?_
      · (first | (simp only [fws, cond_true, cond_false, if_true, if_false, unV, isNil, optI, iV, stepI, evalR, reduceIte, reduceCtorEq, Nat.reduceEqDiff, Int.reduceLT, Int.reduceLE, Int.reduceToNat, Nat.reduceLT, Nat.reduceLeDiff, Int.reduceEq, Int.reduceNeg, IntKind.bits, Nat.reduceAdd, Nat.reduceMul, Nat.reducePow, Int.reducePow, ini, *]; done) | (simp only [fws, cond_true, cond_false, if_true, if_false, unV, isNil, optI, iV, stepI, evalR, reduceIte, reduceCtorEq, Nat.reduceEqDiff, Int.reduceLT, Int.reduceLE, Int.reduceToNat, Nat.reduceLT, Nat.reduceLeDiff, Int.reduceEq, Int.reduceNeg, IntKind.bits, Nat.reduceAdd, Nat.reduceMul, Nat.reducePow, Int.reducePow, ini]; rfl))
      · (first | (simp only [fws, cond_true, cond_false, if_true, if_false, unV, isNil, optI, iV, stepI, evalR, reduceIte, reduceCtorEq, Nat.reduceEqDiff, Int.reduceLT, Int.reduceLE, Int.reduceToNat, Nat.reduceLT, Nat.reduceLeDiff, Int.reduceEq, Int.reduceNeg, IntKind.bits, Nat.reduceAdd, Nat.reduceMul, Nat.reducePow, Int.reducePow, ini, *]; done) | (simp only [fws, cond_true, cond_false, if_true, if_false, unV, isNil, optI, iV, stepI, evalR, reduceIte, reduceCtorEq, Nat.reduceEqDiff, Int.reduceLT, Int.reduceLE, Int.reduceToNat, Nat.reduceLT, Nat.reduceLeDiff, Int.reduceEq, Int.reduceNeg, IntKind.bits, Nat.reduceAdd, Nat.reduceMul, Nat.reducePow, Int.reducePow, ini]; rfl))
      · (first | (simp only [fws, cond_true, cond_false, if_true, if_false, unV, isNil, optI, iV, stepI, evalR, reduceIte, reduceCtorEq, Nat.reduceEqDiff, Int.reduceLT, Int.reduceLE, Int.reduceToNat, Nat.reduceLT, Nat.reduceLeDiff, Int.reduceEq, Int.reduceNeg, IntKind.bits, Nat.reduceAdd, Nat.reduceMul, Nat.reducePow, Int.reducePow, ini, *]; done) | (simp only [fws, cond_true, cond_false, if_true, if_false, unV, isNil, optI, iV, stepI, evalR, reduceIte, reduceCtorEq, Nat.reduceEqDiff, Int.reduceLT, Int.reduceLE, Int.reduceToNat, Nat.reduceLT, Nat.reduceLeDiff, Int.reduceEq, Int.reduceNeg, IntKind.bits, Nat.reduceAdd, Nat.reduceMul, Nat.reducePow, Int.reducePow, ini]; rfl))
      rw [hD]
      exact ⟨g1, g2, k', cs', by simp at g3 ⊢; omega, g4, g5, by rw [g6, List.append_assoc]; rfl⟩
theorem f_num_Hex {T : Tab} (h : T 29 = some F_num_Hex) {n : Nat} (hn : n < 18446744073709551616) : FnV T 29 [.int .u64 n] (strV (48 :: 120 :: hexD 16 n)) := by
  refine FnV_of rfl ?_
  rw [Ev_fn h rfl]
  simp only [F_num_Hex, fws, cond_true, cond_false, if_true, if_false, unV, isNil, optI, iV, stepI, evalR, reduceIte, reduceCtorEq, Nat.reduceEqDiff, Int.reduceLT, Int.reduceLE, Int.reduceToNat, Nat.reduceLT, Nat.reduceLeDiff, Int.reduceEq, Int.reduceNeg, IntKind.bits, Nat.reduceAdd, Nat.reduceMul, Nat.reducePow, Int.reducePow, ini, fwi, F_num_Hexr0_W, F_num_Hexr1_W, F_num_Hexr2_W, F_num_Hexr3_W, F_num_Hexr4_W, F_num_Hexr5_W, F_num_Hexr6_W, F_num_Hexl0_W, F_num_Hexr7_W, F_num_Hexc_W]
  refine W.mono (loop_num_Hex 15 n 17 [] _ _ (by omega) rfl (by omega) hn rfl ?_ ?_ ?_) fun x e h ⟨g1, g2, k', cs', g3, g4, g5, g6⟩ => ?_
  · (first | (simp only [fws, cond_true, cond_false, if_true, if_false, unV, isNil, optI, iV, stepI, evalR, reduceIte, reduceCtorEq, Nat.reduceEqDiff, Int.reduceLT, Int.reduceLE, Int.reduceToNat, Nat.reduceLT, Nat.reduceLeDiff, Int.reduceEq, Int.reduceNeg, IntKind.bits, Nat.reduceAdd, Nat.reduceMul, Nat.reducePow, Int.reducePow, ini, *]; done) | (simp only [fws, cond_true, cond_false, if_true, if_false, unV, isNil, optI, iV, stepI, evalR, reduceIte, reduceCtorEq, Nat.reduceEqDiff, Int.reduceLT, Int.reduceLE, Int.reduceToNat, Nat.reduceLT, Nat.reduceLeDiff, Int.reduceEq, Int.reduceNeg, IntKind.bits, Nat.reduceAdd, Nat.reduceMul, Nat.reducePow, Int.reducePow, ini]; rfl))
  · (first | (simp only [fws, cond_true, cond_false, if_true, if_false, unV, isNil, optI, iV, stepI, evalR, reduceIte, reduceCtorEq, Nat.reduceEqDiff, Int.reduceLT, Int.reduceLE, Int.reduceToNat, Nat.reduceLT, Nat.reduceLeDiff, Int.reduceEq, Int.reduceNeg, IntKind.bits, Nat.reduceAdd, Nat.reduceMul, Nat.reducePow, Int.reducePow, ini, *]; done) | (simp only [fws, cond_true, cond_false, if_true, if_false, unV, isNil, optI, iV, stepI, evalR, reduceIte, reduceCtorEq, Nat.reduceEqDiff, Int.reduceLT, Int.reduceLE, Int.reduceToNat, Nat.reduceLT, Nat.reduceLeDiff, Int.reduceEq, Int.reduceNeg, IntKind.bits, Nat.reduceAdd, Nat.reduceMul, Nat.reducePow, Int.reducePow, ini]; rfl))
  · (first | (simp only [fws, cond_true, cond_false, if_true, if_false, unV, isNil, optI, iV, stepI, evalR, reduceIte, reduceCtorEq, Nat.reduceEqDiff, Int.reduceLT, Int.reduceLE, Int.reduceToNat, Nat.reduceLT, Nat.reduceLeDiff, Int.reduceEq, Int.reduceNeg, IntKind.bits, Nat.reduceAdd, Nat.reduceMul, Nat.reducePow, Int.reducePow, ini, *]; done) | (simp only [fws, cond_true, cond_false, if_true, if_false, unV, isNil, optI, iV, stepI, evalR, reduceIte, reduceCtorEq, Nat.reduceEqDiff, Int.reduceLT, Int.reduceLE, Int.reduceToNat, Nat.reduceLT, Nat.reduceLeDiff, Int.reduceEq, Int.reduceNeg, IntKind.bits, Nat.reduceAdd, Nat.reduceMul, Nat.reducePow, Int.reducePow, ini]; rfl))
  subst g1; subst g5
  simp only [List.append_nil, Nat.reduceAdd] at g3 g6
  have hcl : cs'.length = 18 := by rw [g6, List.length_append, List.length_replicate, cs_length, byteE_u]; omega
  have hb2 : b2sI [⟨0, .cells false 1 cs'⟩] (.slice (some ⟨0, k', none⟩) (18 - k') (18 - k')) = some (strV (hexD 16 n), [⟨0, .cells false 1 cs'⟩]) := by
    have h1 : cellsAt [⟨0, .cells false 1 cs'⟩] ⟨0, k', none⟩ = some (cs'.drop k') := rfl
    have h2 : cs'.drop k' = byteE.cs (hexD 16 n) := by rw [g6, List.drop_left' (by simp)]
    have h3 : 18 - k' = (hexD 16 n).length * byteE.u := by rw [byteE_u]; omega
    simp only [b2sI, h1, h2, h3, rdN_cs rfl, Option.bind_some, strOf_bytes, Option.map_some]
  have hsz : 2 + (hexD 16 n).length ≤ 9223372036854775807 := by omega
  have hap : (⟨#[48, 120]⟩ : ByteArray) ++ (⟨(hexD 16 n).toArray⟩ : ByteArray) = ⟨(48 :: 120 :: hexD 16 n).toArray⟩ := by
    apply ByteArray.ext
    rw [ByteArray.data_append]
    simp
  have hk0 : (0 : Int) ≤ (k' : Int) := by omega
  have hk18 : (k' : Int) ≤ 18 := by omega
  simp only [fws, cond_true, cond_false, if_true, if_false, unV, isNil, optI, iV, stepI, evalR, reduceIte, reduceCtorEq, Nat.reduceEqDiff, Int.reduceLT, Int.reduceLE, Int.reduceToNat, Nat.reduceLT, Nat.reduceLeDiff, Int.reduceEq, Int.reduceNeg, IntKind.bits, Nat.reduceAdd, Nat.reduceMul, Nat.reducePow, Int.reducePow, ini, fwh, lk, cellsAt, tagOf, spotOf, rdN, spl, fillL, zr, fwi, F_num_Hexr0_W, F_num_Hexr1_W, F_num_Hexr2_W, F_num_Hexr3_W, F_num_Hexr4_W, F_num_Hexr5_W, F_num_Hexr6_W, F_num_Hexl0_W, F_num_Hexr7_W, F_num_Hexc_W, g2, g4, hk0, hk18, and_self, Nat.mul_one, hcl, hb2, hsz, hap]
  rfl
theorem str_app (a b : List UInt8) : (⟨a.toArray⟩ : ByteArray) ++ (⟨b.toArray⟩ : ByteArray) = ⟨(a ++ b).toArray⟩ := by
  apply ByteArray.ext
  rw [ByteArray.data_append]
  simp
theorem hex_ext {d : Nat} (h : d < 16) : (⟨#[48, 49, 50, 51, 52, 53, 54, 55, 56, 57, 97, 98, 99, 100, 101, 102]⟩ : ByteArray).extract d (d + 1) = ⟨[hexC d].toArray⟩ := by
  have : ((List.range 16).all fun d => decide ((⟨#[48, 49, 50, 51, 52, 53, 54, 55, 56, 57, 97, 98, 99, 100, 101, 102]⟩ : ByteArray).extract d (d + 1) = ⟨[hexC d].toArray⟩)) = true := by kernel_rfl
  exact of_decide_eq_true (List.all_eq_true.1 this d (by simpa using h))
theorem loop_ref01_Hex {T : Tab} : ∀ (f n : Nat) (acc : List UInt8) (env : Env), n < 16 ^ f → (acc = [] → 1 ≤ f) → f + acc.length ≤ 100 → n < 18446744073709551616 → env 0 = .int .u64 n → env 3 = strV hexT → env 4 = strV acc →
    W T (.loop F_ref01_Hexl0) env [] fun x e h => x = .exit 0 ∧ h = [] ∧ e 4 = strV (if n = 0 ∧ acc ≠ [] then acc else hexD f n ++ acc) := by
  intro f
  induction f with
  | zero =>
    intro n acc env hn ha hl hn2 v0 v3 v4
    simp at hn
    subst hn
    cases acc with
    | nil => have := ha rfl; omega
    | cons c acc =>
      have hs : strEq ⟨(c :: acc).toArray⟩ ⟨#[]⟩ = false := rfl
      have v0 : env 0 = .int .u64 0 := v0
      rw [w_loop, if_pos ⟨rfl, by simp⟩]
      simp only [fws, cond_true, cond_false, if_true, if_false, unV, isNil, optI, iV, stepI, evalR, reduceIte, reduceCtorEq, Nat.reduceEqDiff, Int.reduceLT, Int.reduceLE, Int.reduceToNat, Nat.reduceLT, Nat.reduceLeDiff, Int.reduceEq, Int.reduceNeg, IntKind.bits, Nat.reduceAdd, Nat.reduceMul, Nat.reducePow, Int.reducePow, ini, F_ref01_Hexr0_W, F_ref01_Hexr1_W, F_ref01_Hexr2_W, F_ref01_Hexr3_W, F_ref01_Hexr3_g2, F_ref01_Hexr4_W, F_ref01_Hexr5_W, F_ref01_Hexl0_W, F_ref01_Hexr6_W, F_ref01_Hexc_W, v0, v3, v4, hs, and_self]
  | succ f ih =>
    intro n acc env hn ha hl hn2 v0 v3 v4
    have hp : 16 ^ (f + 1) = 16 ^ f * 16 := Nat.pow_succ ..
    rw [w_loop]
    by_cases hdone : n = 0 ∧ acc ≠ []
    · obtain ⟨rfl, hne⟩ := hdone
      have hs : strEq ⟨acc.toArray⟩ ⟨#[]⟩ = false := by
        cases acc with
        | nil => exact absurd rfl hne
        | cons => rfl
      have v0 : env 0 = .int .u64 0 := v0
      rw [if_pos ⟨rfl, hne⟩]
      simp only [fws, cond_true, cond_false, if_true, if_false, unV, isNil, optI, iV, stepI, evalR, reduceIte, reduceCtorEq, Nat.reduceEqDiff, Int.reduceLT, Int.reduceLE, Int.reduceToNat, Nat.reduceLT, Nat.reduceLeDiff, Int.reduceEq, Int.reduceNeg, IntKind.bits, Nat.reduceAdd, Nat.reduceMul, Nat.reducePow, Int.reducePow, ini, F_ref01_Hexr0_W, F_ref01_Hexr1_W, F_ref01_Hexr2_W, F_ref01_Hexr3_W, F_ref01_Hexr3_g2, F_ref01_Hexr4_W, F_ref01_Hexr5_W, F_ref01_Hexl0_W, F_ref01_Hexr6_W, F_ref01_Hexc_W, v0, v3, v4, hs, and_self]
    · rw [if_neg hdone]
      have w1 : (n : Int).tmod 16 = ((n % 16 : Nat) : Int) := by rw [tmodN (by omega)]; rfl
      have w2 : IntKind.u64.wrap (((n % 16 : Nat) : Int) + 1) = ((n % 16 + 1 : Nat) : Int) := by rw [wrap_u64]; omega
      have w3 : IntKind.u64.wrap ((n : Int).tdiv 16) = ((n / 16 : Nat) : Int) := by rw [tdivN (by omega), wrap_u64]; omega
      have h0 : (0 : Int) ≤ ((n % 16 : Nat) : Int) := by omega
      have h1 : ((n % 16 : Nat) : Int) ≤ ((n % 16 + 1 : Nat) : Int) := by omega
      have h2 : ((n % 16 + 1 : Nat) : Int) ≤ ((hexT.length : Nat) : Int) := by show _ ≤ (16 : Int); omega
      have hx := hex_ext (Nat.mod_lt n (show 16 > 0 by decide))
      have hsz : [hexC (n % 16)].length + acc.length ≤ 9223372036854775807 := by simp; omega
      have hap := str_app [hexC (n % 16)] acc
      have fin : ∀ env' : Env, env' 0 = .int .u64 (n / 16 : Nat) → env' 3 = strV hexT → env' 4 = strV (hexC (n % 16) :: acc) →
          W T (.loop F_ref01_Hexl0) env' [] fun x e h => x = .exit 0 ∧ h = [] ∧ e 4 = strV (hexD (f + 1) n ++ acc) := fun env' u0 u3 u4 => by
        refine W.mono (ih (n / 16) (hexC (n % 16) :: acc) env' (by omega) (by simp) (by simp; omega) (by omega) u0 u3 u4) fun x e h ⟨g1, g2, g3⟩ => ⟨g1, g2, ?_⟩
        rw [g3]
        by_cases h16 : n < 16
        · rw [if_pos ⟨by omega, by simp⟩, hexD, if_pos h16, Nat.mod_eq_of_lt h16]; rfl
        · rw [if_neg (by omega), hexD, if_neg h16, List.append_assoc]; rfl
      by_cases hn0 : n = 0
      · have hac : acc = [] := by
          cases acc with
          | nil => rfl
          | cons => exact absurd ⟨hn0, by simp⟩ hdone
        subst hac
        have hq : ¬ ((0 : Int) < (n : Int)) := by omega
        have hs : strEq ⟨([] : List UInt8).toArray⟩ ⟨#[]⟩ = true := rfl
        simp only [fws, cond_true, cond_false, if_true, if_false, unV, isNil, optI, iV, stepI, evalR, reduceIte, reduceCtorEq, Nat.reduceEqDiff, Int.reduceLT, Int.reduceLE, Int.reduceToNat, Nat.reduceLT, Nat.reduceLeDiff, Int.reduceEq, Int.reduceNeg, IntKind.bits, Nat.reduceAdd, Nat.reduceMul, Nat.reducePow, Int.reducePow, ini, fwi, F_ref01_Hexr0_W, F_ref01_Hexr1_W, F_ref01_Hexr2_W, F_ref01_Hexr3_W, F_ref01_Hexr3_g2, F_ref01_Hexr4_W, F_ref01_Hexr5_W, F_ref01_Hexl0_W, F_ref01_Hexr6_W, F_ref01_Hexc_W, v0, v3, v4, hq, hs, w1, w2, w3, h0, h1, h2, and_self, hx, hsz, hap]
        refine fin _ ?_ ?_ ?_
        all_goals (first | (simp only [fws, cond_true, cond_false, if_true, if_false, unV, isNil, optI, iV, stepI, evalR, reduceIte, reduceCtorEq, Nat.reduceEqDiff, Int.reduceLT, Int.reduceLE, Int.reduceToNat, Nat.reduceLT, Nat.reduceLeDiff, Int.reduceEq, Int.reduceNeg, IntKind.bits, Nat.reduceAdd, Nat.reduceMul, Nat.reducePow, Int.reducePow, ini, *]; done) | (simp only [fws, cond_true, cond_false, if_true, if_false, unV, isNil, optI, iV, stepI, evalR, reduceIte, reduceCtorEq, Nat.reduceEqDiff, Int.reduceLT, Int.reduceLE, Int.reduceToNat, Nat.reduceLT, Nat.reduceLeDiff, Int.reduceEq, Int.reduceNeg, IntKind.bits, Nat.reduceAdd, Nat.reduceMul, Nat.reducePow, Int.reducePow, ini]; rfl))
      · have hq : ((0 : Int) < (n : Int)) := by omega
        simp only [fws, cond_true, cond_false, if_true, if_false, unV, isNil, optI, iV, stepI, evalR, reduceIte, reduceCtorEq, Nat.reduceEqDiff, Int.reduceLT, Int.reduceLE, Int.reduceToNat, Nat.reduceLT, Nat.reduceLeDiff, Int.reduceEq, Int.reduceNeg, IntKind.bits, Nat.reduceAdd, Nat.reduceMul, Nat.reducePow, Int.reducePow, ini, fwi, F_ref01_Hexr0_W, F_ref01_Hexr1_W, F_ref01_Hexr2_W, F_ref01_Hexr3_W, F_ref01_Hexr3_g2, F_ref01_Hexr4_W, F_ref01_Hexr5_W, F_ref01_Hexl0_W, F_ref01_Hexr6_W, F_ref01_Hexc_W, v0, v3, v4, hq, w1, w2, w3, h0, h1, h2, and_self, hx, hsz, hap]
        refine fin _ ?_ ?_ ?_
        all_goals (first | (simp only [fws, cond_true, cond_false, if_true, if_false, unV, isNil, optI, iV, stepI, evalR, reduceIte, reduceCtorEq, Nat.reduceEqDiff, Int.reduceLT, Int.reduceLE, Int.reduceToNat, Nat.reduceLT, Nat.reduceLeDiff, Int.reduceEq, Int.reduceNeg, IntKind.bits, Nat.reduceAdd, Nat.reduceMul, Nat.reducePow, Int.reducePow, ini, *]; done) | (simp only [fws, cond_true, cond_false, if_true, if_false, unV, isNil, optI, iV, stepI, evalR, reduceIte, reduceCtorEq, Nat.reduceEqDiff, Int.reduceLT, Int.reduceLE, Int.reduceToNat, Nat.reduceLT, Nat.reduceLeDiff, Int.reduceEq, Int.reduceNeg, IntKind.bits, Nat.reduceAdd, Nat.reduceMul, Nat.reducePow, Int.reducePow, ini]; rfl))
end Go.Proofs.Ytiekjbejgmdkkaa
