/- Numbers as texts, in the bases 16 and 10. -/
import Derived.Test.YtfhhfanapgjcgaaDoorFwC
import Derived.Test.YtfhhfanapgjcgaaDoorIrSa
import Derived.Test.YtfhhfanapgjcgaaDoorStSc
import Derived.Test.YtfhhfanapgjcgaaDoorScR
namespace Go.Proofs.YtfhhfanapgjcgaaDoor
open Go Fw
set_option linter.unusedSimpArgs false
set_option linter.unusedVariables false
set_option linter.unusedSectionVars false

abbrev hexT : List UInt8 := [48, 49, 50, 51, 52, 53, 54, 55, 56, 57, 97, 98, 99, 100, 101, 102]
def hexC (d : Nat) : UInt8 := hexT.getD d 0
def hexD : Nat → Nat → List UInt8
  | 0, _ => []
  | f + 1, n => if n < 16 then [hexC n] else hexD f (n / 16) ++ [hexC (n % 16)]
theorem hexD_ne {f n : Nat} : hexD (f + 1) n ≠ [] := by rw [hexD]; split <;> simp
theorem hexD_len : ∀ (f n : Nat), (hexD f n).length ≤ f
  | 0, n => Nat.le_refl 0
  | f + 1, n => by
    rw [hexD]
    split
    · simp
    · have := hexD_len f (n / 16)
      simp; omega
/-- No zero ahead of others. -/
def noZ (l : List UInt8) : Prop := l.head? = some 48 → l.length = 1
theorem hex_set {k : Nat} {acc : List UInt8} {cs : List Value} (h : cs = List.replicate (k + 1) (.int .u8 0) ++ byteE.cs acc) (c : UInt8) : k + 1 ≤ cs.length ∧ cs.set k (.int .u8 c.toNat) = List.replicate k (.int .u8 0) ++ byteE.cs (c :: acc) := by
  subst h
  refine ⟨by simp, ?_⟩
  rw [List.replicate_succ', List.append_assoc, List.set_append_right _ _ (by simp)]
  simp [cs_cons, byteE_e]
theorem loop_num_Hex {T : Tab} : ∀ (f n k : Nat) (acc : List UInt8) (cs : List Value) (env : Env), n < 16 ^ (f + 1) → k + 1 + acc.length = 18 → f ≤ k → n < 18446744073709551616 → cs = List.replicate (k + 1) (.int .u8 0) ++ byteE.cs acc → env 0 = .int .u64 n → env 3 = .pointer (some ⟨0, 0, none⟩) → env 4 = .int .i64 (k + 1 : Nat) →
    W T (.loop F_num_Hexl0) env [⟨0, .cells false 1 cs⟩] fun x e h => x = .exit 0 ∧ e 3 = .pointer (some ⟨0, 0, none⟩) ∧ ∃ k' cs', k' + (hexD (f + 1) n ++ acc).length = 18 ∧ e 4 = .int .i64 (k' : Nat) ∧ h = [⟨0, .cells false 1 cs'⟩] ∧ cs' = List.replicate k' (.int .u8 0) ++ byteE.cs (hexD (f + 1) n ++ acc) := by
  intro f
  induction f with
  | zero =>
    intro n k acc cs env hn hk hf hn2 hcs v0 v3 v4
    have w1 : IntKind.i64.wrap (((k + 1 : Nat) : Int) - 1) = (k : Int) := by rw [wrapI64 (by omega) (by omega)]; omega
    have b1 : Go.bits .and .u64 (n : Int) 15 = ((n % 16 : Nat) : Int) := by
      rw [show (15 : Int) = ((15 : Nat) : Int) from rfl, (bits_u64 hn2 (by decide)).1, Nat.and_two_pow_sub_one_eq_mod n 4]
    have b2 : (n : Int).fdiv 16 = ((n / 16 : Nat) : Int) := shrN (k := 4)
    have hm : ((n % 16 : Nat) : Int) < 16 := by omega
    have hm0 : (0 : Int) ≤ ((n % 16 : Nat) : Int) := by omega
    have hk0 : (0 : Int) ≤ (k : Int) := by omega
    have hk18 : (k : Int) < 18 := by omega
    have hz : decide (((n / 16 : Nat) : Int) = 0) = true := by simp; omega
    obtain ⟨s1, s2⟩ := hex_set hcs (hexC (n % 16))
    have hD : hexD 1 n = [hexC (n % 16)] := by rw [hexD, if_pos (by omega), Nat.mod_eq_of_lt (by omega)]
    unfold hexC at s2
    rw [w_loop]
    simp only [fws, seval, cond_true, cond_false, if_true, if_false, unV, isNil, optI, iV, stepI, evalR, IntKind.bits, ini, fwh, lk, cellsAt, tagOf, spotOf, rdN, spl, fillL, zr, fwi, N_num_Hex, v0, v3, v4, w1, b1, b2, hm, hm0, hk0, hk18, and_self, Nat.mul_one, s1, hz]
    refine ⟨trivial, trivial, k, _, ?_, rfl, rfl, ?_⟩
    · rw [hD]; simp; omega
    · rw [s2, hD]; rfl
  | succ f ih =>
    intro n k acc cs env hn hk hf hn2 hcs v0 v3 v4
    have w1 : IntKind.i64.wrap (((k + 1 : Nat) : Int) - 1) = (k : Int) := by rw [wrapI64 (by omega) (by omega)]; omega
    have b1 : Go.bits .and .u64 (n : Int) 15 = ((n % 16 : Nat) : Int) := by
      rw [show (15 : Int) = ((15 : Nat) : Int) from rfl, (bits_u64 hn2 (by decide)).1, Nat.and_two_pow_sub_one_eq_mod n 4]
    have b2 : (n : Int).fdiv 16 = ((n / 16 : Nat) : Int) := shrN (k := 4)
    have hm : ((n % 16 : Nat) : Int) < 16 := by omega
    have hm0 : (0 : Int) ≤ ((n % 16 : Nat) : Int) := by omega
    have hk0 : (0 : Int) ≤ (k : Int) := by omega
    have hk18 : (k : Int) < 18 := by omega
    obtain ⟨s1, s2⟩ := hex_set hcs (hexC (n % 16))
    unfold hexC at s2
    rw [w_loop]
    by_cases h16 : n < 16
    · have hz : decide (((n / 16 : Nat) : Int) = 0) = true := by simp; omega
      have hD : hexD (f + 1 + 1) n = [hexC (n % 16)] := by rw [hexD, if_pos h16, Nat.mod_eq_of_lt h16]
      simp only [fws, seval, cond_true, cond_false, if_true, if_false, unV, isNil, optI, iV, stepI, evalR, IntKind.bits, ini, fwh, lk, cellsAt, tagOf, spotOf, rdN, spl, fillL, zr, fwi, N_num_Hex, v0, v3, v4, w1, b1, b2, hm, hm0, hk0, hk18, and_self, Nat.mul_one, s1, hz]
      refine ⟨trivial, trivial, k, _, ?_, rfl, rfl, ?_⟩
      · rw [hD]; simp; omega
      · rw [s2, hD]; rfl
    · have hz : decide (((n / 16 : Nat) : Int) = 0) = false := by simp; omega
      have hD : hexD (f + 1 + 1) n = hexD (f + 1) (n / 16) ++ [hexC (n % 16)] := by rw [hexD, if_neg h16]
      have hp : 16 ^ (f + 1 + 1) = 16 ^ (f + 1) * 16 := Nat.pow_succ ..
      obtain ⟨k2, rfl⟩ : ∃ k2, k = k2 + 1 := ⟨k - 1, by omega⟩
      simp only [fws, seval, cond_true, cond_false, if_true, if_false, unV, isNil, optI, iV, stepI, evalR, IntKind.bits, ini, fwh, lk, cellsAt, tagOf, spotOf, rdN, spl, fillL, zr, fwi, N_num_Hex, v0, v3, v4, w1, b1, b2, hm, hm0, hk0, hk18, and_self, Nat.mul_one, s1, hz]
      refine W.mono (ih (n / 16) k2 (hexC (n % 16) :: acc) _ _ (by omega) (by simp; omega) (by omega) (by omega) s2 ?_ ?_ ?_) fun x e h ⟨g1, g2, k', cs', g3, g4, g5, g6⟩ => ?_
      · (first | (simp only [fws, seval, cond_true, cond_false, if_true, if_false, unV, isNil, optI, iV, stepI, evalR, IntKind.bits, ini, *]; done) | (simp only [fws, seval, cond_true, cond_false, if_true, if_false, unV, isNil, optI, iV, stepI, evalR, IntKind.bits, ini]; rfl))
      · (first | (simp only [fws, seval, cond_true, cond_false, if_true, if_false, unV, isNil, optI, iV, stepI, evalR, IntKind.bits, ini, *]; done) | (simp only [fws, seval, cond_true, cond_false, if_true, if_false, unV, isNil, optI, iV, stepI, evalR, IntKind.bits, ini]; rfl))
      · (first | (simp only [fws, seval, cond_true, cond_false, if_true, if_false, unV, isNil, optI, iV, stepI, evalR, IntKind.bits, ini, *]; done) | (simp only [fws, seval, cond_true, cond_false, if_true, if_false, unV, isNil, optI, iV, stepI, evalR, IntKind.bits, ini]; rfl))
      rw [hD]
      exact ⟨g1, g2, k', cs', by simp at g3 ⊢; omega, g4, g5, by rw [g6, List.append_assoc]; rfl⟩
theorem f_num_Hex {T : Tab} (h : T 22 = some F_num_Hex) {n : Nat} (hn : n < 18446744073709551616) : FnV T 22 [.int .u64 n] (strV (48 :: 120 :: hexD 16 n)) := by
  refine FnV_of rfl ?_
  rw [Ev_fn h rfl]
  simp only [F_num_Hex, fws, seval, cond_true, cond_false, if_true, if_false, unV, isNil, optI, iV, stepI, evalR, IntKind.bits, ini, fwi, N_num_Hex]
  refine W.mono (loop_num_Hex 15 n 17 [] _ _ (by omega) rfl (by omega) hn rfl ?_ ?_ ?_) fun x e h ⟨g1, g2, k', cs', g3, g4, g5, g6⟩ => ?_
  · (first | (simp only [fws, seval, cond_true, cond_false, if_true, if_false, unV, isNil, optI, iV, stepI, evalR, IntKind.bits, ini, *]; done) | (simp only [fws, seval, cond_true, cond_false, if_true, if_false, unV, isNil, optI, iV, stepI, evalR, IntKind.bits, ini]; rfl))
  · (first | (simp only [fws, seval, cond_true, cond_false, if_true, if_false, unV, isNil, optI, iV, stepI, evalR, IntKind.bits, ini, *]; done) | (simp only [fws, seval, cond_true, cond_false, if_true, if_false, unV, isNil, optI, iV, stepI, evalR, IntKind.bits, ini]; rfl))
  · (first | (simp only [fws, seval, cond_true, cond_false, if_true, if_false, unV, isNil, optI, iV, stepI, evalR, IntKind.bits, ini, *]; done) | (simp only [fws, seval, cond_true, cond_false, if_true, if_false, unV, isNil, optI, iV, stepI, evalR, IntKind.bits, ini]; rfl))
  subst g1; subst g5
  simp only [List.append_nil, Nat.reduceAdd] at g3 g6
  have hcl : cs'.length = 18 := by rw [g6, List.length_append, List.length_replicate, cs_length, byteE_u]; omega
  have hb2 : b2sI [⟨0, .cells false 1 cs'⟩] (.slice (some ⟨0, k', none⟩) (18 - k') (18 - k')) = some (strV (hexD 16 n), [⟨0, .cells false 1 cs'⟩]) := by
    have h1 : cellsAt [⟨0, .cells false 1 cs'⟩] ⟨0, k', none⟩ = some (cs'.drop k') := rfl
    have h2 : cs'.drop k' = byteE.cs (hexD 16 n) := by rw [g6, List.drop_left' (by simp)]
    have h3 : 18 - k' = (hexD 16 n).length * byteE.u := by rw [byteE_u]; omega
    simp only [b2sI, h1, h2, h3, rdN_cs rfl, Option.bind_some, strOf_bytes, Option.map_some]
  have hsz : 2 + (hexD 16 n).length ≤ 9223372036854775807 := by omega
  have hap : (⟨#[48, 120]⟩ : ByteArray) ++ (⟨(hexD 16 n).toArray⟩ : ByteArray) = ⟨(48 :: 120 :: hexD 16 n).toArray⟩ := by
    apply ByteArray.ext
    rw [ByteArray.data_append]
    simp
  have hk0 : (0 : Int) ≤ (k' : Int) := by omega
  have hk18 : (k' : Int) ≤ 18 := by omega
  simp only [fws, seval, cond_true, cond_false, if_true, if_false, unV, isNil, optI, iV, stepI, evalR, IntKind.bits, ini, fwh, lk, cellsAt, tagOf, spotOf, rdN, spl, fillL, zr, fwi, N_num_Hex, g2, g4, hk0, hk18, and_self, Nat.mul_one, hcl, hb2, hsz, hap]
  rfl
theorem str_app (a b : List UInt8) : (⟨a.toArray⟩ : ByteArray) ++ (⟨b.toArray⟩ : ByteArray) = ⟨(a ++ b).toArray⟩ := by
  apply ByteArray.ext
  rw [ByteArray.data_append]
  simp
theorem hex_ext {d : Nat} (h : d < 16) : (⟨#[48, 49, 50, 51, 52, 53, 54, 55, 56, 57, 97, 98, 99, 100, 101, 102]⟩ : ByteArray).extract d (d + 1) = ⟨[hexC d].toArray⟩ := by
  have : ((List.range 16).all fun d => decide ((⟨#[48, 49, 50, 51, 52, 53, 54, 55, 56, 57, 97, 98, 99, 100, 101, 102]⟩ : ByteArray).extract d (d + 1) = ⟨[hexC d].toArray⟩)) = true := by kernel_rfl
  exact of_decide_eq_true (List.all_eq_true.1 this d (by simpa using h))
theorem loop_ref01_Hex {T : Tab} : ∀ (f n : Nat) (acc : List UInt8) (env : Env), n < 16 ^ f → (acc = [] → 1 ≤ f) → f + acc.length ≤ 100 → n < 18446744073709551616 → env 0 = .int .u64 n → env 3 = strV hexT → env 4 = strV acc →
    W T (.loop F_ref01_Hexl0) env [] fun x e h => x = .exit 0 ∧ h = [] ∧ e 4 = strV (if n = 0 ∧ acc ≠ [] then acc else hexD f n ++ acc) := by
  intro f
  induction f with
  | zero =>
    intro n acc env hn ha hl hn2 v0 v3 v4
    simp at hn
    subst hn
    cases acc with
    | nil => have := ha rfl; omega
    | cons c acc =>
      have hs : strEq ⟨(c :: acc).toArray⟩ ⟨#[]⟩ = false := rfl
      have v0 : env 0 = .int .u64 0 := v0
      rw [w_loop, if_pos ⟨rfl, by simp⟩]
      simp only [fws, seval, cond_true, cond_false, if_true, if_false, unV, isNil, optI, iV, stepI, evalR, IntKind.bits, ini, N_ref01_Hex, v0, v3, v4, hs, and_self]
  | succ f ih =>
    intro n acc env hn ha hl hn2 v0 v3 v4
    have hp : 16 ^ (f + 1) = 16 ^ f * 16 := Nat.pow_succ ..
    rw [w_loop]
    by_cases hdone : n = 0 ∧ acc ≠ []
    · obtain ⟨rfl, hne⟩ := hdone
      have hs : strEq ⟨acc.toArray⟩ ⟨#[]⟩ = false := by
        cases acc with
        | nil => exact absurd rfl hne
        | cons => rfl
      have v0 : env 0 = .int .u64 0 := v0
      rw [if_pos ⟨rfl, hne⟩]
      simp only [fws, seval, cond_true, cond_false, if_true, if_false, unV, isNil, optI, iV, stepI, evalR, IntKind.bits, ini, N_ref01_Hex, v0, v3, v4, hs, and_self]
    · rw [if_neg hdone]
      have w1 : (n : Int).tmod 16 = ((n % 16 : Nat) : Int) := by rw [tmodN (by omega)]; rfl
      have w2 : IntKind.u64.wrap (((n % 16 : Nat) : Int) + 1) = ((n % 16 + 1 : Nat) : Int) := by rw [wrap_u64]; omega
      have w3 : IntKind.u64.wrap ((n : Int).tdiv 16) = ((n / 16 : Nat) : Int) := by rw [tdivN (by omega), wrap_u64]; omega
      have h0 : (0 : Int) ≤ ((n % 16 : Nat) : Int) := by omega
      have h1 : ((n % 16 : Nat) : Int) ≤ ((n % 16 + 1 : Nat) : Int) := by omega
      have h2 : ((n % 16 + 1 : Nat) : Int) ≤ ((hexT.length : Nat) : Int) := by show _ ≤ (16 : Int); omega
      have hx := hex_ext (Nat.mod_lt n (show 16 > 0 by decide))
      have hsz : [hexC (n % 16)].length + acc.length ≤ 9223372036854775807 := by simp; omega
      have hap := str_app [hexC (n % 16)] acc
      have fin : ∀ env' : Env, env' 0 = .int .u64 (n / 16 : Nat) → env' 3 = strV hexT → env' 4 = strV (hexC (n % 16) :: acc) →
          W T (.loop F_ref01_Hexl0) env' [] fun x e h => x = .exit 0 ∧ h = [] ∧ e 4 = strV (hexD (f + 1) n ++ acc) := fun env' u0 u3 u4 => by
        refine W.mono (ih (n / 16) (hexC (n % 16) :: acc) env' (by omega) (by simp) (by simp; omega) (by omega) u0 u3 u4) fun x e h ⟨g1, g2, g3⟩ => ⟨g1, g2, ?_⟩
        rw [g3]
        by_cases h16 : n < 16
        · rw [if_pos ⟨by omega, by simp⟩, hexD, if_pos h16, Nat.mod_eq_of_lt h16]; rfl
        · rw [if_neg (by omega), hexD, if_neg h16, List.append_assoc]; rfl
      by_cases hn0 : n = 0
      · have hac : acc = [] := by
          cases acc with
          | nil => rfl
          | cons => exact absurd ⟨hn0, by simp⟩ hdone
        subst hac
        have hq : ¬ ((0 : Int) < (n : Int)) := by omega
        have hs : strEq ⟨([] : List UInt8).toArray⟩ ⟨#[]⟩ = true := rfl
        simp only [fws, seval, cond_true, cond_false, if_true, if_false, unV, isNil, optI, iV, stepI, evalR, IntKind.bits, ini, fwi, N_ref01_Hex, v0, v3, v4, hq, hs, w1, w2, w3, h0, h1, h2, and_self, hx, hsz, hap]
        refine fin _ ?_ ?_ ?_
        all_goals (first | (simp only [fws, seval, cond_true, cond_false, if_true, if_false, unV, isNil, optI, iV, stepI, evalR, IntKind.bits, ini, *]; done) | (simp only [fws, seval, cond_true, cond_false, if_true, if_false, unV, isNil, optI, iV, stepI, evalR, IntKind.bits, ini]; rfl))
      · have hq : ((0 : Int) < (n : Int)) := by omega
        simp only [fws, seval, cond_true, cond_false, if_true, if_false, unV, isNil, optI, iV, stepI, evalR, IntKind.bits, ini, fwi, N_ref01_Hex, v0, v3, v4, hq, w1, w2, w3, h0, h1, h2, and_self, hx, hsz, hap]
        refine fin _ ?_ ?_ ?_
        all_goals (first | (simp only [fws, seval, cond_true, cond_false, if_true, if_false, unV, isNil, optI, iV, stepI, evalR, IntKind.bits, ini, *]; done) | (simp only [fws, seval, cond_true, cond_false, if_true, if_false, unV, isNil, optI, iV, stepI, evalR, IntKind.bits, ini]; rfl))
theorem f_ref01_Hex {T : Tab} (h : T 24 = some F_ref01_Hex) {n : Nat} (hn : n < 18446744073709551616) : FnV T 24 [.int .u64 n] (strV (48 :: 120 :: hexD 16 n)) := by
  refine FnV_of rfl ?_
  rw [Ev_fn h rfl]
  have hl := hexD_len 16 n
  simp only [F_ref01_Hex, fws, seval, cond_true, cond_false, if_true, if_false, unV, isNil, optI, iV, stepI, evalR, IntKind.bits, ini, fwi, N_ref01_Hex]
  refine W.mono (loop_ref01_Hex 16 n [] _ (by omega) (by decide) (by decide) hn ?_ ?_ ?_) fun x e h ⟨g1, g2, g3⟩ => ?_
  · (first | (simp only [fws, seval, cond_true, cond_false, if_true, if_false, unV, isNil, optI, iV, stepI, evalR, IntKind.bits, ini, *]; done) | (simp only [fws, seval, cond_true, cond_false, if_true, if_false, unV, isNil, optI, iV, stepI, evalR, IntKind.bits, ini]; rfl))
  · (first | (simp only [fws, seval, cond_true, cond_false, if_true, if_false, unV, isNil, optI, iV, stepI, evalR, IntKind.bits, ini, *]; done) | (simp only [fws, seval, cond_true, cond_false, if_true, if_false, unV, isNil, optI, iV, stepI, evalR, IntKind.bits, ini]; rfl))
  · (first | (simp only [fws, seval, cond_true, cond_false, if_true, if_false, unV, isNil, optI, iV, stepI, evalR, IntKind.bits, ini, *]; done) | (simp only [fws, seval, cond_true, cond_false, if_true, if_false, unV, isNil, optI, iV, stepI, evalR, IntKind.bits, ini]; rfl))
  subst g1; subst g2
  rw [if_neg (by simp), List.append_nil] at g3
  have hsz : [(48 : UInt8), 120].length + (hexD 16 n).length ≤ 9223372036854775807 := by simp; omega
  have hap := str_app [48, 120] (hexD 16 n)
  simp only [fws, seval, cond_true, cond_false, if_true, if_false, unV, isNil, optI, iV, stepI, evalR, IntKind.bits, ini, fwi, N_ref01_Hex, g3, hsz, hap]
  rfl
theorem ne_str {l : List UInt8} (h : l ≠ []) : strEq ⟨l.toArray⟩ ⟨#[]⟩ = false := by
  show strEq ⟨l.toArray⟩ ⟨([] : List UInt8).toArray⟩ = false
  rw [strEq_str]; exact decide_eq_false h
theorem nil_str : strEq ⟨([] : List UInt8).toArray⟩ ⟨#[]⟩ = true := rfl
/-! ### digits -/
def dgC (n : Nat) : UInt8 := UInt8.ofNat (48 + n % 10)
def dgF : Nat → Nat → List UInt8 → List UInt8
  | 0, _, s => s
  | k + 1, n, s => if n = 0 then s else dgF k (n / 10) (dgC n :: s)
def textF (n : Int) : List UInt8 := if n ≤ 0 then [48] else dgF 20 n.toNat []
theorem dgF_len : ∀ (k n : Nat) (s : List UInt8), (dgF k n s).length ≤ s.length + k
  | 0, n, s => Nat.le_refl _
  | k + 1, n, s => by
    simp only [dgF]
    split
    · omega
    · have := dgF_len k (n / 10) (dgC n :: s)
      simp only [List.length_cons] at this
      omega
theorem textF_len (n : Int) : (textF n).length ≤ 20 := by
  unfold textF
  split
  · decide
  · have := dgF_len 20 n.toNat []
    simpa using this
section
variable {T : Tab}
theorem dg_val (n : Nat) : IntKind.u8.wrap (48 + ((n % 10 : Nat) : Int)) = ((dgC n).toNat : Int) := by
  have h : n % 10 < 10 := Nat.mod_lt _ (by decide)
  rw [wrap_u8]
  unfold dgC
  rw [UInt8.toNat_ofNat']
  omega
theorem loop_dgA : ∀ (k n : Nat) (s : List UInt8) (H : Heap) (env : Env), n < 10 ^ k → k ≤ 20 → n ≤ 9223372036854775807 → s ≠ [] ∨ 0 < n → s.length + k ≤ 1000 → env 0 = .int .i64 n → env 3 = strV s →
    W T (.loop F_num_Textl0) env H fun x e h => x = .exit 0 ∧ h = H ∧ e 3 = strV (dgF k n s) := by
  intro k
  induction k with
  | zero =>
    intro n s H env hn hk hb hs hl e0 e3
    have hn0 : n = 0 := by simpa using hn
    subst hn0
    have hs' : s ≠ [] := hs.resolve_right (by omega)
    have q : ¬ ((0 : Int) < ((0 : Nat) : Int)) := by decide
    have b0 := ne_str hs'
    rw [w_loop]
    simp only [fws, seval, cond_true, cond_false, if_true, if_false, unV, isNil, optI, iV, stepI, evalR, IntKind.bits, ini, fwi, N_num_Text, e0, e3, q, b0]
    exact ⟨trivial, trivial, rfl⟩
  | succ k ih =>
    intro n s H env hn hk hb hs hl e0 e3
    by_cases h0 : n = 0
    · subst h0
      have hs' : s ≠ [] := hs.resolve_right (by omega)
      have q : ¬ ((0 : Int) < ((0 : Nat) : Int)) := by decide
      have b0 := ne_str hs'
      rw [w_loop]
      simp only [fws, seval, cond_true, cond_false, if_true, if_false, unV, isNil, optI, iV, stepI, evalR, IntKind.bits, ini, fwi, N_num_Text, e0, e3, q, b0]
      exact ⟨trivial, trivial, rfl⟩
    · have q : ((0 : Int) < (n : Int)) := by omega
      have m1 : ((n : Int).tmod 10) = ((n % 10 : Nat) : Int) := by rw [tmodN (by omega)]; rfl
      have d1 : ((n : Int).tdiv 10) = ((n / 10 : Nat) : Int) := by rw [tdivN (by omega)]; rfl
      have w1 : IntKind.i64.wrap (48 + ((n % 10 : Nat) : Int)) = 48 + ((n % 10 : Nat) : Int) := by rw [wrapI64 (by omega) (by omega)]
      have w2 : IntKind.i64.wrap ((n / 10 : Nat) : Int) = ((n / 10 : Nat) : Int) := by rw [wrapI64 (by omega) (by omega)]
      have w3 := dg_val n
      have z1 : 1 + s.length ≤ 9223372036854775807 := by omega
      have hb2 : ∀ H, b2sI H (immV 1 [.int .u8 ((dgC n).toNat : Int)]) = some (strV [dgC n], H) := fun H => b2sI_imm (l := [dgC n])
      have t10 : ¬ ((10 : Int) = 0) := by decide
      rw [w_loop]
      simp only [fws, seval, cond_true, cond_false, if_true, if_false, unV, isNil, optI, iV, stepI, evalR, IntKind.bits, ini, fwh, lk, cellsAt, tagOf, spotOf, rdN, spl, fillL, zr, fwi, N_num_Text, e0, e3, q, m1, d1, w1, w2, w3, z1, hb2, t10]
      refine W.mono (ih (n / 10) (dgC n :: s) H _ (by rw [Nat.pow_succ] at hn; omega) (by omega) (by omega) (.inl (by simp)) (by simp only [List.length_cons]; omega) ?_ ?_) fun x e h ⟨r1, r2, r3⟩ => ⟨r1, r2, ?_⟩
      · (first | assumption | rfl)
      · (first | assumption | rfl)
      · rw [r3]
        simp only [dgF, if_neg h0]
theorem loop_dgB : ∀ (k n : Nat) (s : List UInt8) (H : Heap) (env : Env), n < 10 ^ k → k ≤ 20 → n ≤ 9223372036854775807 → s.length + k ≤ 1000 → env 0 = .int .i64 n → env 3 = strV s →
    W T (.loop F_ref01_Textl0) env H fun x e h => x = .exit 0 ∧ h = H ∧ e 3 = strV (dgF k n s) := by
  intro k
  induction k with
  | zero =>
    intro n s H env hn hk hb hl e0 e3
    have hn0 : n = 0 := by simpa using hn
    subst hn0
    have q : ¬ ((0 : Int) < ((0 : Nat) : Int)) := by decide
    rw [w_loop]
    simp only [fws, seval, cond_true, cond_false, if_true, if_false, unV, isNil, optI, iV, stepI, evalR, IntKind.bits, ini, fwi, N_ref01_Text, e0, e3, q]
    exact ⟨trivial, trivial, rfl⟩
  | succ k ih =>
    intro n s H env hn hk hb hl e0 e3
    by_cases h0 : n = 0
    · subst h0
      have q : ¬ ((0 : Int) < ((0 : Nat) : Int)) := by decide
      rw [w_loop]
      simp only [fws, seval, cond_true, cond_false, if_true, if_false, unV, isNil, optI, iV, stepI, evalR, IntKind.bits, ini, fwi, N_ref01_Text, e0, e3, q]
      exact ⟨trivial, trivial, rfl⟩
    · have q : ((0 : Int) < (n : Int)) := by omega
      have m1 : ((n : Int).tmod 10) = ((n % 10 : Nat) : Int) := by rw [tmodN (by omega)]; rfl
      have d1 : ((n : Int).tdiv 10) = ((n / 10 : Nat) : Int) := by rw [tdivN (by omega)]; rfl
      have w1 : IntKind.i64.wrap (48 + ((n % 10 : Nat) : Int)) = 48 + ((n % 10 : Nat) : Int) := by rw [wrapI64 (by omega) (by omega)]
      have w2 : IntKind.i64.wrap ((n / 10 : Nat) : Int) = ((n / 10 : Nat) : Int) := by rw [wrapI64 (by omega) (by omega)]
      have w3 := dg_val n
      have z1 : 1 + s.length ≤ 9223372036854775807 := by omega
      have hb2 : ∀ H, b2sI H (immV 1 [.int .u8 ((dgC n).toNat : Int)]) = some (strV [dgC n], H) := fun H => b2sI_imm (l := [dgC n])
      have t10 : ¬ ((10 : Int) = 0) := by decide
      rw [w_loop]
      simp only [fws, seval, cond_true, cond_false, if_true, if_false, unV, isNil, optI, iV, stepI, evalR, IntKind.bits, ini, fwh, lk, cellsAt, tagOf, spotOf, rdN, spl, fillL, zr, fwi, N_ref01_Text, e0, e3, q, m1, d1, w1, w2, w3, z1, hb2, t10]
      refine W.mono (ih (n / 10) (dgC n :: s) H _ (by rw [Nat.pow_succ] at hn; omega) (by omega) (by omega) (by simp only [List.length_cons]; omega) ?_ ?_) fun x e h ⟨r1, r2, r3⟩ => ⟨r1, r2, ?_⟩
      · (first | assumption | rfl)
      · (first | assumption | rfl)
      · rw [r3]
        simp only [dgF, if_neg h0]
theorem f_text (h : T 21 = some F_num_Text) (n : Int) (h1 : n ≤ 9223372036854775807) : FnV T 21 [.int .i64 n] (strV (textF n)) := by
  refine FnV_of rfl ?_
  rw [Ev_fn h rfl]
  unfold textF
  by_cases h0 : n ≤ 0
  · rw [if_pos h0]
    have q : (if (0 : Int) > n then (0 : Int) else n) = 0 := by split <;> omega
    have q1 : ¬ ((0 : Int) < 0) := by decide
    have w1 : IntKind.i64.wrap (48 : Int) = 48 := by decide
    have w2 : IntKind.u8.wrap (48 : Int) = 48 := by decide
    have m1 : ((0 : Int).tmod 10) = 0 := rfl
    have d1 : ((0 : Int).tdiv 10) = 0 := rfl
    have w3 : IntKind.i64.wrap (0 : Int) = 0 := by decide
    have b0 : strEq ⟨#[48]⟩ ⟨#[]⟩ = false := rfl
    have hb2 : ∀ H, b2sI H (immV 1 [.int .u8 48]) = some (strV [48], H) := fun H => b2sI_imm (l := [48])
    have t10 : ¬ ((10 : Int) = 0) := by decide
    simp only [F_num_Text, fws, seval, cond_true, cond_false, if_true, if_false, unV, isNil, optI, iV, stepI, evalR, IntKind.bits, ini, fwh, lk, cellsAt, tagOf, spotOf, rdN, spl, fillL, zr, fwi, F_num_Textr0b, F_num_Textr0_W, F_num_Textr1b, F_num_Textr1_W, F_num_Textr2b, F_num_Textr2_W, F_num_Textr3b, F_num_Textr3_W, F_num_Textr3_g2, F_num_Textr5b, F_num_Textr5_W, F_num_Textr4b, F_num_Textr4_W, F_num_Textl0b, F_num_Textr6b, F_num_Textr6_W, F_num_Textcb, F_num_Textc_W, q]
    rw [w_loop]
    simp only [fws, seval, cond_true, cond_false, if_true, if_false, unV, isNil, optI, iV, stepI, evalR, IntKind.bits, ini, fwh, lk, cellsAt, tagOf, spotOf, rdN, spl, fillL, zr, fwi, N_num_Text, q1, w1, w2, w3, m1, d1, b0, hb2, t10, nil_str]
    rw [w_loop]
    simp only [fws, seval, cond_true, cond_false, if_true, if_false, unV, isNil, optI, iV, stepI, evalR, IntKind.bits, ini, fwh, lk, cellsAt, tagOf, spotOf, rdN, spl, fillL, zr, fwi, N_num_Text, q1, w1, w2, w3, m1, d1, b0, hb2, t10, nil_str]
    rfl
  · rw [if_neg h0]
    have q : (if (0 : Int) > n then (0 : Int) else n) = ((n.toNat : Nat) : Int) := by split <;> omega
    simp only [F_num_Text, fws, seval, cond_true, cond_false, if_true, if_false, unV, isNil, optI, iV, stepI, evalR, IntKind.bits, ini, fwh, lk, cellsAt, tagOf, spotOf, rdN, spl, fillL, zr, fwi, F_num_Textr0b, F_num_Textr0_W, F_num_Textr1b, F_num_Textr1_W, F_num_Textr2b, F_num_Textr2_W, F_num_Textr3b, F_num_Textr3_W, F_num_Textr3_g2, F_num_Textr5b, F_num_Textr5_W, F_num_Textr4b, F_num_Textr4_W, F_num_Textl0b, F_num_Textr6b, F_num_Textr6_W, F_num_Textcb, F_num_Textc_W, q]
    refine W.mono (loop_dgA 20 n.toNat [] [] _ (by have : (10 : Nat) ^ 20 = 100000000000000000000 := by decide
                                                   omega) (Nat.le_refl _) (by omega) (.inr (by omega)) (by decide) ?_ ?_) fun x e h ⟨r1, r2, r3⟩ => ?_
    · (first | assumption | rfl)
    · (first | assumption | rfl)
    · subst r1 r2
      simp only [fws, seval, cond_true, cond_false, if_true, if_false, unV, isNil, optI, iV, stepI, evalR, IntKind.bits, ini, N_num_Text, r3]
      rfl
theorem f_rtext (h : T 23 = some F_ref01_Text) (n : Int) (h1 : n ≤ 9223372036854775807) : FnV T 23 [.int .i64 n] (strV (textF n)) := by
  refine FnV_of rfl ?_
  rw [Ev_fn h rfl]
  unfold textF
  by_cases h0 : n ≤ 0
  · rw [if_pos h0]
    simp only [F_ref01_Text, fws, seval, cond_true, cond_false, if_true, if_false, unV, isNil, optI, iV, stepI, evalR, IntKind.bits, ini, fwh, lk, cellsAt, tagOf, spotOf, rdN, spl, fillL, zr, fwi, F_ref01_Textr0b, F_ref01_Textr0_W, F_ref01_Textr1b, F_ref01_Textr1_W, F_ref01_Textr2b, F_ref01_Textr2_W, F_ref01_Textr3b, F_ref01_Textr3_W, F_ref01_Textr4b, F_ref01_Textr4_W, F_ref01_Textr5b, F_ref01_Textr5_W, F_ref01_Textr6b, F_ref01_Textr6_W, F_ref01_Textl0b, F_ref01_Textr7b, F_ref01_Textr7_W, F_ref01_Textcb, F_ref01_Textc_W, h0]
    rfl
  · rw [if_neg h0]
    have q : n = ((n.toNat : Nat) : Int) := by omega
    simp only [F_ref01_Text, fws, seval, cond_true, cond_false, if_true, if_false, unV, isNil, optI, iV, stepI, evalR, IntKind.bits, ini, fwh, lk, cellsAt, tagOf, spotOf, rdN, spl, fillL, zr, fwi, F_ref01_Textr0b, F_ref01_Textr0_W, F_ref01_Textr1b, F_ref01_Textr1_W, F_ref01_Textr2b, F_ref01_Textr2_W, F_ref01_Textr3b, F_ref01_Textr3_W, F_ref01_Textr4b, F_ref01_Textr4_W, F_ref01_Textr5b, F_ref01_Textr5_W, F_ref01_Textr6b, F_ref01_Textr6_W, F_ref01_Textl0b, F_ref01_Textr7b, F_ref01_Textr7_W, F_ref01_Textcb, F_ref01_Textc_W, h0]
    refine W.mono (loop_dgB 20 n.toNat [] [] _ (by have : (10 : Nat) ^ 20 = 100000000000000000000 := by decide
                                                   omega) (Nat.le_refl _) (by omega) (by decide) ?_ ?_) fun x e h ⟨r1, r2, r3⟩ => ?_
    · rw [← q]; (first | assumption | rfl)
    · (first | assumption | rfl)
    · subst r1 r2
      simp only [fws, seval, cond_true, cond_false, if_true, if_false, unV, isNil, optI, iV, stepI, evalR, IntKind.bits, ini, N_ref01_Text, r3]
      rfl
/-! ### the place of a sign -/
end
end Go.Proofs.YtfhhfanapgjcgaaDoor
/- An answer's line, on both sides. -/
namespace Go.Proofs.YtfhhfanapgjcgaaDoor
open Go Fw
set_option linter.unusedSimpArgs false
set_option linter.unusedVariables false
set_option linter.unusedSectionVars false
set_option linter.unusedVariables false
abbrev rq (s : S_api_Req) : Value := .agg (S_api_ReqE.e s).toArray
abbrev an (a : S_api_Ans) : Value := .agg (S_api_AnsE.e a).toArray
abbrev xEn (s : S_api_Req) : Entry := ⟨0, .cells false 18 (S_api_ReqE.e s)⟩
abbrev aEn (a : S_api_Ans) : Entry := ⟨0, .cells false 5 (S_api_AnsE.e a)⟩
theorem boxE {α : Type} {E : Enc α} {u : Nat} {x : α} {o : Opd} {env : Env} {H : Heap} (ho : o.ev env = .agg (E.e x).toArray) : stepI env H (.box u o) = some (.pointer (some ⟨H.length, 0, none⟩), H ++ [⟨0, .cells false u (E.e x)⟩]) := by
  have h1 : oneAll (.agg (E.e x).toArray) = true := by
    have := E.ho x
    simpa [oneAll, Value.cells] using this
  simp only [stepI, ho, h1, cond_true]
  rfl
theorem pure_aggE {α : Type} {E : Enc α} (hd : E.d ≤ 5) (s : α) : pureV 6 (.agg (E.e s).toArray) = true := by
  have := E.hp (5 - E.d) s
  rw [Nat.sub_add_cancel hd] at this
  rw [pure_agg]
  simpa using this
theorem box_rq {s : S_api_Req} {a : S_api_Ans} : stepI (ini [rq s, an a]) [] (.box 18 (.t 0)) = some (.pointer (some ⟨0, 0, none⟩), [xEn s]) := boxE (E := S_api_ReqE) (H := []) rfl
theorem box_an {s : S_api_Req} {a : S_api_Ans} {v : Value} : stepI (upd (ini [rq s, an a]) 2 v) [xEn s] (.box 5 (.t 1)) = some (.pointer (some ⟨1, 0, none⟩), [xEn s, aEn a]) := boxE (E := S_api_AnsE) (H := [xEn s]) rfl
theorem pure_ra (s : S_api_Req) (a : S_api_Ans) : [rq s, an a].all (pureV 6) = true := by simp [pure_aggE (E := S_api_ReqE) (by decide), pure_aggE (E := S_api_AnsE) (by decide)]
def hexL (n : Int) : List UInt8 := 48 :: 120 :: hexD 16 n.toNat
def ansM (k : Int) (a : S_api_Ans) : List UInt8 :=
  if a.Err ≠ 0 then [101, 114, 114, 111, 114, 32] ++ textF a.Err
  else if k = 1 then [104, 97, 110, 100, 108, 101, 32] ++ textF a.Handle
  else if k = 2 then (([97, 116, 32] ++ textF a.Inst) ++ [32]) ++ hexL a.Off
  else if k = 3 then (if a.Name = [] then (([97, 116, 32] ++ textF a.Inst) ++ [32]) ++ hexL a.Off else ((([97, 116, 32] ++ textF a.Inst) ++ [32]) ++ hexL a.Off) ++ ([32] ++ a.Name))
  else [111, 107]
structure OkAn (a : S_api_Ans) : Prop where
  e : a.Err ≤ 9223372036854775807
  h : a.Handle ≤ 9223372036854775807
  i : a.Inst ≤ 9223372036854775807
  o : ∃ n : Nat, n < 18446744073709551616 ∧ a.Off = (n : Int)
  n : a.Name.length ≤ 4096
structure ScF (T : Tab) : Prop where
  tx : T 21 = some F_num_Text
  rt : T 23 = some F_ref01_Text
  hx : T 22 = some F_num_Hex
  rx : T 24 = some F_ref01_Hex
  an : T 7 = some F_script_Answer
  ra : T 8 = some F_ref28_Answer
section
variable {T : Tab} {a : S_api_Ans}
theorem f_script_Answer (t : ScF T) (s : S_api_Req) (k : OkAn a) : FnV T 7 [rq s, an a] (strV (ansM s.Kind a)) := by
  refine FnV_of (pure_ra s a) ?_
  rw [Ev_fn t.an rfl]
  have L0 : ∀ H, loadI (xEn s :: aEn a :: H) (.pointer (some ⟨0, 0, none⟩)) = some (.int .i64 s.Kind, xEn s :: aEn a :: H) := fun _ => rfl
  have A0 : ∀ H, loadI (xEn s :: aEn a :: H) (.pointer (some ⟨1, 0, none⟩)) = some (.int .i64 a.Err, xEn s :: aEn a :: H) := fun _ => rfl
  have A1 : ∀ H, loadI (xEn s :: aEn a :: H) (.pointer (some ⟨1, 1, none⟩)) = some (.int .i64 a.Handle, xEn s :: aEn a :: H) := fun _ => rfl
  have A2 : ∀ H, loadI (xEn s :: aEn a :: H) (.pointer (some ⟨1, 2, none⟩)) = some (.int .i64 a.Inst, xEn s :: aEn a :: H) := fun _ => rfl
  have A3 : ∀ H, loadI (xEn s :: aEn a :: H) (.pointer (some ⟨1, 3, none⟩)) = some (.int .u64 a.Off, xEn s :: aEn a :: H) := fun _ => rfl
  have A4 : ∀ H, loadI (xEn s :: aEn a :: H) (.pointer (some ⟨1, 4, none⟩)) = some (strV a.Name, xEn s :: aEn a :: H) := fun _ => rfl
  obtain ⟨n, hn, ho⟩ := k.o
  have c0 := f_text t.tx a.Err k.e
  have c1 := f_text t.tx a.Handle k.h
  have c2 := f_text t.tx a.Inst k.i
  have c3 := f_num_Hex t.hx hn
  rw [← ho] at c3
  have hx : hexL a.Off = 48 :: 120 :: hexD 16 n := by unfold hexL; rw [ho]; rfl
  rw [← hx] at c3
  have y0 := textF_len a.Err
  have y1 := textF_len a.Handle
  have y2 := textF_len a.Inst
  have y3 : (hexL a.Off).length ≤ 18 := by
    rw [hx]
    have := hexD_len 16 n
    simp only [List.length_cons]
    omega
  have y4 := k.n
  have s6 : (⟨#[101, 114, 114, 111, 114, 32]⟩ : ByteArray).size = 6 := rfl
  have s7 : (⟨#[104, 97, 110, 100, 108, 101, 32]⟩ : ByteArray).size = 7 := rfl
  have s3 : (⟨#[97, 116, 32]⟩ : ByteArray).size = 3 := rfl
  have s1 : (⟨#[32]⟩ : ByteArray).size = 1 := rfl
  have b6 : ∀ l : List UInt8, (⟨#[101, 114, 114, 111, 114, 32]⟩ : ByteArray) ++ ⟨l.toArray⟩ = ⟨([101, 114, 114, 111, 114, 32] ++ l).toArray⟩ := fun l => append_str (l := [101, 114, 114, 111, 114, 32])
  have b7 : ∀ l : List UInt8, (⟨#[104, 97, 110, 100, 108, 101, 32]⟩ : ByteArray) ++ ⟨l.toArray⟩ = ⟨([104, 97, 110, 100, 108, 101, 32] ++ l).toArray⟩ := fun l => append_str (l := [104, 97, 110, 100, 108, 101, 32])
  have b3 : ∀ l : List UInt8, (⟨#[97, 116, 32]⟩ : ByteArray) ++ ⟨l.toArray⟩ = ⟨([97, 116, 32] ++ l).toArray⟩ := fun l => append_str (l := [97, 116, 32])
  have b1 : ∀ l : List UInt8, (⟨#[32]⟩ : ByteArray) ++ ⟨l.toArray⟩ = ⟨([32] ++ l).toArray⟩ := fun l => append_str (l := [32])
  have a1 : ∀ l : List UInt8, (⟨l.toArray⟩ : ByteArray) ++ ⟨#[32]⟩ = ⟨(l ++ [32]).toArray⟩ := fun l => append_str (m := [32])
  have z0 : 6 + (textF a.Err).length ≤ 9223372036854775807 := by omega
  have z1 : 7 + (textF a.Handle).length ≤ 9223372036854775807 := by omega
  have z2 : 3 + (textF a.Inst).length ≤ 9223372036854775807 := by omega
  have z3 : ([97, 116, 32] ++ textF a.Inst).length + 1 ≤ 9223372036854775807 := by simp only [List.length_append, List.length_cons, List.length_nil]; omega
  have z4 : (([97, 116, 32] ++ textF a.Inst) ++ [32]).length + (hexL a.Off).length ≤ 9223372036854775807 := by simp only [List.length_append, List.length_cons, List.length_nil]; omega
  have z5 : 1 + a.Name.length ≤ 9223372036854775807 := by omega
  have z6 : ((([97, 116, 32] ++ textF a.Inst) ++ [32]) ++ hexL a.Off).length + ([32] ++ a.Name).length ≤ 9223372036854775807 := by simp only [List.length_append, List.length_cons, List.length_nil]; omega
  simp only [F_script_Answer, fws, box_rq, box_an, F_script_Answerr0b, F_script_Answerr0_W, F_script_Answerr1b, F_script_Answerr2b, F_script_Answerr3b, F_script_Answerr4b, F_script_Answerr5b, F_script_Answerr6b, F_script_Answerr7b, F_script_Answerr8b, F_script_Answerr9b, F_script_Answerr10b, F_script_Answerr11b, F_script_Answerr12b, F_script_Answerr13b, F_script_Answercb, F_script_Answerc_W]
  by_cases e0 : a.Err = 0
  · have d0 : decide (a.Err = 0) = true := decide_eq_true e0
    by_cases k1 : s.Kind = 1
    · have d1 : decide (s.Kind = 1) = true := decide_eq_true k1
      have hm : ansM s.Kind a = [104, 97, 110, 100, 108, 101, 32] ++ textF a.Handle := by unfold ansM; rw [if_neg (fun h => h e0), if_pos k1]
      rw [hm]
      simp only [fws, seval, cond_true, cond_false, if_true, if_false, unV, isNil, optI, iV, stepI, evalR, IntKind.bits, ini, faI_ptr, Nat.zero_add, Nat.add_zero, size_str, append_str, s1, s3, s6, s7, b1, b3, b6, b7, a1, L0, A0, A1, A2, A3, A4, CC_of c0, CC_of c1, CC_of c2, CC_of c3, z0, z1, z2, z3, z4, z5, z6, Bool.not_true, Bool.not_false, N_script_Answer, d0, d1]
      rfl
    have d1 : decide (s.Kind = 1) = false := decide_eq_false k1
    by_cases k2 : s.Kind = 2
    · have d2 : decide (s.Kind = 2) = true := decide_eq_true k2
      have hm : ansM s.Kind a = (([97, 116, 32] ++ textF a.Inst) ++ [32]) ++ hexL a.Off := by unfold ansM; rw [if_neg (fun h => h e0), if_neg k1, if_pos k2]
      rw [hm]
      simp only [fws, seval, cond_true, cond_false, if_true, if_false, unV, isNil, optI, iV, stepI, evalR, IntKind.bits, ini, faI_ptr, Nat.zero_add, Nat.add_zero, size_str, append_str, s1, s3, s6, s7, b1, b3, b6, b7, a1, L0, A0, A1, A2, A3, A4, CC_of c0, CC_of c1, CC_of c2, CC_of c3, z0, z1, z2, z3, z4, z5, z6, Bool.not_true, Bool.not_false, N_script_Answer, d0, d1, d2]
      rfl
    have d2 : decide (s.Kind = 2) = false := decide_eq_false k2
    by_cases k3 : s.Kind = 3
    · have d3 : decide (s.Kind = 3) = true := decide_eq_true k3
      by_cases en : a.Name = []
      · have q : strEq ⟨a.Name.toArray⟩ ⟨#[]⟩ = true := by rw [en]; rfl
        have hm : ansM s.Kind a = (([97, 116, 32] ++ textF a.Inst) ++ [32]) ++ hexL a.Off := by unfold ansM; rw [if_neg (fun h => h e0), if_neg k1, if_neg k2, if_pos k3, if_pos en]
        rw [hm]
        simp only [fws, seval, cond_true, cond_false, if_true, if_false, unV, isNil, optI, iV, stepI, evalR, IntKind.bits, ini, faI_ptr, Nat.zero_add, Nat.add_zero, size_str, append_str, s1, s3, s6, s7, b1, b3, b6, b7, a1, L0, A0, A1, A2, A3, A4, CC_of c0, CC_of c1, CC_of c2, CC_of c3, z0, z1, z2, z3, z4, z5, z6, Bool.not_true, Bool.not_false, N_script_Answer, d0, d1, d2, d3, q]
        rfl
      · have q := ne_str en
        have hm : ansM s.Kind a = ((([97, 116, 32] ++ textF a.Inst) ++ [32]) ++ hexL a.Off) ++ ([32] ++ a.Name) := by unfold ansM; rw [if_neg (fun h => h e0), if_neg k1, if_neg k2, if_pos k3, if_neg en]
        rw [hm]
        simp only [fws, seval, cond_true, cond_false, if_true, if_false, unV, isNil, optI, iV, stepI, evalR, IntKind.bits, ini, faI_ptr, Nat.zero_add, Nat.add_zero, size_str, append_str, s1, s3, s6, s7, b1, b3, b6, b7, a1, L0, A0, A1, A2, A3, A4, CC_of c0, CC_of c1, CC_of c2, CC_of c3, z0, z1, z2, z3, z4, z5, z6, Bool.not_true, Bool.not_false, N_script_Answer, d0, d1, d2, d3, q]
        rfl
    have d3 : decide (s.Kind = 3) = false := decide_eq_false k3
    have hm : ansM s.Kind a = [111, 107] := by unfold ansM; rw [if_neg (fun h => h e0), if_neg k1, if_neg k2, if_neg k3]
    rw [hm]
    simp only [fws, seval, cond_true, cond_false, if_true, if_false, unV, isNil, optI, iV, stepI, evalR, IntKind.bits, ini, faI_ptr, Nat.zero_add, Nat.add_zero, size_str, append_str, s1, s3, s6, s7, b1, b3, b6, b7, a1, L0, A0, A1, A2, A3, A4, CC_of c0, CC_of c1, CC_of c2, CC_of c3, z0, z1, z2, z3, z4, z5, z6, Bool.not_true, Bool.not_false, N_script_Answer, d0, d1, d2, d3]
    rfl
  · have d0 : decide (a.Err = 0) = false := decide_eq_false e0
    have hm : ansM s.Kind a = [101, 114, 114, 111, 114, 32] ++ textF a.Err := by unfold ansM; rw [if_pos e0]
    rw [hm]
    simp only [fws, seval, cond_true, cond_false, if_true, if_false, unV, isNil, optI, iV, stepI, evalR, IntKind.bits, ini, faI_ptr, Nat.zero_add, Nat.add_zero, size_str, append_str, s1, s3, s6, s7, b1, b3, b6, b7, a1, L0, A0, A1, A2, A3, A4, CC_of c0, CC_of c1, CC_of c2, CC_of c3, z0, z1, z2, z3, z4, z5, z6, Bool.not_true, Bool.not_false, N_script_Answer, d0]
    rfl
theorem f_ref28_Answer (t : ScF T) (s : S_api_Req) (k : OkAn a) : FnV T 8 [rq s, an a] (strV (ansM s.Kind a)) := by
  refine FnV_of (pure_ra s a) ?_
  rw [Ev_fn t.ra rfl]
  have L0 : ∀ H, loadI (xEn s :: aEn a :: H) (.pointer (some ⟨0, 0, none⟩)) = some (.int .i64 s.Kind, xEn s :: aEn a :: H) := fun _ => rfl
  have A0 : ∀ H, loadI (xEn s :: aEn a :: H) (.pointer (some ⟨1, 0, none⟩)) = some (.int .i64 a.Err, xEn s :: aEn a :: H) := fun _ => rfl
  have A1 : ∀ H, loadI (xEn s :: aEn a :: H) (.pointer (some ⟨1, 1, none⟩)) = some (.int .i64 a.Handle, xEn s :: aEn a :: H) := fun _ => rfl
  have A2 : ∀ H, loadI (xEn s :: aEn a :: H) (.pointer (some ⟨1, 2, none⟩)) = some (.int .i64 a.Inst, xEn s :: aEn a :: H) := fun _ => rfl
  have A3 : ∀ H, loadI (xEn s :: aEn a :: H) (.pointer (some ⟨1, 3, none⟩)) = some (.int .u64 a.Off, xEn s :: aEn a :: H) := fun _ => rfl
  have A4 : ∀ H, loadI (xEn s :: aEn a :: H) (.pointer (some ⟨1, 4, none⟩)) = some (strV a.Name, xEn s :: aEn a :: H) := fun _ => rfl
  obtain ⟨n, hn, ho⟩ := k.o
  have c0 := f_rtext t.rt a.Err k.e
  have c1 := f_rtext t.rt a.Handle k.h
  have c2 := f_rtext t.rt a.Inst k.i
  have c3 := f_ref01_Hex t.rx hn
  rw [← ho] at c3
  have hx : hexL a.Off = 48 :: 120 :: hexD 16 n := by unfold hexL; rw [ho]; rfl
  rw [← hx] at c3
  have y0 := textF_len a.Err
  have y1 := textF_len a.Handle
  have y2 := textF_len a.Inst
  have y3 : (hexL a.Off).length ≤ 18 := by
    rw [hx]
    have := hexD_len 16 n
    simp only [List.length_cons]
    omega
  have y4 := k.n
  have s6 : (⟨#[101, 114, 114, 111, 114, 32]⟩ : ByteArray).size = 6 := rfl
  have s7 : (⟨#[104, 97, 110, 100, 108, 101, 32]⟩ : ByteArray).size = 7 := rfl
  have s3 : (⟨#[97, 116, 32]⟩ : ByteArray).size = 3 := rfl
  have s1 : (⟨#[32]⟩ : ByteArray).size = 1 := rfl
  have b6 : ∀ l : List UInt8, (⟨#[101, 114, 114, 111, 114, 32]⟩ : ByteArray) ++ ⟨l.toArray⟩ = ⟨([101, 114, 114, 111, 114, 32] ++ l).toArray⟩ := fun l => append_str (l := [101, 114, 114, 111, 114, 32])
  have b7 : ∀ l : List UInt8, (⟨#[104, 97, 110, 100, 108, 101, 32]⟩ : ByteArray) ++ ⟨l.toArray⟩ = ⟨([104, 97, 110, 100, 108, 101, 32] ++ l).toArray⟩ := fun l => append_str (l := [104, 97, 110, 100, 108, 101, 32])
  have b3 : ∀ l : List UInt8, (⟨#[97, 116, 32]⟩ : ByteArray) ++ ⟨l.toArray⟩ = ⟨([97, 116, 32] ++ l).toArray⟩ := fun l => append_str (l := [97, 116, 32])
  have b1 : ∀ l : List UInt8, (⟨#[32]⟩ : ByteArray) ++ ⟨l.toArray⟩ = ⟨([32] ++ l).toArray⟩ := fun l => append_str (l := [32])
  have a1 : ∀ l : List UInt8, (⟨l.toArray⟩ : ByteArray) ++ ⟨#[32]⟩ = ⟨(l ++ [32]).toArray⟩ := fun l => append_str (m := [32])
  have z0 : 6 + (textF a.Err).length ≤ 9223372036854775807 := by omega
  have z1 : 7 + (textF a.Handle).length ≤ 9223372036854775807 := by omega
  have z2 : 3 + (textF a.Inst).length ≤ 9223372036854775807 := by omega
  have z3 : ([97, 116, 32] ++ textF a.Inst).length + 1 ≤ 9223372036854775807 := by simp only [List.length_append, List.length_cons, List.length_nil]; omega
  have z4 : (([97, 116, 32] ++ textF a.Inst) ++ [32]).length + (hexL a.Off).length ≤ 9223372036854775807 := by simp only [List.length_append, List.length_cons, List.length_nil]; omega
  have z5 : 1 + a.Name.length ≤ 9223372036854775807 := by omega
  have z6 : ((([97, 116, 32] ++ textF a.Inst) ++ [32]) ++ hexL a.Off).length + ([32] ++ a.Name).length ≤ 9223372036854775807 := by simp only [List.length_append, List.length_cons, List.length_nil]; omega
  simp only [F_ref28_Answer, fws, box_rq, box_an, F_ref28_Answerr0b, F_ref28_Answerr0_W, F_ref28_Answerr1b, F_ref28_Answerr2b, F_ref28_Answerr3b, F_ref28_Answerr4b, F_ref28_Answerr5b, F_ref28_Answerr6b, F_ref28_Answerr7b, F_ref28_Answerr8b, F_ref28_Answerr9b, F_ref28_Answerr10b, F_ref28_Answerr11b, F_ref28_Answerr12b, F_ref28_Answerr13b, F_ref28_Answercb, F_ref28_Answerc_W]
  by_cases e0 : a.Err = 0
  · have d0 : decide (a.Err = 0) = true := decide_eq_true e0
    by_cases k1 : s.Kind = 1
    · have d1 : decide (s.Kind = 1) = true := decide_eq_true k1
      have hm : ansM s.Kind a = [104, 97, 110, 100, 108, 101, 32] ++ textF a.Handle := by unfold ansM; rw [if_neg (fun h => h e0), if_pos k1]
      rw [hm]
      simp only [fws, seval, cond_true, cond_false, if_true, if_false, unV, isNil, optI, iV, stepI, evalR, IntKind.bits, ini, faI_ptr, Nat.zero_add, Nat.add_zero, size_str, append_str, s1, s3, s6, s7, b1, b3, b6, b7, a1, L0, A0, A1, A2, A3, A4, CC_of c0, CC_of c1, CC_of c2, CC_of c3, z0, z1, z2, z3, z4, z5, z6, Bool.not_true, Bool.not_false, N_ref28_Answer, d0, d1]
      rfl
    have d1 : decide (s.Kind = 1) = false := decide_eq_false k1
    by_cases k2 : s.Kind = 2
    · have d2 : decide (s.Kind = 2) = true := decide_eq_true k2
      have hm : ansM s.Kind a = (([97, 116, 32] ++ textF a.Inst) ++ [32]) ++ hexL a.Off := by unfold ansM; rw [if_neg (fun h => h e0), if_neg k1, if_pos k2]
      rw [hm]
      simp only [fws, seval, cond_true, cond_false, if_true, if_false, unV, isNil, optI, iV, stepI, evalR, IntKind.bits, ini, faI_ptr, Nat.zero_add, Nat.add_zero, size_str, append_str, s1, s3, s6, s7, b1, b3, b6, b7, a1, L0, A0, A1, A2, A3, A4, CC_of c0, CC_of c1, CC_of c2, CC_of c3, z0, z1, z2, z3, z4, z5, z6, Bool.not_true, Bool.not_false, N_ref28_Answer, d0, d1, d2]
      rfl
    have d2 : decide (s.Kind = 2) = false := decide_eq_false k2
    by_cases k3 : s.Kind = 3
    · have d3 : decide (s.Kind = 3) = true := decide_eq_true k3
      by_cases en : a.Name = []
      · have q : strEq ⟨a.Name.toArray⟩ ⟨#[]⟩ = true := by rw [en]; rfl
        have hm : ansM s.Kind a = (([97, 116, 32] ++ textF a.Inst) ++ [32]) ++ hexL a.Off := by unfold ansM; rw [if_neg (fun h => h e0), if_neg k1, if_neg k2, if_pos k3, if_pos en]
        rw [hm]
        simp only [fws, seval, cond_true, cond_false, if_true, if_false, unV, isNil, optI, iV, stepI, evalR, IntKind.bits, ini, faI_ptr, Nat.zero_add, Nat.add_zero, size_str, append_str, s1, s3, s6, s7, b1, b3, b6, b7, a1, L0, A0, A1, A2, A3, A4, CC_of c0, CC_of c1, CC_of c2, CC_of c3, z0, z1, z2, z3, z4, z5, z6, Bool.not_true, Bool.not_false, N_ref28_Answer, d0, d1, d2, d3, q]
        rfl
      · have q := ne_str en
        have hm : ansM s.Kind a = ((([97, 116, 32] ++ textF a.Inst) ++ [32]) ++ hexL a.Off) ++ ([32] ++ a.Name) := by unfold ansM; rw [if_neg (fun h => h e0), if_neg k1, if_neg k2, if_pos k3, if_neg en]
        rw [hm]
        simp only [fws, seval, cond_true, cond_false, if_true, if_false, unV, isNil, optI, iV, stepI, evalR, IntKind.bits, ini, faI_ptr, Nat.zero_add, Nat.add_zero, size_str, append_str, s1, s3, s6, s7, b1, b3, b6, b7, a1, L0, A0, A1, A2, A3, A4, CC_of c0, CC_of c1, CC_of c2, CC_of c3, z0, z1, z2, z3, z4, z5, z6, Bool.not_true, Bool.not_false, N_ref28_Answer, d0, d1, d2, d3, q]
        rfl
    have d3 : decide (s.Kind = 3) = false := decide_eq_false k3
    have hm : ansM s.Kind a = [111, 107] := by unfold ansM; rw [if_neg (fun h => h e0), if_neg k1, if_neg k2, if_neg k3]
    rw [hm]
    simp only [fws, seval, cond_true, cond_false, if_true, if_false, unV, isNil, optI, iV, stepI, evalR, IntKind.bits, ini, faI_ptr, Nat.zero_add, Nat.add_zero, size_str, append_str, s1, s3, s6, s7, b1, b3, b6, b7, a1, L0, A0, A1, A2, A3, A4, CC_of c0, CC_of c1, CC_of c2, CC_of c3, z0, z1, z2, z3, z4, z5, z6, Bool.not_true, Bool.not_false, N_ref28_Answer, d0, d1, d2, d3]
    rfl
  · have d0 : decide (a.Err = 0) = false := decide_eq_false e0
    have hm : ansM s.Kind a = [101, 114, 114, 111, 114, 32] ++ textF a.Err := by unfold ansM; rw [if_pos e0]
    rw [hm]
    simp only [fws, seval, cond_true, cond_false, if_true, if_false, unV, isNil, optI, iV, stepI, evalR, IntKind.bits, ini, faI_ptr, Nat.zero_add, Nat.add_zero, size_str, append_str, s1, s3, s6, s7, b1, b3, b6, b7, a1, L0, A0, A1, A2, A3, A4, CC_of c0, CC_of c1, CC_of c2, CC_of c3, z0, z1, z2, z3, z4, z5, z6, Bool.not_true, Bool.not_false, N_ref28_Answer, d0]
    rfl
theorem law_answers (t : ScF T) (hl : T 3 = some F_law28_ScriptAnswers) (hal : FnV T 9 [] (.bool true)) (s : S_api_Req) (a : S_api_Ans) (he : a.Err ≤ 9223372036854775807) (hh : a.Handle ≤ 9223372036854775807)
    (hi : a.Inst ≤ 9223372036854775807) (ho : ∃ n : Nat, n < 18446744073709551616 ∧ a.Off = (n : Int)) : Ev T 3 [rq s, an a] [] fun v _ => v = .bool true := by
  rw [Ev_fn hl rfl]
  have A4 : ∀ H, loadI (xEn s :: aEn a :: H) (.pointer (some ⟨1, 4, none⟩)) = some (strV a.Name, xEn s :: aEn a :: H) := fun _ => rfl
  have N0 : ∀ H, loadNI (xEn s :: aEn a :: H) 18 (.pointer (some ⟨0, 0, none⟩)) = some (rq s, xEn s :: aEn a :: H) := fun _ => rfl
  have N1 : ∀ H, loadNI (xEn s :: aEn a :: H) 5 (.pointer (some ⟨1, 0, none⟩)) = some (an a, xEn s :: aEn a :: H) := fun _ => rfl
  have ln : ∀ (H : Heap) (l : List UInt8), lenI H 0 (strV l) = some (.int .i64 l.length, H) := fun _ _ => rfl
  simp only [F_law28_ScriptAnswers, fws, box_rq, box_an, F_law28_ScriptAnswersr0b, F_law28_ScriptAnswersr0_W, F_law28_ScriptAnswersr1b, F_law28_ScriptAnswerscb, F_law28_ScriptAnswersc_W]
  by_cases q : (4096 : Int) < a.Name.length
  · simp only [fws, seval, cond_true, cond_false, if_true, if_false, unV, isNil, optI, iV, stepI, evalR, IntKind.bits, ini, faI_ptr, Nat.zero_add, ln, A4, q, N_law28_ScriptAnswers]
  · have k : OkAn a := ⟨he, hh, hi, ho, by omega⟩
    have c1 := f_script_Answer t s k
    have c2 := f_ref28_Answer t s k
    simp only [fws, seval, cond_true, cond_false, if_true, if_false, unV, isNil, optI, iV, stepI, evalR, IntKind.bits, ini, faI_ptr, Nat.zero_add, ln, A4, N0, N1, q, CC_of c1, CC_of c2, CC_of hal, Fw.strEq_str, decide_true, N_law28_ScriptAnswers]
end
end Go.Proofs.YtfhhfanapgjcgaaDoor
/- The law ScriptAnswers at its table. -/
namespace Go.Proofs.YtfhhfanapgjcgaaDoor
open Go Fw
theorem sc_f : ScF TSb := ⟨by kernel_rfl, by kernel_rfl, by kernel_rfl, by kernel_rfl, by kernel_rfl, by kernel_rfl⟩
theorem i64_le {n : Int} (h : (Lit.int .i64 n).wf = true) : n ≤ 9223372036854775807 := by
  simp [Lit.wf, IntKind.min, IntKind.max, IntKind.bits, IntKind.signed] at h
  omega
theorem u64_nat {n : Int} (h : (Lit.int .u64 n).wf = true) : ∃ m : Nat, m < 18446744073709551616 ∧ n = (m : Int) := by
  simp [Lit.wf, IntKind.min, IntKind.max, IntKind.bits, IntKind.signed] at h
  exact ⟨n.toNat, by omega, by omega⟩
theorem answers_t (s : S_api_Req) (a : S_api_Ans) (w : a.wf) : Ev TSb 3 [.agg (S_api_ReqE.e s).toArray, .agg (S_api_AnsE.e a).toArray] [] fun v _ => v = .bool true :=
  law_answers sc_f (by kernel_rfl) sc_alive s a (i64_le w.1) (i64_le w.2.1) (i64_le w.2.2.1) (u64_nat w.2.2.2.1)
end Go.Proofs.YtfhhfanapgjcgaaDoor
