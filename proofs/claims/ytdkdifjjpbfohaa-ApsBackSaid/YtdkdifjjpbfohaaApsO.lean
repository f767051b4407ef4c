/- Groups of relocations, written: the numbers. -/
import Derived.Test.YtdkdifjjpbfohaaApsG
namespace Go.Proofs.Ytdkdifjjpbfohaa
open Go Fw
set_option linter.unusedSimpArgs false
set_option linter.unusedVariables false
set_option linter.unusedSectionVars false

abbrev isI64r (n : Int) : Prop := -9223372036854775808 ≤ n ∧ n < 9223372036854775808
def okRel (r : S_api_Rel) : Prop := (0 ≤ r.At ∧ r.At < 18446744073709551616) ∧ (0 ≤ r.Typ ∧ r.Typ < 4294967296) ∧ (0 ≤ r.Sym ∧ r.Sym < 4294967296) ∧ isI64r r.Add
def okRels (l : List S_api_Rel) : Prop := ∀ r ∈ l, okRel r
abbrev relA (r : S_api_Rel) : Value := .agg #[.int .u64 r.At, .int .u32 r.Typ, .int .u32 r.Sym, .int .i64 r.Add, .bool r.Has]
/-- Type and symbol as one number. -/
def keyI (r : S_api_Rel) : Int := IntKind.i64.wrap (r.Sym * 4294967296 + r.Typ)
theorem i64_lt {a : Int} (h0 : 0 ≤ a) (h1 : a < 18446744073709551616) : IntKind.i64.wrap a = if a < 9223372036854775808 then a else a - 18446744073709551616 := by
  unfold IntKind.wrap
  simp [IntKind.bits, IntKind.signed]
  split <;> omega
theorem i64_is (a : Int) : isI64r (IntKind.i64.wrap a) := by
  unfold isI64r IntKind.wrap
  simp [IntKind.bits, IntKind.signed]
  omega
theorem keyI_inj {a b : S_api_Rel} (ha : okRel a) (hb : okRel b) : keyI a = keyI b ↔ (a.Typ = b.Typ ∧ a.Sym = b.Sym) := by
  obtain ⟨_, a1, a2, _⟩ := ha
  obtain ⟨_, b1, b2, _⟩ := hb
  unfold keyI
  rw [i64_lt (by omega) (by omega), i64_lt (by omega) (by omega)]
  constructor
  · intro h
    split at h <;> split at h <;> exact ⟨by omega, by omega⟩
  · rintro ⟨h1, h2⟩
    rw [h1, h2]
theorem f_aps_info {T : Tab} (h : T 45 = some F_aps_info) {r : S_api_Rel} (hr : okRel r) : FnV T 45 [relA r] (.int .i64 (keyI r)) := by
  refine FnV_of (by simp [pure_agg, pure_tup, pure_int, pure_bool, pure_string, pure_slN, pure_ptrN, pure_mapN, pure_imm, pure_immN, bltN, byteE_d, intE_d, boolE_d, strE_d]) ?_
  rw [Ev_fn h rfl]
  rcases r with ⟨a, b, c, d, e⟩
  obtain ⟨_, h1, h2, _⟩ := hr
  simp only at h1 h2
  obtain ⟨bN, rfl⟩ : ∃ n : Nat, b = n := ⟨b.toNat, by omega⟩
  obtain ⟨cN, rfl⟩ : ∃ n : Nat, c = n := ⟨c.toNat, by omega⟩
  have w1 : IntKind.u64.wrap (bN : Int) = bN := by rw [wrap_u64]; omega
  have w2 : IntKind.u64.wrap (cN : Int) = cN := by rw [wrap_u64]; omega
  have w3 : IntKind.u64.wrap ((cN : Int) * 4294967296) = ((cN * 4294967296 : Nat) : Int) := by rw [wrap_u64]; omega
  have w4 : Go.bits .or .u64 ((cN * 4294967296 : Nat) : Int) (bN : Int) = ((cN * 4294967296 + bN : Nat) : Int) := by
    rw [(bits_u64 (by omega) (by omega)).2.1]
    have := Nat.two_pow_add_eq_or_of_lt (i := 32) (show bN < 2 ^ 32 by omega) cN
    rw [Nat.mul_comm] at this
    rw [← this]
  have w5 : keyI ⟨a, bN, cN, d, e⟩ = IntKind.i64.wrap ((cN * 4294967296 + bN : Nat) : Int) := by unfold keyI; congr 1
  simp only [F_aps_info, fws, cond_true, cond_false, if_true, if_false, unV, isNil, optI, iV, stepI, evalR, reduceIte, reduceCtorEq, Nat.reduceEqDiff, Int.reduceLT, Int.reduceLE, Int.reduceToNat, Nat.reduceLT, Nat.reduceLeDiff, Int.reduceEq, Int.reduceNeg, IntKind.bits, Nat.reduceAdd, Nat.reduceMul, Nat.reducePow, Int.reducePow, ini, fwh, lk, cellsAt, tagOf, spotOf, rdN, spl, fillL, zr, fwi, F_aps_infor0_W, F_aps_infor1_W, F_aps_infoc_W, F_aps_infor0_W, F_aps_infor1_W, F_aps_infoc_W, w1, w2, w3, w4, w5]
  rfl
def zeroR : S_api_Rel := ⟨0, 0, 0, 0, false⟩
def rAt (l : List S_api_Rel) (i : Nat) : S_api_Rel := (l[i]?).getD zeroR
theorem rAt_lt {l : List S_api_Rel} {i : Nat} (h : i < l.length) : rAt l i = l[i] := by unfold rAt; rw [List.getElem?_eq_getElem h]; rfl
/-- Where a row of the same type and symbol ends. -/
def goK (l : List S_api_Rel) (key : Int) : Nat → Nat → Nat
  | 0, k => k
  | f + 1, k => if k < l.length ∧ keyI (rAt l k) = key then goK l key f (k + 1) else k
def runK (l : List S_api_Rel) (i : Nat) : Nat := goK l (keyI (rAt l i)) (l.length - i) i
def flagsI (rela : Bool) : Int := if rela then 9 else 1
def isHd (l : List S_api_Rel) (i : Nat) : Bool := decide (i = 0) || decide (keyI (rAt l i) ≠ keyI (rAt l (i - 1)))
def pvAt (l : List S_api_Rel) (i : Nat) : Int := if i = 0 then 0 else (rAt l (i - 1)).At
def pvAdd (l : List S_api_Rel) (i : Nat) : Int := if i = 0 then 0 else (rAt l (i - 1)).Add
def hdL (rela : Bool) (l : List S_api_Rel) (i : Nat) : List Int := [((runK l i - i : Nat) : Int), flagsI rela, keyI (rAt l i)]
def elL (rela : Bool) (l : List S_api_Rel) (i : Nat) : List Int := [IntKind.i64.wrap (IntKind.u64.wrap ((rAt l i).At - pvAt l i))] ++ (if rela then [IntKind.i64.wrap ((rAt l i).Add - pvAdd l i)] else [])
def numsE (rela : Bool) (l : List S_api_Rel) : Nat → List Int
  | 0 => [(l.length : Int), 0]
  | i + 1 => numsE rela l i ++ (if isHd l i then hdL rela l i else []) ++ elL rela l i
def encOkR (rela : Bool) (r : S_api_Rel) : Bool := r.Has == rela && (rela || decide (r.Add = 0))
def encOk (rela : Bool) (l : List S_api_Rel) : Bool := decide (l.length ≤ 512) && l.all (encOkR rela)
def mark : List UInt8 := [65, 80, 83, 50]
def putL (l : List Int) : List UInt8 := l.flatMap (putS 10)
def apsB (rela : Bool) (l : List S_api_Rel) : List UInt8 := if encOk rela l then mark ++ putL (numsE rela l l.length) else []
def apsE (rela : Bool) (l : List S_api_Rel) : Int := if encOk rela l then 0 else 140
theorem putL_app (a b : List Int) : putL (a ++ b) = putL a ++ putL b := List.flatMap_append
theorem putL_one (n : Int) : putL [n] = putS 10 n := by unfold putL; simp
theorem goK_ge {l : List S_api_Rel} {key : Int} : ∀ (f k : Nat), k ≤ goK l key f k
  | 0, k => Nat.le_refl _
  | f + 1, k => by
    rw [goK]
    split
    · exact Nat.le_trans (Nat.le_succ _) (goK_ge f (k + 1))
    · exact Nat.le_refl _
theorem goK_le {l : List S_api_Rel} {key : Int} : ∀ (f k : Nat), k ≤ l.length → goK l key f k ≤ l.length
  | 0, k, h => h
  | f + 1, k, h => by
    rw [goK]
    split
    · rename_i hc; exact goK_le f (k + 1) hc.1
    · exact h
theorem goK_in {l : List S_api_Rel} {key : Int} : ∀ (f k j : Nat), k ≤ j → j < goK l key f k → keyI (rAt l j) = key
  | 0, k, j, h1, h2 => by rw [goK] at h2; omega
  | f + 1, k, j, h1, h2 => by
    rw [goK] at h2
    split at h2
    · rename_i hc
      rcases Nat.eq_or_lt_of_le h1 with h | h
      · subst h; exact hc.2
      · exact goK_in f (k + 1) j h h2
    · omega
theorem goK_out {l : List S_api_Rel} {key : Int} : ∀ (f k : Nat), l.length ≤ k + f → goK l key f k < l.length → keyI (rAt l (goK l key f k)) ≠ key
  | 0, k, h1, h2 => by rw [goK] at h2; omega
  | f + 1, k, h1, h2 => by
    rw [goK] at h2 ⊢
    split
    · rename_i hc
      rw [if_pos hc] at h2
      exact goK_out f (k + 1) (by omega) h2
    · rename_i hc
      rw [if_neg hc] at h2
      exact fun he => hc ⟨h2, he⟩
theorem runK_gt {l : List S_api_Rel} {i : Nat} (h : i < l.length) : i < runK l i := by
  unfold runK
  obtain ⟨f, hf⟩ : ∃ f, l.length - i = f + 1 := ⟨l.length - i - 1, by omega⟩
  rw [hf, goK, if_pos ⟨h, rfl⟩]
  exact goK_ge f (i + 1)
end Go.Proofs.Ytdkdifjjpbfohaa
