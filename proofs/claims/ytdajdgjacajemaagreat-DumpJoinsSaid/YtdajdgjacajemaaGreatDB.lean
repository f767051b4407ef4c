/- Words: of machines, letters, bindings, kinds, sums. -/
import Derived.Test.YtdajdgjacajemaaGreatDA
import Derived.Test.YtdajdgjacajemaaGreatStDu
namespace Go.Proofs.YtdajdgjacajemaaGreat
open Go Fw
set_option linter.unusedSimpArgs false
set_option linter.unusedVariables false
set_option linter.unusedSectionVars false

structure DuF (T : Tab) : Prop extends LnF T where
  hx : T 46 = some F_num_Hex
  rx : T 69 = some F_ref01_Hex
  r2 : T 48 = some F_ref32_hex
  tx : T 49 = some F_num_Text
  rt : T 43 = some F_ref01_Text
  ai : T 98 = some F_apply_intel
  aa : T 99 = some F_apply_arm
  ao : T 70 = some F_apply_Of
  ro : T 54 = some F_ref15_Of
  kd : T 52 = some F_dump_kind
  ad : T 53 = some F_dump_add
  mc : T 40 = some F_dump_machine
  lt : T 68 = some F_dump_letters
  pt : T 41 = some F_dump_writer_part
  wh : T 45 = some F_dump_when
  wi : T 51 = some F_dump_with
  bd : T 50 = some F_dump_bind
  hs : T 15 = some F_dump_Heads
  dy : T 17 = some F_dump_Dyn
  sy : T 19 = some F_dump_Syms
  rs : T 21 = some F_dump_Rels
  lb : T 23 = some F_dump_Lib
  rp : T 44 = some F_ref32_part
  rh : T 16 = some F_ref32_Heads
  rd : T 18 = some F_ref32_Dyn
  ry : T 20 = some F_ref32_Syms
  rr : T 22 = some F_ref32_Rels
  gr : T 14 = some F_law32_great

def hexI (n : Int) : List UInt8 := 48 :: 120 :: hexD 16 n.toNat
theorem hexI_ne (n : Int) : hexI n ≠ [] := by simp [hexI]
theorem hexI_len (n : Int) : (hexI n).length ≤ 18 := by
  have := hexD_len 16 n.toNat
  simp only [hexI, List.length_cons]; omega
theorem dgF_ne : ∀ (k n : Nat) (s : List UInt8), n < 10 ^ k → s ≠ [] ∨ 0 < n → dgF k n s ≠ []
  | 0, n, s, hn, h => by
    have : n = 0 := by simpa using hn
    rcases h with h | h
    · exact h
    · omega
  | k + 1, n, s, hn, h => by
    rw [dgF]
    split
    · rename_i h0; rcases h with h | h
      · exact h
      · omega
    · exact dgF_ne k (n / 10) _ (by rw [Nat.pow_succ] at hn; omega) (.inl (by simp))
theorem textF_ne {n : Int} (h : n ≤ 9223372036854775807) : textF n ≠ [] := by
  unfold textF
  split
  · simp
  · refine dgF_ne 20 n.toNat [] ?_ (.inr (by omega))
    have : (10 : Nat) ^ 20 = 100000000000000000000 := by decide
    omega
section
variable {T : Tab}
theorem f_hex (t : DuF T) {n : Int} (h0 : 0 ≤ n) (h1 : n < 18446744073709551616) : FnV T 46 [.int .u64 n] (strV (hexI n)) := by
  obtain ⟨m, rfl⟩ := Int.eq_ofNat_of_zero_le h0
  exact f_num_Hex t.hx (by omega)
theorem f_rhex (t : DuF T) {n : Int} (h0 : 0 ≤ n) (h1 : n < 18446744073709551616) : FnV T 48 [.int .u64 n] (strV (hexI n)) := by
  obtain ⟨m, rfl⟩ := Int.eq_ofNat_of_zero_le h0
  have c := f_ref01_Hex t.rx (n := m) (by omega)
  refine FnV_of (by simp [pure_agg, pure_tup, pure_int, pure_bool, pure_string, pure_slN, pure_ptrN, pure_mapN, pure_imm, pure_immN, bltN, byteE_d, intE_d, boolE_d, strE_d]) ?_
  rw [Ev_fn t.r2 rfl]
  simp only [F_ref32_hex, fws, seval, cond_true, cond_false, if_true, if_false, unV, isNil, optI, iV, stepI, evalR, IntKind.bits, ini, N_ref32_hex, CC_of c]
  rfl
/-! ### machines -/
def machM (m : Int) : List UInt8 := if m = 62 then [120, 56, 54, 45, 54, 52] else if m = 183 then [97, 97, 114, 99, 104, 54, 52] else textF m
theorem f_machine (t : DuF T) {m : Int} (h0 : 0 ≤ m) (h1 : m < 65536) : FnV T 40 [.int .u16 m] (strV (machM m)) := by
  have c := f_text t.tx m (by omega)
  have w : IntKind.i64.wrap m = m := wrapI64 (by omega) (by omega)
  refine FnV_of (by simp [pure_agg, pure_tup, pure_int, pure_bool, pure_string, pure_slN, pure_ptrN, pure_mapN, pure_imm, pure_immN, bltN, byteE_d, intE_d, boolE_d, strE_d]) ?_
  rw [Ev_fn t.mc rfl]
  unfold machM
  by_cases q1 : m = 62
  · subst q1
    simp only [F_dump_machine, fws, seval, cond_true, cond_false, if_true, if_false, unV, isNil, optI, iV, stepI, evalR, IntKind.bits, ini, N_dump_machine]
    rfl
  · rw [if_neg q1]
    by_cases q2 : m = 183
    · subst q2
      simp only [F_dump_machine, fws, seval, cond_true, cond_false, if_true, if_false, unV, isNil, optI, iV, stepI, evalR, IntKind.bits, ini, N_dump_machine]
      rfl
    · have d1 : decide (m = 62) = false := decide_eq_false q1
      have d2 : decide (m = 183) = false := decide_eq_false q2
      rw [if_neg q2]
      simp only [F_dump_machine, fws, seval, cond_true, cond_false, if_true, if_false, unV, isNil, optI, iV, stepI, evalR, IntKind.bits, ini, N_dump_machine, d1, d2, w, CC_of c]
      rfl
/-! ### letters -/
def bitC (b : Bool) (c : UInt8) : UInt8 := bif b then c else 45
def lettM (f : Nat) : List UInt8 := [bitC (decide (f / 4 % 2 = 1)) 114, bitC (decide (f / 2 % 2 = 1)) 119, bitC (decide (f % 2 = 1)) 120]
theorem and_bit {f i : Nat} (hf : f < 4294967296) (hi : 2 ^ i < 4294967296) : decide (Go.bits .and .u32 (f : Int) ((2 ^ i : Nat) : Int) = 0) = !decide (f / 2 ^ i % 2 = 1) := by
  rw [(bits_u32 hf hi).1, ← Nat.testBit_eq_decide_div_mod_eq]
  have h1 : (f &&& 2 ^ i).testBit i = f.testBit i := by rw [Nat.testBit_and, Nat.testBit_two_pow_self, Bool.and_true]
  cases hb : f.testBit i with
  | true =>
    refine decide_eq_false fun h => ?_
    have h : f &&& 2 ^ i = 0 := by omega
    rw [h, hb] at h1
    simp at h1
  | false =>
    have h : f &&& 2 ^ i = 0 := by
      refine Nat.eq_of_testBit_eq fun j => ?_
      rw [Nat.testBit_and, Nat.zero_testBit]
      by_cases hj : i = j
      · rw [← hj, hb, Bool.false_and]
      · rw [Nat.testBit_two_pow_of_ne hj, Bool.and_false]
    rw [h]
    rfl
theorem f_letters (t : DuF T) {f : Nat} (hf : f < 4294967296) : FnV T 68 [.int .u32 f] (strV (lettM f)) := by
  have b4 : decide (Go.bits .and .u32 (f : Int) 4 = 0) = !decide (f / 4 % 2 = 1) := and_bit (f := f) (i := 2) hf (by decide)
  have b2 : decide (Go.bits .and .u32 (f : Int) 2 = 0) = !decide (f / 2 % 2 = 1) := and_bit (f := f) (i := 1) hf (by decide)
  have b1 : decide (Go.bits .and .u32 (f : Int) 1 = 0) = !decide (f % 2 = 1) := by
    have := and_bit (f := f) (i := 0) hf (by decide)
    rwa [Nat.pow_zero, Nat.div_one] at this
  refine FnV_of (by simp [pure_agg, pure_tup, pure_int, pure_bool, pure_string, pure_slN, pure_ptrN, pure_mapN, pure_imm, pure_immN, bltN, byteE_d, intE_d, boolE_d, strE_d]) ?_
  rw [Ev_fn t.lt rfl]
  have w1 : IntKind.i64.wrap 1 = 1 := by decide
  have w2 : IntKind.i64.wrap 2 = 2 := by decide
  have w3 : IntKind.i64.wrap 3 = 3 := by decide
  unfold lettM
  generalize decide (f / 4 % 2 = 1) = q4 at b4 ⊢
  generalize decide (f / 2 % 2 = 1) = q2 at b2 ⊢
  generalize decide (f % 2 = 1) = q1 at b1 ⊢
  simp only [F_dump_letters, fws, seval, cond_true, cond_false, if_true, if_false, unV, isNil, optI, iV, stepI, evalR, IntKind.bits, ini, fwh, lk, cellsAt, tagOf, spotOf, rdN, spl, fillL, zr, fwi, F_dump_lettersr0b, F_dump_lettersr0_W, F_dump_lettersr1b, F_dump_lettersr1_W, F_dump_lettersr2b, F_dump_lettersr2_W, F_dump_lettersr3b, F_dump_lettersr3_W, F_dump_lettersr4b, F_dump_lettersr4_W, F_dump_lettersr5b, F_dump_lettersr5_W, F_dump_lettersr6b, F_dump_lettersr6_W, F_dump_lettersr7b, F_dump_lettersr7_W, F_dump_lettersr8b, F_dump_lettersr8_W, F_dump_lettersr9b, F_dump_lettersr9_W, F_dump_lettersl0b, F_dump_lettersr10b, F_dump_lettersr10_W, F_dump_letterscb, F_dump_lettersc_W]
  cases q4 <;> cases q2 <;> cases q1 <;> (simp only [Bool.not_true, Bool.not_false] at b4 b2 b1
                                          rw [w_loop]
                                          simp only [fws, seval, cond_true, cond_false, if_true, if_false, unV, isNil, optI, iV, stepI, evalR, IntKind.bits, ini, fwh, lk, cellsAt, tagOf, spotOf, rdN, spl, fillL, zr, fwi, N_dump_letters, xI, b4, b2, b1, and_self, w1, w2, w3]
                                          rw [w_loop]
                                          simp only [fws, seval, cond_true, cond_false, if_true, if_false, unV, isNil, optI, iV, stepI, evalR, IntKind.bits, ini, fwh, lk, cellsAt, tagOf, spotOf, rdN, spl, fillL, zr, fwi, N_dump_letters, xI, b4, b2, b1, and_self, w1, w2, w3]
                                          rw [w_loop]
                                          simp only [fws, seval, cond_true, cond_false, if_true, if_false, unV, isNil, optI, iV, stepI, evalR, IntKind.bits, ini, fwh, lk, cellsAt, tagOf, spotOf, rdN, spl, fillL, zr, fwi, N_dump_letters, xI, b4, b2, b1, and_self, w1, w2, w3]
                                          rw [w_loop]
                                          simp only [fws, seval, cond_true, cond_false, if_true, if_false, unV, isNil, optI, iV, stepI, evalR, IntKind.bits, ini, fwh, lk, cellsAt, tagOf, spotOf, rdN, spl, fillL, zr, fwi, N_dump_letters, xI, b4, b2, b1, and_self, w1, w2, w3]
                                          rfl)
end
end Go.Proofs.YtdajdgjacajemaaGreat
/- Words, on: bindings, kinds, sums. -/
namespace Go.Proofs.YtdajdgjacajemaaGreat
open Go Fw
set_option linter.unusedSimpArgs false
set_option linter.unusedVariables false
set_option linter.unusedSectionVars false

section
variable {T : Tab}
def whenM (b : Bool) (w : List UInt8) : List UInt8 := bif b then w else []
theorem f_when (t : DuF T) (b : Bool) (w : List UInt8) : FnV T 45 [.bool b, strV w] (strV (whenM b w)) := by
  refine FnV_of (by simp [pure_agg, pure_tup, pure_int, pure_bool, pure_string, pure_slN, pure_ptrN, pure_mapN, pure_imm, pure_immN, bltN, byteE_d, intE_d, boolE_d, strE_d]) ?_
  rw [Ev_fn t.wh rfl]
  cases b <;> (simp only [F_dump_when, fws, seval, cond_true, cond_false, if_true, if_false, unV, isNil, optI, iV, stepI, evalR, IntKind.bits, ini, N_dump_when]; rfl)
def withM (w s : List UInt8) : List UInt8 := if s = [] then [] else w ++ 32 :: s
theorem f_with (t : DuF T) (w s : List UInt8) (hw : w.length ≤ 1000) (hs : s.length ≤ 1000000) : FnV T 51 [strV w, strV s] (strV (withM w s)) := by
  refine FnV_of (by simp [pure_agg, pure_tup, pure_int, pure_bool, pure_string, pure_slN, pure_ptrN, pure_mapN, pure_imm, pure_immN, bltN, byteE_d, intE_d, boolE_d, strE_d]) ?_
  rw [Ev_fn t.wi rfl]
  unfold withM
  by_cases h : s = []
  · subst h
    have b0 : strEq ⟨([] : List UInt8).toArray⟩ ⟨#[]⟩ = true := rfl
    simp only [F_dump_with, fws, seval, cond_true, cond_false, if_true, if_false, unV, isNil, optI, iV, stepI, evalR, IntKind.bits, ini, N_dump_with, b0]
    rfl
  · have b0 := ne_str h
    rw [if_neg h]
    have z : w.length + 1 ≤ 9223372036854775807 := by omega
    have z2 : (w ++ [32]).length + s.length ≤ 9223372036854775807 := by simp only [List.length_append, List.length_cons, List.length_nil]; omega
    have sp : (⟨w.toArray⟩ : ByteArray) ++ ⟨#[32]⟩ = ⟨(w ++ [32]).toArray⟩ := append_str (m := [32])
    have sz : (⟨#[32]⟩ : ByteArray).size = 1 := rfl
    simp only [F_dump_with, fws, seval, cond_true, cond_false, if_true, if_false, unV, isNil, optI, iV, stepI, evalR, IntKind.bits, ini, N_dump_with, b0, size_str, sz, z, z2, sp, append_str]
    rw [List.append_assoc]
    rfl
/-! ### bindings -/
def bindM (n : Int) : List UInt8 := if n = 0 then [108, 111, 99, 97, 108] else if n = 1 then [103, 108, 111, 98, 97, 108] else if n = 2 then [119, 101, 97, 107] else [98, 105, 110, 100, 32] ++ textF n
theorem f_bind (t : DuF T) {n : Int} (h1 : n ≤ 9223372036854775807) : FnV T 50 [.int .i64 n] (strV (bindM n)) := by
  refine FnV_of (by simp [pure_agg, pure_tup, pure_int, pure_bool, pure_string, pure_slN, pure_ptrN, pure_mapN, pure_imm, pure_immN, bltN, byteE_d, intE_d, boolE_d, strE_d]) ?_
  rw [Ev_fn t.bd rfl]
  have c := f_text t.tx n h1
  have hl := textF_len n
  by_cases n0 : n = 0
  · subst n0
    simp only [F_dump_bind, fws, seval, cond_true, cond_false, if_true, if_false, unV, isNil, optI, iV, stepI, evalR, IntKind.bits, ini, fwh, lk, cellsAt, tagOf, spotOf, rdN, spl, fillL, zr, fwi, N_dump_bind, and_self]
    rfl
  · by_cases n1 : n = 1
    · subst n1
      simp only [F_dump_bind, fws, seval, cond_true, cond_false, if_true, if_false, unV, isNil, optI, iV, stepI, evalR, IntKind.bits, ini, fwh, lk, cellsAt, tagOf, spotOf, rdN, spl, fillL, zr, fwi, N_dump_bind, and_self]
      rfl
    · by_cases n2 : n = 2
      · subst n2
        simp only [F_dump_bind, fws, seval, cond_true, cond_false, if_true, if_false, unV, isNil, optI, iV, stepI, evalR, IntKind.bits, ini, fwh, lk, cellsAt, tagOf, spotOf, rdN, spl, fillL, zr, fwi, N_dump_bind, and_self]
        rfl
      · have e : bindM n = [98, 105, 110, 100, 32] ++ textF n := by unfold bindM; rw [if_neg n0, if_neg n1, if_neg n2]
        rw [e]
        have z : 5 + (textF n).length ≤ 9223372036854775807 := by omega
        have sp : (⟨#[98, 105, 110, 100, 32]⟩ : ByteArray) ++ ⟨(textF n).toArray⟩ = ⟨([98, 105, 110, 100, 32] ++ textF n).toArray⟩ := append_str (l := [98, 105, 110, 100, 32])
        have sz : (⟨#[98, 105, 110, 100, 32]⟩ : ByteArray).size = 5 := rfl
        by_cases hn : n < 0
        · simp only [F_dump_bind, fws, seval, cond_true, cond_false, if_true, if_false, unV, isNil, optI, iV, stepI, evalR, IntKind.bits, ini, fwh, lk, cellsAt, tagOf, spotOf, rdN, spl, fillL, zr, size_str, N_dump_bind, hn, CC_of c, sz, z, sp]
          rfl
        · have h3 : (3 : Int) ≤ n := by omega
          simp only [F_dump_bind, fws, seval, cond_true, cond_false, if_true, if_false, unV, isNil, optI, iV, stepI, evalR, IntKind.bits, ini, fwh, lk, cellsAt, tagOf, spotOf, rdN, spl, fillL, zr, size_str, N_dump_bind, hn, h3, CC_of c, sz, z, sp]
          rfl
/-! ### kinds -/
def intelM (k : Int) : Option Int := if k = 1 then some 1 else if k = 6 then some 3 else if k = 7 then some 3 else if k = 8 then some 2 else none
def armM (k : Int) : Option Int := if k = 257 then some 1 else if k = 1025 then some 1 else if k = 1026 then some 1 else if k = 1027 then some 2 else none
def ofM (m k : Int) : Option Int := if k = 0 then (if m = 62 then some 0 else if m = 183 then some 0 else none) else if m = 62 then intelM k else if m = 183 then armM k else none
def okV (o : Option Int) : Value := .tuple #[.int .i64 (o.getD 0), .bool o.isSome]
theorem f_intel (t : DuF T) (k : Int) : FnV T 98 [.int .u32 k] (okV (intelM k)) := by
  refine FnV_of (by simp [pure_agg, pure_tup, pure_int, pure_bool, pure_string, pure_slN, pure_ptrN, pure_mapN, pure_imm, pure_immN, bltN, byteE_d, intE_d, boolE_d, strE_d]) ?_
  rw [Ev_fn t.ai rfl]
  by_cases q1 : k = 1
  · subst q1; simp only [F_apply_intel, fws, seval, cond_true, cond_false, if_true, if_false, unV, isNil, optI, iV, stepI, evalR, IntKind.bits, ini, N_apply_intel]; rfl
  have d1 : decide (k = 1) = false := decide_eq_false q1
  by_cases q2 : k = 6
  · subst q2; simp only [F_apply_intel, fws, seval, cond_true, cond_false, if_true, if_false, unV, isNil, optI, iV, stepI, evalR, IntKind.bits, ini, N_apply_intel]; rfl
  have d2 : decide (k = 6) = false := decide_eq_false q2
  by_cases q3 : k = 7
  · subst q3; simp only [F_apply_intel, fws, seval, cond_true, cond_false, if_true, if_false, unV, isNil, optI, iV, stepI, evalR, IntKind.bits, ini, N_apply_intel]; rfl
  have d3 : decide (k = 7) = false := decide_eq_false q3
  by_cases q4 : k = 8
  · subst q4; simp only [F_apply_intel, fws, seval, cond_true, cond_false, if_true, if_false, unV, isNil, optI, iV, stepI, evalR, IntKind.bits, ini, N_apply_intel]; rfl
  have d4 : decide (k = 8) = false := decide_eq_false q4
  unfold intelM
  rw [if_neg q1, if_neg q2, if_neg q3, if_neg q4]
  simp only [F_apply_intel, fws, seval, cond_true, cond_false, if_true, if_false, unV, isNil, optI, iV, stepI, evalR, IntKind.bits, ini, N_apply_intel, d1, d2, d3, d4]
  rfl
theorem f_arm (t : DuF T) (k : Int) : FnV T 99 [.int .u32 k] (okV (armM k)) := by
  refine FnV_of (by simp [pure_agg, pure_tup, pure_int, pure_bool, pure_string, pure_slN, pure_ptrN, pure_mapN, pure_imm, pure_immN, bltN, byteE_d, intE_d, boolE_d, strE_d]) ?_
  rw [Ev_fn t.aa rfl]
  by_cases q1 : k = 257
  · subst q1; simp only [F_apply_arm, fws, seval, cond_true, cond_false, if_true, if_false, unV, isNil, optI, iV, stepI, evalR, IntKind.bits, ini, N_apply_arm]; rfl
  have d1 : decide (k = 257) = false := decide_eq_false q1
  by_cases q2 : k = 1025
  · subst q2; simp only [F_apply_arm, fws, seval, cond_true, cond_false, if_true, if_false, unV, isNil, optI, iV, stepI, evalR, IntKind.bits, ini, N_apply_arm]; rfl
  have d2 : decide (k = 1025) = false := decide_eq_false q2
  by_cases q3 : k = 1026
  · subst q3; simp only [F_apply_arm, fws, seval, cond_true, cond_false, if_true, if_false, unV, isNil, optI, iV, stepI, evalR, IntKind.bits, ini, N_apply_arm]; rfl
  have d3 : decide (k = 1026) = false := decide_eq_false q3
  by_cases q4 : k = 1027
  · subst q4; simp only [F_apply_arm, fws, seval, cond_true, cond_false, if_true, if_false, unV, isNil, optI, iV, stepI, evalR, IntKind.bits, ini, N_apply_arm]; rfl
  have d4 : decide (k = 1027) = false := decide_eq_false q4
  unfold armM
  rw [if_neg q1, if_neg q2, if_neg q3, if_neg q4]
  simp only [F_apply_arm, fws, seval, cond_true, cond_false, if_true, if_false, unV, isNil, optI, iV, stepI, evalR, IntKind.bits, ini, N_apply_arm, d1, d2, d3, d4]
  rfl
theorem f_of (t : DuF T) (m k : Int) : FnV T 70 [.int .u16 m, .int .u32 k] (okV (ofM m k)) := by
  refine FnV_of (by simp [pure_agg, pure_tup, pure_int, pure_bool, pure_string, pure_slN, pure_ptrN, pure_mapN, pure_imm, pure_immN, bltN, byteE_d, intE_d, boolE_d, strE_d]) ?_
  rw [Ev_fn t.ao rfl]
  have c1 := f_intel t k
  have c2 := f_arm t k
  unfold okV at c1 c2
  by_cases k0 : k = 0
  · subst k0
    by_cases m1 : m = 62
    · subst m1; simp only [F_apply_Of, fws, seval, cond_true, cond_false, if_true, if_false, unV, isNil, optI, iV, stepI, evalR, IntKind.bits, ini, N_apply_Of]; rfl
    have d1 : decide (m = 62) = false := decide_eq_false m1
    by_cases m2 : m = 183
    · subst m2; simp only [F_apply_Of, fws, seval, cond_true, cond_false, if_true, if_false, unV, isNil, optI, iV, stepI, evalR, IntKind.bits, ini, N_apply_Of]; rfl
    have d2 : decide (m = 183) = false := decide_eq_false m2
    simp only [F_apply_Of, fws, seval, cond_true, cond_false, if_true, if_false, unV, isNil, optI, iV, stepI, evalR, IntKind.bits, ini, N_apply_Of, d1, d2]
    unfold ofM
    rw [if_pos rfl, if_neg m1, if_neg m2]
    rfl
  have d0 : decide (k = 0) = false := decide_eq_false k0
  unfold ofM
  rw [if_neg k0]
  by_cases m1 : m = 62
  · subst m1; simp only [F_apply_Of, fws, seval, cond_true, cond_false, if_true, if_false, unV, isNil, optI, iV, stepI, evalR, IntKind.bits, ini, N_apply_Of, d0, CC_of c1, List.getElem?_cons_zero, List.getElem?_cons_succ]; rfl
  have d1 : decide (m = 62) = false := decide_eq_false m1
  rw [if_neg m1]
  by_cases m2 : m = 183
  · subst m2; simp only [F_apply_Of, fws, seval, cond_true, cond_false, if_true, if_false, unV, isNil, optI, iV, stepI, evalR, IntKind.bits, ini, N_apply_Of, d0, CC_of c2, List.getElem?_cons_zero, List.getElem?_cons_succ]; rfl
  have d2 : decide (m = 183) = false := decide_eq_false m2
  rw [if_neg m2]
  simp only [F_apply_Of, fws, seval, cond_true, cond_false, if_true, if_false, unV, isNil, optI, iV, stepI, evalR, IntKind.bits, ini, N_apply_Of, d0, d1, d2]
  rfl
def kindM (m k : Int) : List UInt8 :=
  match ofM m k with
  | some 0 => [110, 111, 110, 101]
  | some 1 => [97, 98, 115, 111, 108, 117, 116, 101]
  | some 2 => [114, 101, 108, 97, 116, 105, 118, 101]
  | some 3 => [115, 108, 111, 116]
  | _ => [116, 121, 112, 101]
theorem ofM_cases (m k : Int) : ofM m k = none ∨ ofM m k = some 0 ∨ ofM m k = some 1 ∨ ofM m k = some 2 ∨ ofM m k = some 3 := by
  unfold ofM intelM armM
  repeat' split
  all_goals simp
theorem f_kind (t : DuF T) (m k : Int) : FnV T 52 [.int .u16 m, .int .u32 k] (strV (kindM m k)) := by
  refine FnV_of (by simp [pure_agg, pure_tup, pure_int, pure_bool, pure_string, pure_slN, pure_ptrN, pure_mapN, pure_imm, pure_immN, bltN, byteE_d, intE_d, boolE_d, strE_d]) ?_
  rw [Ev_fn t.kd rfl]
  have c := f_of t m k
  unfold kindM
  unfold okV at c
  rcases ofM_cases m k with h | h | h | h | h
  all_goals
    rw [h] at c ⊢
    simp only [F_dump_kind, fws, seval, cond_true, cond_false, if_true, if_false, unV, isNil, optI, iV, stepI, evalR, IntKind.bits, ini, fwh, lk, cellsAt, tagOf, spotOf, rdN, spl, fillL, zr, fwi, N_dump_kind, CC_of c, Option.getD_none, Option.getD_some, Option.isSome_none, Option.isSome_some, and_self]
    rfl
/-! ### sums -/
def addM (r : S_api_Rel) : List UInt8 := if r.Has = false then [105, 109, 112, 108, 105, 99, 105, 116] else if r.Add < 0 then 45 :: hexI (-r.Add) else hexI r.Add
theorem f_add (t : DuF T) (r : S_api_Rel) (h0 : -9223372036854775808 ≤ r.Add) (h1 : r.Add ≤ 9223372036854775807) : FnV T 53 [.agg (S_api_RelE.e r).toArray] (strV (addM r)) := by
  obtain ⟨at', ty, sy, ad, has⟩ := r
  simp only [] at h0 h1
  rw [S_api_RelE_e]
  refine FnV_of (by simp [pure_agg, pure_tup, pure_int, pure_bool, pure_string, pure_slN, pure_ptrN, pure_mapN, pure_imm, pure_immN, bltN, byteE_d, intE_d, boolE_d, strE_d]) ?_
  rw [Ev_fn t.ad rfl]
  unfold addM
  cases has with
  | false =>
    simp only [F_dump_add, fws, seval, cond_true, cond_false, if_true, if_false, unV, isNil, optI, iV, stepI, evalR, IntKind.bits, ini, fwh, lk, cellsAt, tagOf, spotOf, rdN, spl, fillL, zr, fwi, N_dump_add]
    rfl
  | true =>
    by_cases hn : ad < 0
    · have w : IntKind.u64.wrap ad = ad + 18446744073709551616 := by rw [wrap_u64]; omega
      have w2 : IntKind.u64.wrap (0 - (ad + 18446744073709551616)) = -ad := by rw [wrap_u64]; omega
      have c := f_hex t (n := -ad) (by omega) (by omega)
      have hl := hexI_len (-ad)
      have z : 1 + (hexI (-ad)).length ≤ 9223372036854775807 := by omega
      have sp : (⟨#[45]⟩ : ByteArray) ++ ⟨(hexI (-ad)).toArray⟩ = ⟨([45] ++ hexI (-ad)).toArray⟩ := append_str (l := [45])
      have sz : (⟨#[45]⟩ : ByteArray).size = 1 := rfl
      simp only [F_dump_add, fws, seval, cond_true, cond_false, if_true, if_false, unV, isNil, optI, iV, stepI, evalR, IntKind.bits, ini, fwh, lk, cellsAt, tagOf, spotOf, rdN, spl, fillL, zr, size_str, faI_ptr, loadI_ptr, N_dump_add, hn, w, w2, CC_of c, z, sp, sz]
      rfl
    · have w : IntKind.u64.wrap ad = ad := by rw [wrap_u64]; omega
      have c := f_hex t (n := ad) (by omega) (by omega)
      simp only [F_dump_add, fws, seval, cond_true, cond_false, if_true, if_false, unV, isNil, optI, iV, stepI, evalR, IntKind.bits, ini, fwh, lk, cellsAt, tagOf, spotOf, rdN, spl, fillL, zr, fwi, N_dump_add, hn, w, CC_of c]
      rfl
end
end Go.Proofs.YtdajdgjacajemaaGreat
/- The document's kinds; parts. -/
namespace Go.Proofs.YtdajdgjacajemaaGreat
open Go Fw
set_option linter.unusedSimpArgs false
set_option linter.unusedVariables false
set_option linter.unusedSectionVars false

abbrev R3 := Int × Int × Int
def r3E : Enc R3 where
  e q := [immV 3 [.int .u64 q.1, .int .u64 q.2.1, .int .u64 q.2.2]]
  u := 1
  d := 1
  hu _ := rfl
  hp k q := by
    have : pureV (k + 1) (immV 3 [.int .u64 q.1, .int .u64 q.2.1, .int .u64 q.2.2]) = true := by cases k <;> rfl
    simp [this]
  ho _ := rfl
def rows15 : List R3 := [(62, 0, 0), (183, 0, 0), (62, 1, 1), (62, 6, 3), (62, 7, 3), (62, 8, 2), (183, 257, 1), (183, 1025, 1), (183, 1026, 1), (183, 1027, 2)]
def fndR : List R3 → Int → Int → Option Int
  | [], _, _ => none
  | q :: r, m, k => if q.1 = m ∧ q.2.1 = k then some q.2.2 else fndR r m k
theorem fnd_of (m k : Int) : fndR rows15 m k = ofM m k := by
  unfold ofM intelM armM rows15
  simp only [fndR]
  by_cases m1 : m = 62
  · subst m1
    by_cases k0 : k = 0
    · subst k0; simp
    · by_cases k1 : k = 1
      · subst k1; simp
      · by_cases k2 : k = 6
        · subst k2; simp
        · by_cases k3 : k = 7
          · subst k3; simp
          · by_cases k4 : k = 8
            · subst k4; simp
            · have e0 : ¬ (0 : Int) = k := fun h => k0 h.symm
              have e1 : ¬ (1 : Int) = k := fun h => k1 h.symm
              have e2 : ¬ (6 : Int) = k := fun h => k2 h.symm
              have e3 : ¬ (7 : Int) = k := fun h => k3 h.symm
              have e4 : ¬ (8 : Int) = k := fun h => k4 h.symm
              simp [k0, k1, k2, k3, k4, e0, e1, e2, e3, e4]
  · by_cases m2 : m = 183
    · subst m2
      by_cases k0 : k = 0
      · subst k0; simp
      · by_cases k1 : k = 257
        · subst k1; simp
        · by_cases k2 : k = 1025
          · subst k2; simp
          · by_cases k3 : k = 1026
            · subst k3; simp
            · by_cases k4 : k = 1027
              · subst k4; simp
              · have e0 : ¬ (0 : Int) = k := fun h => k0 h.symm
                have e1 : ¬ (257 : Int) = k := fun h => k1 h.symm
                have e2 : ¬ (1025 : Int) = k := fun h => k2 h.symm
                have e3 : ¬ (1026 : Int) = k := fun h => k3 h.symm
                have e4 : ¬ (1027 : Int) = k := fun h => k4 h.symm
                simp [k0, k1, k2, k3, k4, e0, e1, e2, e3, e4]
    · have e1 : ¬ (62 : Int) = m := fun h => m1 h.symm
      have e2 : ¬ (183 : Int) = m := fun h => m2 h.symm
      simp [m1, m2, e1, e2]
theorem rows15_ok : ∀ q ∈ rows15, 0 ≤ q.2.2 ∧ q.2.2 ≤ 3 := by
  intro q hq
  simp only [rows15, List.mem_cons, List.not_mem_nil, or_false] at hq
  rcases hq with rfl | rfl | rfl | rfl | rfl | rfl | rfl | rfl | rfl | rfl <;> decide
section
variable {T : Tab}
theorem loop_ref15 (m k : Int) : ∀ (r : List R3) (i : Nat) (env : Env), rows15.drop i = r → env 0 = .int .u64 m → env 1 = .int .u64 k → env 5 = imm r3E rows15 → env 6 = .int .i64 i →
    W T (.loop F_ref15_Ofl0) env [] fun x e h => h = [] ∧ match fndR r m k with | some c => x = .ret ∧ e 4 = .int .i64 c | none => x = .exit 0 := by
  have hL : rows15.length = 10 := rfl
  intro r
  induction r with
  | nil =>
    intro i env hr e0 e1 e5 e6
    have hi := drop_end hr
    have q : ¬ ((i : Int) < rows15.length) := by omega
    rw [w_loop]
    simp only [fws, seval, cond_true, cond_false, if_true, if_false, unV, isNil, optI, iV, stepI, evalR, IntKind.bits, ini, lenI_imm, N_ref15_Of, e5, e6, q]
    exact ⟨trivial, trivial⟩
  | cons p ps ih =>
    intro i env hr e0 e1 e5 e6
    obtain ⟨hi, hp, hr2⟩ := drop_at hr
    have hm := rows15_ok p (hp ▸ List.getElem_mem hi)
    obtain ⟨a, b, c⟩ := p
    simp only [] at hm
    have q : ((i : Int) < rows15.length) := by omega
    have hxx := fun H => ix_at (E := r3E) (l := rows15) (n := 1) rfl hi .i64 H
    have hld : ∀ H, loadI H (atI r3E rows15 i) = some (immV 3 [.int .u64 a, .int .u64 b, .int .u64 c], H) := fun H => by rw [at_cons hi, hp]; rfl
    have x0 : ∀ H, ixaI H 1 (immV 3 [.int .u64 a, .int .u64 b, .int .u64 c]) (.int .i64 0) = some (iptrV [.int .u64 a, .int .u64 b, .int .u64 c], H) := fun H => rfl
    have x1 : ∀ H, ixaI H 1 (immV 3 [.int .u64 a, .int .u64 b, .int .u64 c]) (.int .i64 1) = some (iptrV [.int .u64 b, .int .u64 c], H) := fun H => rfl
    have x2 : ∀ H, ixaI H 1 (immV 3 [.int .u64 a, .int .u64 b, .int .u64 c]) (.int .i64 2) = some (iptrV [.int .u64 c], H) := fun H => rfl
    have l0 : ∀ H (v : Value) (r : List Value), loadI H (iptrV (v :: r)) = (if notAgg v = true ∧ oneC v = true then some (v, H) else loadI H (iptrV (v :: r))) := fun H v r => by
      split
      · rename_i h
        cases v <;> first | rfl | simp [notAgg, oneC] at h
      · rfl
    have la : ∀ H (z : Int) (r : List Value), loadI H (iptrV (.int .u64 z :: r)) = some (.int .u64 z, H) := fun H z r => rfl
    have w2 : IntKind.i64.wrap ((i : Int) + 1) = ((i + 1 : Nat) : Int) := by rw [wrapI64 (by omega) (by omega)]; rfl
    have wc : IntKind.i64.wrap c = c := wrapI64 (by omega) (by omega)
    rw [w_loop]
    by_cases ha : a = m
    · have d1 : decide (a = m) = true := decide_eq_true ha
      by_cases hb : b = k
      · have d2 : decide (b = k) = true := decide_eq_true hb
        have ef : fndR ((a, b, c) :: ps) m k = some c := by rw [fndR, if_pos ⟨ha, hb⟩]
        rw [ef]
        simp only [fws, seval, cond_true, cond_false, if_true, if_false, unV, isNil, optI, iV, stepI, evalR, IntKind.bits, ini, lenI_imm, N_ref15_Of, e0, e1, e5, e6, q, hxx, hld, x0, x1, x2, la, d1, d2, wc]
        exact ⟨trivial, trivial, trivial⟩
      · have d2 : decide (b = k) = false := decide_eq_false hb
        have ef : fndR ((a, b, c) :: ps) m k = fndR ps m k := by rw [fndR, if_neg (fun h => hb h.2)]
        rw [ef]
        simp only [fws, seval, cond_true, cond_false, if_true, if_false, unV, isNil, optI, iV, stepI, evalR, IntKind.bits, ini, lenI_imm, N_ref15_Of, e0, e1, e5, e6, q, hxx, hld, x0, x1, x2, la, d1, d2, w2]
        refine ih (i + 1) _ hr2 ?_ ?_ ?_ ?_
        all_goals (first | assumption | rfl)
    · have d1 : decide (a = m) = false := decide_eq_false ha
      have ef : fndR ((a, b, c) :: ps) m k = fndR ps m k := by rw [fndR, if_neg (fun h => ha h.1)]
      rw [ef]
      simp only [fws, seval, cond_true, cond_false, if_true, if_false, unV, isNil, optI, iV, stepI, evalR, IntKind.bits, ini, lenI_imm, N_ref15_Of, e0, e1, e5, e6, q, hxx, hld, x0, x1, x2, la, d1, w2]
      refine ih (i + 1) _ hr2 ?_ ?_ ?_ ?_
      all_goals (first | assumption | rfl)
theorem f_ref15 (t : DuF T) (m k : Int) : FnV T 54 [.int .u64 m, .int .u64 k] (.int .i64 ((ofM m k).getD (-1))) := by
  rw [← fnd_of]
  refine FnV_of (by simp [pure_agg, pure_tup, pure_int, pure_bool, pure_string, pure_slN, pure_ptrN, pure_mapN, pure_imm, pure_immN, bltN, byteE_d, intE_d, boolE_d, strE_d]) ?_
  rw [Ev_fn t.ro rfl]
  simp only [F_ref15_Of, fws, seval, cond_true, cond_false, if_true, if_false, unV, isNil, optI, iV, stepI, evalR, IntKind.bits, ini, fwh, lk, cellsAt, tagOf, spotOf, rdN, spl, fillL, zr, F_ref15_Ofr0b, F_ref15_Ofr0_W, F_ref15_Ofr1b, F_ref15_Ofr1_W, F_ref15_Ofr2b, F_ref15_Ofr2_W, F_ref15_Ofr3b, F_ref15_Ofr3_W, F_ref15_Ofr5b, F_ref15_Ofr5_W, F_ref15_Ofr5_g8, F_ref15_Ofr6b, F_ref15_Ofr6_W, F_ref15_Ofr4b, F_ref15_Ofr4_W, F_ref15_Ofl0b, F_ref15_Ofr7b, F_ref15_Ofr7_W, F_ref15_Ofcb, F_ref15_Ofc_W]
  refine W.mono (loop_ref15 m k rows15 0 _ rfl ?_ ?_ ?_ ?_) fun x e h ⟨g1, g2⟩ => ?_
  · (first | assumption | rfl)
  · (first | assumption | rfl)
  · (first | assumption | rfl)
  · (first | assumption | rfl)
  subst g1
  cases hf : fndR rows15 m k with
  | some c =>
    rw [hf] at g2
    obtain ⟨rfl, g3⟩ := g2
    simp only [fws, seval, cond_true, cond_false, if_true, if_false, unV, isNil, optI, iV, stepI, evalR, IntKind.bits, ini, N_ref15_Of, g3]
    rfl
  | none =>
    rw [hf] at g2
    subst g2
    simp only [fws, seval, cond_true, cond_false, if_true, if_false, unV, isNil, optI, iV, stepI, evalR, IntKind.bits, ini, N_ref15_Of]
    rfl
end
end Go.Proofs.YtdajdgjacajemaaGreat
/- Parts, and the lines of headers: the writer's. -/
namespace Go.Proofs.YtdajdgjacajemaaGreat
open Go Fw
set_option linter.unusedSimpArgs false
set_option linter.unusedVariables false
set_option linter.unusedSectionVars false

theorem pure_aggE {α : Type} {E : Enc α} (hd : E.d ≤ 5) (s : α) : pureV 6 (.agg (E.e s).toArray) = true := by
  have := E.hp (5 - E.d) s
  rw [Nat.sub_add_cancel hd] at this
  rw [pure_agg]
  simpa using this
def isU (m n : Int) : Prop := 0 ≤ n ∧ n < m
structure OkP (p : S_api_Phdr) : Prop where
  fl : isU 4294967296 p.Flags
  of : isU 18446744073709551616 p.Off
  va : isU 18446744073709551616 p.Vaddr
  fs : isU 18446744073709551616 p.Filesz
  ms : isU 18446744073709551616 p.Memsz
def partM (w : List UInt8) (p : S_api_Phdr) : List UInt8 := lineM [w, hexI p.Vaddr, hexI p.Memsz, lettM p.Flags.toNat, hexI p.Off, hexI p.Filesz]
theorem lnB_len : ∀ (f : Bool) (ps : List (List UInt8)), (lnB f ps).length ≤ (ps.map fun p => p.length + 1).sum
  | _, [] => Nat.le_refl 0
  | f, p :: ps => by
    rw [lnB, List.map_cons, List.sum_cons]
    split
    · have := lnB_len f ps; omega
    · have := lnB_len false ps
      cases f <;> (simp only [cond_true, cond_false, List.length_append, List.length_cons]; omega)
theorem partM_len (w : List UInt8) (p : S_api_Phdr) : (partM w p).length ≤ w.length + 83 := by
  unfold partM lineM
  have h := lnB_len true [w, hexI p.Vaddr, hexI p.Memsz, lettM p.Flags.toNat, hexI p.Off, hexI p.Filesz]
  have h1 := hexI_len p.Vaddr
  have h2 := hexI_len p.Memsz
  have h3 := hexI_len p.Off
  have h4 := hexI_len p.Filesz
  simp only [List.map_cons, List.map_nil, List.sum_cons, List.sum_nil, lettM, List.length_cons, List.length_nil, List.length_append] at h ⊢
  omega
section
variable {H : Heap} {b tag TB : Nat} {l : List UInt8} {bb : Option Nat}
theorem Bd.push (h : Bd H b tag TB l bb) (e : Entry) : Bd (H ++ [e]) b tag TB l bb := by
  obtain ⟨adr, buf, h1, h2, h3⟩ := h
  refine ⟨adr, buf, by rw [List.getElem?_append_left (List.getElem?_eq_some_iff.1 h1).1]; exact h1, h2, ?_⟩
  rcases h3 with h | ⟨i, tg, g1, g2, g3, g4⟩
  · exact .inl h
  · exact .inr ⟨i, tg, g1, g2, g3, by rw [List.getElem?_append_left (List.getElem?_eq_some_iff.1 g4).1]; exact g4⟩
theorem BFrame.push {e : Entry} : BFrame H (H ++ [e]) b bb bb := ⟨by simp, fun q hq _ _ => List.getElem?_append_left hq, .inl rfl⟩
/-- What lies elsewhere stays. -/
theorem BFrame.keep {h : Heap} {bb' : Option Nat} (hf : BFrame H h b bb bb') {q : Nat} (hq : q < H.length) (h1 : q ≠ b) (h2 : bb ≠ some q) : h[q]? = H[q]? ∧ bb' ≠ some q := by
  refine ⟨hf.same q hq h1 h2, ?_⟩
  rcases hf.blk with e | ⟨_, k, e, h3⟩
  · rw [e]; exact h2
  · rw [e]; intro e'; cases e'; omega
end
section
variable {T : Tab}
theorem ev_part (t : DuF T) {b tag : Nat} {w : List UInt8} {p : S_api_Phdr} (hp : OkP p) {l : List UInt8} {bb : Option Nat} {H : Heap} (hB : Bd H b tag TW l bb) (hl : l.length + (partM w p).length ≤ 140737488355328) :
    Ev T 41 [ptrS b tag, strV w, .agg (S_api_PhdrE.e p).toArray] H fun v h => v = .tuple #[] ∧ ∃ bb', Bd h b tag TW (l ++ partM w p) bb' ∧ BFrame H h b bb bb' := by
  obtain ⟨ty, fl, of, va, fs, ms, al⟩ := p
  obtain ⟨⟨a1, a2⟩, ⟨b1, b2⟩, ⟨c1, c2⟩, ⟨d1, d2⟩, ⟨e1, e2⟩⟩ := hp
  simp only [] at a1 a2 b1 b2 c1 c2 d1 d2 e1 e2
  unfold partM at hl ⊢
  simp only [] at hl ⊢
  have x1 := f_hex t b1 b2
  have x2 := f_hex t c1 c2
  have x3 := f_hex t d1 d2
  have x4 := f_hex t e1 e2
  obtain ⟨f, rfl⟩ := Int.eq_ofNat_of_zero_le a1
  have x5 := f_letters t (f := f) (by omega)
  rw [Int.toNat_natCast] at hl ⊢
  rw [S_api_PhdrE_e, Ev_fn t.pt rfl]
  simp only [F_dump_writer_part, fws, seval, cond_true, cond_false, if_true, if_false, unV, isNil, optI, iV, stepI, evalR, IntKind.bits, ini, fwh, lk, cellsAt, tagOf, spotOf, rdN, spl, fillL, zr, fwi, N_dump_writer_part, CC_of x1, CC_of x2, CC_of x3, CC_of x4, CC_of x5]
  refine (ev_line t.toLnF (P := [w, hexI va, hexI ms, lettM f, hexI of, hexI fs]) (by simp) (hB.push _) hl).mono fun v h ⟨hv, bb', g1, g2⟩ => ?_
  subst hv
  simp only [fws, seval, cond_true, cond_false, if_true, if_false, unV, isNil, optI, iV, stepI, evalR, IntKind.bits, ini, N_dump_writer_part]
  exact ⟨trivial, bb', g1, BFrame.push.trans g2⟩
end
end Go.Proofs.YtdajdgjacajemaaGreat
/- The lines of headers: the writer's. -/
namespace Go.Proofs.YtdajdgjacajemaaGreat
open Go Fw
set_option linter.unusedSimpArgs false
set_option linter.unusedVariables false
set_option linter.unusedSectionVars false

abbrev wMachine : List UInt8 := [109, 97, 99, 104, 105, 110, 101]
abbrev wLoad : List UInt8 := [108, 111, 97, 100]
abbrev wDynamic : List UInt8 := [100, 121, 110, 97, 109, 105, 99]
abbrev wRelro : List UInt8 := [114, 101, 108, 114, 111]
structure OkH (h : S_api_Heads) : Prop where
  mc : isU 65536 h.Machine
  ld : ∀ p ∈ lst h.Loads, OkP p
  dy : OkP h.Dynamic
  rl : OkP h.Relro
def headsM (h : S_api_Heads) : List UInt8 :=
  lineM [wMachine, machM h.Machine] ++ (lst h.Loads).flatMap (partM wLoad) ++ partM wDynamic h.Dynamic ++ (if 0 < h.Relro.Memsz then partM wRelro h.Relro else [])
section
variable {T : Tab}
theorem loop_Heads (t : DuF T) {o : Option (List S_api_Phdr)} (ho : ∀ p ∈ lst o, OkP p) (hn : (lst o).length ≤ 1000000) {e0 : Entry} : ∀ (r : List S_api_Phdr) (i : Nat) (l : List UInt8) (bb : Option Nat) (H : Heap) (env : Env), (lst o).drop i = r → Bd H 1 0 TW l bb → H[0]? = some e0 → bb ≠ some 0 → l.length + (r.flatMap (partM wLoad)).length ≤ 140737488355328 →
    env 1 = .pointer (some ⟨0, 0, none⟩) → env 3 = ptrS 1 0 → env 15 = slV S_api_PhdrE o → env 16 = .int .i64 (lst o).length → env 17 = .int .i64 i →
    W T (.loop F_dump_Headsl0) env H fun x e h => x = .exit 0 ∧ e 1 = .pointer (some ⟨0, 0, none⟩) ∧ e 3 = ptrS 1 0 ∧ ∃ bb', Bd h 1 0 TW (l ++ r.flatMap (partM wLoad)) bb' ∧ h[0]? = some e0 ∧ bb' ≠ some 0 := by
  intro r
  induction r with
  | nil =>
    intro i l bb H env hr hB h0 hb hl v1 v3 v15 v16 v17
    have hi := drop_end hr
    have q : ¬ ((i : Int) < (lst o).length) := by omega
    rw [w_loop]
    simp only [fws, seval, cond_true, cond_false, if_true, if_false, unV, isNil, optI, iV, stepI, evalR, IntKind.bits, ini, fwi, N_dump_Heads, v16, v17, q]
    exact ⟨trivial, v1, v3, bb, by rw [List.flatMap_nil, List.append_nil]; exact hB, h0, hb⟩
  | cons p ps ih =>
    intro i l bb H env hr hB h0 hb hl v1 v3 v15 v16 v17
    obtain ⟨hi, hp, hr2⟩ := drop_at hr
    have hok : OkP p := ho p (hp ▸ List.getElem_mem hi)
    have q : ((i : Int) < (lst o).length) := by omega
    have hxx := fun H => ix_sl (E := S_api_PhdrE) (o := o) (n := 7) rfl hi .i64 H
    have hld := fun H => loadNI_at (E := S_api_PhdrE) (n := 7) (H := H) rfl hi
    have w2 : IntKind.i64.wrap ((i : Int) + 1) = ((i + 1 : Nat) : Int) := by rw [wrapI64 (by omega) (by omega)]; rfl
    rw [List.flatMap_cons, List.length_append] at hl
    have ce := ev_part t (w := wLoad) hok (hB.push ⟨0, .cells false 7 (S_api_PhdrE.e p)⟩) (by omega)
    have lt0 := (List.getElem?_eq_some_iff.1 h0).1
    rw [hp] at hld
    obtain ⟨ty, fl, of, va, fs, ms, al⟩ := p
    rw [S_api_PhdrE_e] at ce
    simp only [S_api_PhdrE_e] at hld
    rw [w_loop]
    simp only [fws, seval, cond_true, cond_false, if_true, if_false, unV, isNil, optI, iV, stepI, evalR, IntKind.bits, ini, fwh, lk, cellsAt, tagOf, spotOf, rdN, spl, fillL, zr, faI_ptr, loadI_ptr, loadNI_ptr, N_dump_Heads, v1, v3, v15, v16, v17, q, hxx, hld, w2]
    refine ce.mono fun v h ⟨hv, bb', g1, g2⟩ => ?_
    subst hv
    simp only [fws, seval, cond_true, cond_false, if_true, if_false, unV, isNil, optI, iV, stepI, evalR, IntKind.bits, ini, fwh, lk, cellsAt, tagOf, spotOf, rdN, spl, fillL, zr, N_dump_Heads, v1, v3, v15, v16, v17, w2]
    obtain ⟨k1, k2⟩ := g2.keep (q := 0) (by simp) (by decide) hb
    refine W.mono (ih (i + 1) _ bb' h _ hr2 g1 (by rw [k1, List.getElem?_append_left lt0]; exact h0) k2 (by rw [List.length_append]; omega) ?_ ?_ ?_ ?_ ?_) fun x e h' ⟨u1, u2, u3, bb2, u4, u5, u6⟩ => ⟨u1, u2, u3, bb2, by rw [List.flatMap_cons, ← List.append_assoc]; exact u4, u5, u6⟩
    all_goals (first | assumption | rfl)
theorem f_Heads (t : DuF T) {h : S_api_Heads} (hk : OkH h) (hn : (lst h.Loads).length ≤ 1000000) (hl : (headsM h).length ≤ 140737488355328) : FnV T 15 [.agg (S_api_HeadsE.e h).toArray] (strV (headsM h)) := by
  refine FnV_of (by simp [pure_aggE (E := S_api_HeadsE) (by decide)]) ?_
  have hl' := hl
  unfold headsM at hl' ⊢
  rw [List.length_append, List.length_append, List.length_append] at hl'
  have cm := f_machine t hk.mc.1 hk.mc.2
  rw [Ev_fn t.hs rfl, S_api_HeadsE_e]
  have hB0 : Bd [⟨0, .cells false 16 (S_api_HeadsE.e h)⟩, ⟨0, .cells false 1000000084 [.pointer none, .slice none 0 0]⟩] 1 0 TW [] none := ⟨.pointer none, .slice none 0 0, rfl, .inl rfl, .inl ⟨rfl, rfl, rfl⟩⟩
  have c1 := ev_line t.toLnF (P := [wMachine, machM h.Machine]) (by simp) hB0 (by simp only [List.length_nil]; omega)
  rw [S_api_HeadsE_e] at c1
  simp only [F_dump_Heads, fws, seval, cond_true, cond_false, if_true, if_false, unV, isNil, optI, iV, stepI, evalR, IntKind.bits, ini, fwh, lk, cellsAt, tagOf, spotOf, rdN, spl, fillL, zr, fwi, oneC_sl, F_dump_Headsr0b, F_dump_Headsr0_W, F_dump_Headsr1b, F_dump_Headsr1_W, F_dump_Headsr2b, F_dump_Headsr2_W, F_dump_Headsr3b, F_dump_Headsr3_W, F_dump_Headsr4b, F_dump_Headsr4_W, F_dump_Headsr5b, F_dump_Headsr5_W, F_dump_Headsr6b, F_dump_Headsr6_W, F_dump_Headsr7b, F_dump_Headsr7_W, F_dump_Headsl0b, F_dump_Headsr8b, F_dump_Headsr8_W, F_dump_Headsr9b, F_dump_Headsr9_W, F_dump_Headsr10b, F_dump_Headsr10_W, F_dump_Headsr11b, F_dump_Headsr11_W, F_dump_Headscb, F_dump_Headsc_W, CC_of cm]
  refine c1.mono fun v H1 ⟨hv, b1, g1, g2⟩ => ?_
  subst hv
  obtain ⟨k1, k2⟩ := g2.keep (q := 0) (by simp) (by decide) (by simp)
  have k1 : H1[0]? = some ⟨0, .cells false 16 (S_api_HeadsE.e h)⟩ := k1
  rw [S_api_HeadsE_e] at k1
  simp only [fws, seval, cond_true, cond_false, if_true, if_false, unV, isNil, optI, iV, stepI, evalR, IntKind.bits, ini, fwh, lk, cellsAt, tagOf, spotOf, rdN, spl, fillL, zr, faI_ptr, loadI_ptr, lenI_sl, F_dump_Headsr0b, F_dump_Headsr0_W, F_dump_Headsr1b, F_dump_Headsr1_W, F_dump_Headsr2b, F_dump_Headsr2_W, F_dump_Headsr3b, F_dump_Headsr3_W, F_dump_Headsr4b, F_dump_Headsr4_W, F_dump_Headsr5b, F_dump_Headsr5_W, F_dump_Headsr6b, F_dump_Headsr6_W, F_dump_Headsr7b, F_dump_Headsr7_W, F_dump_Headsl0b, F_dump_Headsr8b, F_dump_Headsr8_W, F_dump_Headsr9b, F_dump_Headsr9_W, F_dump_Headsr10b, F_dump_Headsr10_W, F_dump_Headsr11b, F_dump_Headsr11_W, F_dump_Headscb, F_dump_Headsc_W, k1]
  refine W.mono (loop_Heads t hk.ld hn (lst h.Loads) 0 _ b1 H1 _ rfl g1 k1 k2 (by simp only [List.nil_append]; omega) ?_ ?_ ?_ ?_ ?_) fun x e H2 ⟨u1, u2, u3, b2, u4, u5, u6⟩ => ?_
  · (first | assumption | rfl)
  · (first | assumption | rfl)
  · (first | assumption | rfl)
  · (first | assumption | rfl)
  · (first | assumption | rfl)
  subst u1
  have c2 := ev_part t (w := wDynamic) hk.dy u4 (by simp only [List.nil_append, List.length_append]; omega)
  rw [S_api_PhdrE_e] at c2
  simp only [fws, seval, cond_true, cond_false, if_true, if_false, unV, isNil, optI, iV, stepI, evalR, IntKind.bits, ini, fwh, lk, cellsAt, tagOf, spotOf, rdN, spl, fillL, zr, faI_ptr, loadI_ptr, loadNI_ptr, N_dump_Heads, u2, u3, u5]
  refine c2.mono fun v H3 ⟨hv, b3, g3, g4⟩ => ?_
  subst hv
  obtain ⟨k3, k4⟩ := g4.keep (q := 0) (List.getElem?_eq_some_iff.1 u5).1 (by decide) u6
  rw [u5] at k3
  by_cases hr : 0 < h.Relro.Memsz
  · rw [if_pos hr] at hl' ⊢
    have c3 := ev_part t (w := wRelro) hk.rl g3 (by simp only [List.nil_append, List.length_append]; omega)
    rw [S_api_PhdrE_e] at c3
    simp only [fws, seval, cond_true, cond_false, if_true, if_false, unV, isNil, optI, iV, stepI, evalR, IntKind.bits, ini, fwh, lk, cellsAt, tagOf, spotOf, rdN, spl, fillL, zr, faI_ptr, loadI_ptr, loadNI_ptr, N_dump_Heads, u2, u3, k3, hr]
    refine c3.mono fun v H4 ⟨hv, b4, g5, g6⟩ => ?_
    subst hv
    simp only [fws, seval, cond_true, cond_false, if_true, if_false, unV, isNil, optI, iV, stepI, evalR, IntKind.bits, ini, fwh, lk, cellsAt, tagOf, spotOf, rdN, spl, fillL, zr, faI_ptr, loadI_ptr, loadNI_ptr, N_dump_Heads, u2, u3]
    refine (ev_String t.bf g5 (by simp only [List.nil_append, List.length_append]; omega)).mono fun v H5 ⟨hv, _⟩ => ?_
    subst hv
    simp only [fws, seval, cond_true, cond_false, if_true, if_false, unV, isNil, optI, iV, stepI, evalR, IntKind.bits, ini, N_dump_Heads, List.append_assoc, List.nil_append, List.append_nil]
    rfl
  · rw [if_neg hr] at hl' ⊢
    simp only [fws, seval, cond_true, cond_false, if_true, if_false, unV, isNil, optI, iV, stepI, evalR, IntKind.bits, ini, fwh, lk, cellsAt, tagOf, spotOf, rdN, spl, fillL, zr, faI_ptr, loadI_ptr, loadNI_ptr, N_dump_Heads, u2, u3, k3, hr]
    refine (ev_String t.bf g3 (by simp only [List.nil_append, List.length_append]; omega)).mono fun v H5 ⟨hv, _⟩ => ?_
    subst hv
    simp only [fws, seval, cond_true, cond_false, if_true, if_false, unV, isNil, optI, iV, stepI, evalR, IntKind.bits, ini, N_dump_Heads, List.append_assoc, List.nil_append, List.append_nil]
    rfl
end
end Go.Proofs.YtdajdgjacajemaaGreat
/- The lines of relocations and symbols: the writer's. -/
namespace Go.Proofs.YtdajdgjacajemaaGreat
open Go Fw
set_option linter.unusedSimpArgs false
set_option linter.unusedVariables false
set_option linter.unusedSectionVars false

abbrev wRel : List UInt8 := [114, 101, 108]
abbrev wSym : List UInt8 := [115, 121, 109]
abbrev wUndef : List UInt8 := [117, 110, 100, 101, 102, 105, 110, 101, 100]
abbrev wHidden : List UInt8 := [104, 105, 100, 100, 101, 110]
abbrev wVersion : List UInt8 := [118, 101, 114, 115, 105, 111, 110]
structure OkR (r : S_api_Rel) : Prop where
  a : isU 18446744073709551616 r.At
  t : isU 4294967296 r.Typ
  s : isU 4294967296 r.Sym
  d0 : -9223372036854775808 ≤ r.Add
  d1 : r.Add ≤ 9223372036854775807
def relM (m : Int) (r : S_api_Rel) : List UInt8 := lineM [wRel, hexI r.At, kindM m r.Typ, hexI r.Typ, hexI r.Sym, addM r]
def relsM (m : Int) (l : List S_api_Rel) : List UInt8 := l.flatMap (relM m)
structure OkS (s : S_api_Sym) : Prop where
  n : s.Name.length ≤ 100000
  v : s.Ver.length ≤ 100000
  b : s.Bind ≤ 9223372036854775807
  a : isU 18446744073709551616 s.Value
  z : isU 18446744073709551616 s.Size
def symM (i : Nat) (s : S_api_Sym) : List UInt8 := lineM [wSym, textF i, bindM s.Bind, (bif s.Defined then hexI s.Value else wUndef), hexI s.Size, whenM s.Hidden wHidden, s.Name, withM wVersion s.Ver]
def symsF : Nat → List S_api_Sym → List UInt8
  | _, [] => []
  | i, s :: r => (if i = 0 then [] else symM i s) ++ symsF (i + 1) r
def symsM (l : List S_api_Sym) : List UInt8 := symsF 0 l
section
variable {T : Tab}
theorem loop_Rels (t : DuF T) {m : Int} {o : Option (List S_api_Rel)} (ho : ∀ p ∈ lst o, OkR p) (hn : (lst o).length ≤ 1000000) : ∀ (r : List S_api_Rel) (i : Nat) (l : List UInt8) (bb : Option Nat) (H : Heap) (env : Env), (lst o).drop i = r → Bd H 0 0 TW l bb → l.length + (relsM m r).length ≤ 140737488355328 →
    env 0 = .int .u16 m → env 5 = ptrS 0 0 → env 10 = slV S_api_RelE o → env 11 = .int .i64 (lst o).length → env 12 = .int .i64 i →
    W T (.loop F_dump_Relsl0) env H fun x e h => x = .exit 0 ∧ e 5 = ptrS 0 0 ∧ ∃ bb', Bd h 0 0 TW (l ++ relsM m r) bb' := by
  intro r
  induction r with
  | nil =>
    intro i l bb H env hr hB hl v0 v5 v10 v11 v12
    have hi := drop_end hr
    have q : ¬ ((i : Int) < (lst o).length) := by omega
    rw [w_loop]
    simp only [fws, seval, cond_true, cond_false, if_true, if_false, unV, isNil, optI, iV, stepI, evalR, IntKind.bits, ini, fwi, N_dump_Rels, v11, v12, q]
    exact ⟨trivial, v5, bb, by rw [relsM, List.flatMap_nil, List.append_nil]; exact hB⟩
  | cons p ps ih =>
    intro i l bb H env hr hB hl v0 v5 v10 v11 v12
    obtain ⟨hi, hp, hr2⟩ := drop_at hr
    have hok : OkR p := ho p (hp ▸ List.getElem_mem hi)
    have q : ((i : Int) < (lst o).length) := by omega
    have hxx := fun H => ix_sl (E := S_api_RelE) (o := o) (n := 5) rfl hi .i64 H
    have hld := fun H => loadNI_at (E := S_api_RelE) (n := 5) (H := H) rfl hi
    have w2 : IntKind.i64.wrap ((i : Int) + 1) = ((i + 1 : Nat) : Int) := by rw [wrapI64 (by omega) (by omega)]; rfl
    have hsum : relsM m (p :: ps) = relM m p ++ relsM m ps := List.flatMap_cons ..
    rw [hsum, List.length_append] at hl
    have x5 := f_add t p hok.d0 hok.d1
    have ce := ev_line t.toLnF (P := [wRel, hexI p.At, kindM m p.Typ, hexI p.Typ, hexI p.Sym, addM p]) (by simp) (hB.push ⟨0, .cells false 5 (S_api_RelE.e p)⟩) (by unfold relM at hl; omega)
    rw [hp] at hld
    have x1 := f_hex t hok.a.1 hok.a.2
    have x2 := f_hex t hok.t.1 (by have := hok.t.2; omega)
    have x3 := f_hex t hok.s.1 (by have := hok.s.2; omega)
    have x4 := f_kind t m p.Typ
    have y1 : IntKind.u64.wrap p.Typ = p.Typ := by rw [wrap_u64]; have := hok.t.1; have := hok.t.2; omega
    have y2 : IntKind.u64.wrap p.Sym = p.Sym := by rw [wrap_u64]; have := hok.s.1; have := hok.s.2; omega
    rw [S_api_RelE_e] at ce x5
    simp only [S_api_RelE_e] at hld
    rw [w_loop]
    simp only [fws, seval, cond_true, cond_false, if_true, if_false, unV, isNil, optI, iV, stepI, evalR, IntKind.bits, ini, fwh, lk, cellsAt, tagOf, spotOf, rdN, spl, fillL, zr, faI_ptr, loadI_ptr, loadNI_ptr, N_dump_Rels, v0, v5, v10, v11, v12, q, hxx, hld, w2, CC_of x1, CC_of x2, CC_of x3, CC_of x4, CC_of x5, y1, y2]
    refine ce.mono fun v h ⟨hv, bb', g1, g2⟩ => ?_
    subst hv
    simp only [fws, seval, cond_true, cond_false, if_true, if_false, unV, isNil, optI, iV, stepI, evalR, IntKind.bits, ini, fwh, lk, cellsAt, tagOf, spotOf, rdN, spl, fillL, zr, N_dump_Rels, v0, v5, v10, v11, v12, w2]
    refine W.mono (ih (i + 1) _ bb' h _ hr2 g1 (by rw [List.length_append]; unfold relM at hl; omega) ?_ ?_ ?_ ?_ ?_) fun x e h' ⟨u1, u2, bb2, u3⟩ => ⟨u1, u2, bb2, by rw [hsum, ← List.append_assoc]; exact u3⟩
    all_goals (first | assumption | rfl)
theorem f_Rels (t : DuF T) {m : Int} {o : Option (List S_api_Rel)} (ho : ∀ p ∈ lst o, OkR p) (hn : (lst o).length ≤ 1000000) (hl : (relsM m (lst o)).length ≤ 140737488355328) : FnV T 21 [.int .u16 m, slV S_api_RelE o] (strV (relsM m (lst o))) := by
  refine FnV_of (by simp [pure_int, pure_sl (E := S_api_RelE) (k := 6) (by rfl)]) ?_
  rw [Ev_fn t.rs rfl]
  have hB0 : Bd [⟨0, .cells false 1000000084 [.pointer none, .slice none 0 0]⟩] 0 0 TW [] none := ⟨.pointer none, .slice none 0 0, rfl, .inl rfl, .inl ⟨rfl, rfl, rfl⟩⟩
  simp only [F_dump_Rels, fws, seval, cond_true, cond_false, if_true, if_false, unV, isNil, optI, iV, stepI, evalR, IntKind.bits, ini, fwh, lk, cellsAt, tagOf, spotOf, rdN, spl, fillL, zr, lenI_sl, F_dump_Relsr0b, F_dump_Relsr0_W, F_dump_Relsr1b, F_dump_Relsr1_W, F_dump_Relsr2b, F_dump_Relsr2_W, F_dump_Relsr3b, F_dump_Relsr3_W, F_dump_Relsr4b, F_dump_Relsr4_W, F_dump_Relsr5b, F_dump_Relsr5_W, F_dump_Relsr6b, F_dump_Relsr6_W, F_dump_Relsl0b, F_dump_Relsr7b, F_dump_Relsr7_W, F_dump_Relscb, F_dump_Relsc_W]
  refine W.mono (loop_Rels (m := m) t ho hn (lst o) 0 [] none _ _ rfl hB0 (by simpa using hl) ?_ ?_ ?_ ?_ ?_) fun x e H2 ⟨u1, u2, b2, u3⟩ => ?_
  · (first | assumption | rfl)
  · (first | assumption | rfl)
  · (first | assumption | rfl)
  · (first | assumption | rfl)
  · (first | assumption | rfl)
  subst u1
  simp only [fws, seval, cond_true, cond_false, if_true, if_false, unV, isNil, optI, iV, stepI, evalR, IntKind.bits, ini, fwh, lk, cellsAt, tagOf, spotOf, rdN, spl, fillL, zr, faI_ptr, N_dump_Rels, u2]
  refine (ev_String t.bf u3 (by simpa using hl)).mono fun v H5 ⟨hv, _⟩ => ?_
  subst hv
  simp only [fws, seval, cond_true, cond_false, if_true, if_false, unV, isNil, optI, iV, stepI, evalR, IntKind.bits, ini, N_dump_Rels, List.nil_append]
  rfl
theorem loop_Syms (t : DuF T) {o : Option (List S_api_Sym)} (ho : ∀ p ∈ lst o, OkS p) (hn : (lst o).length ≤ 1000000) : ∀ (r : List S_api_Sym) (i : Nat) (l : List UInt8) (bb : Option Nat) (H : Heap) (env : Env), (lst o).drop i = r → Bd H 0 0 TW l bb → l.length + (symsF i r).length ≤ 140737488355328 →
    env 3 = ptrS 0 0 → env 9 = slV S_api_SymE o → env 10 = .int .i64 (lst o).length → env 11 = .int .i64 i →
    W T (.loop F_dump_Symsl0) env H fun x e h => x = .exit 0 ∧ e 3 = ptrS 0 0 ∧ ∃ bb', Bd h 0 0 TW (l ++ symsF i r) bb' := by
  intro r
  induction r with
  | nil =>
    intro i l bb H env hr hB hl v3 v9 v10 v11
    have hi := drop_end hr
    have q : ¬ ((i : Int) < (lst o).length) := by omega
    rw [w_loop]
    simp only [fws, seval, cond_true, cond_false, if_true, if_false, unV, isNil, optI, iV, stepI, evalR, IntKind.bits, ini, fwi, N_dump_Syms, v10, v11, q]
    exact ⟨trivial, v3, bb, by rw [symsF, List.append_nil]; exact hB⟩
  | cons p ps ih =>
    intro i l bb H env hr hB hl v3 v9 v10 v11
    obtain ⟨hi, hp, hr2⟩ := drop_at hr
    have hok : OkS p := ho p (hp ▸ List.getElem_mem hi)
    have q : ((i : Int) < (lst o).length) := by omega
    have hxx := fun H => ix_sl (E := S_api_SymE) (o := o) (n := 7) rfl hi .i64 H
    have hld := fun H => loadNI_at (E := S_api_SymE) (n := 7) (H := H) rfl hi
    have w2 : IntKind.i64.wrap ((i : Int) + 1) = ((i + 1 : Nat) : Int) := by rw [wrapI64 (by omega) (by omega)]; rfl
    rw [symsF] at hl ⊢
    rw [hp] at hld
    simp only [S_api_SymE_e] at hld
    rw [w_loop]
    by_cases hi0 : i = 0
    · have d0 : decide ((i : Int) = 0) = true := decide_eq_true (by omega)
      rw [if_pos hi0, List.nil_append] at hl ⊢
      simp only [fws, seval, cond_true, cond_false, if_true, if_false, unV, isNil, optI, iV, stepI, evalR, IntKind.bits, ini, fwh, lk, cellsAt, tagOf, spotOf, rdN, spl, fillL, zr, faI_ptr, loadI_ptr, loadNI_ptr, N_dump_Syms, v3, v9, v10, v11, q, hxx, hld, d0, w2]
      refine ih (i + 1) l bb _ _ hr2 (hB.push _) hl ?_ ?_ ?_ ?_
      all_goals (first | assumption | rfl)
    · have d0 : decide ((i : Int) = 0) = false := decide_eq_false (by omega)
      rw [if_neg hi0] at hl ⊢
      rw [List.length_append] at hl
      have ce := ev_line t.toLnF (P := [wSym, textF i, bindM p.Bind, (bif p.Defined then hexI p.Value else wUndef), hexI p.Size, whenM p.Hidden wHidden, p.Name, withM wVersion p.Ver]) (by simp) (hB.push ⟨0, .cells false 7 (S_api_SymE.e p)⟩) (by unfold symM at hl; omega)
      have x1 := f_text t.tx (i : Int) (by omega)
      have x2 := f_bind t hok.b
      have x3 := f_hex t hok.z.1 hok.z.2
      have x4 := f_when t p.Hidden wHidden
      have x5 := f_with t wVersion p.Ver (by decide) (by have := hok.v; omega)
      have x6 := f_hex t hok.a.1 hok.a.2
      rw [S_api_SymE_e] at ce
      cases hd : p.Defined with
      | true =>
        rw [hd] at ce hld
        simp only [fws, seval, cond_true, cond_false, if_true, if_false, unV, isNil, optI, iV, stepI, evalR, IntKind.bits, ini, fwh, lk, cellsAt, tagOf, spotOf, rdN, spl, fillL, zr, faI_ptr, loadI_ptr, loadNI_ptr, N_dump_Syms, v3, v9, v10, v11, q, hxx, hld, d0, w2, CC_of x1, CC_of x2, CC_of x3, CC_of x4, CC_of x5, CC_of x6]
        refine ce.mono fun v h ⟨hv, bb', g1, g2⟩ => ?_
        subst hv
        simp only [fws, seval, cond_true, cond_false, if_true, if_false, unV, isNil, optI, iV, stepI, evalR, IntKind.bits, ini, fwh, lk, cellsAt, tagOf, spotOf, rdN, spl, fillL, zr, N_dump_Syms, v3, v9, v10, v11, w2]
        refine W.mono (ih (i + 1) _ bb' h _ hr2 g1 (by rw [List.length_append]; unfold symM at hl; rw [hd] at hl; omega) ?_ ?_ ?_ ?_) fun x e h' ⟨u1, u2, bb2, u3⟩ => ⟨u1, u2, bb2, by rw [← List.append_assoc]; unfold symM; rw [hd]; exact u3⟩
        all_goals (first | assumption | rfl)
      | false =>
        rw [hd] at ce hld
        simp only [fws, seval, cond_true, cond_false, if_true, if_false, unV, isNil, optI, iV, stepI, evalR, IntKind.bits, ini, fwh, lk, cellsAt, tagOf, spotOf, rdN, spl, fillL, zr, faI_ptr, loadI_ptr, loadNI_ptr, N_dump_Syms, v3, v9, v10, v11, q, hxx, hld, d0, w2, CC_of x1, CC_of x2, CC_of x3, CC_of x4, CC_of x5]
        refine ce.mono fun v h ⟨hv, bb', g1, g2⟩ => ?_
        subst hv
        simp only [fws, seval, cond_true, cond_false, if_true, if_false, unV, isNil, optI, iV, stepI, evalR, IntKind.bits, ini, fwh, lk, cellsAt, tagOf, spotOf, rdN, spl, fillL, zr, N_dump_Syms, v3, v9, v10, v11, w2]
        refine W.mono (ih (i + 1) _ bb' h _ hr2 g1 (by rw [List.length_append]; unfold symM at hl; rw [hd] at hl; omega) ?_ ?_ ?_ ?_) fun x e h' ⟨u1, u2, bb2, u3⟩ => ⟨u1, u2, bb2, by rw [← List.append_assoc]; unfold symM; rw [hd]; exact u3⟩
        all_goals (first | assumption | rfl)
theorem f_Syms (t : DuF T) {o : Option (List S_api_Sym)} (ho : ∀ p ∈ lst o, OkS p) (hn : (lst o).length ≤ 1000000) (hl : (symsM (lst o)).length ≤ 140737488355328) : FnV T 19 [slV S_api_SymE o] (strV (symsM (lst o))) := by
  refine FnV_of (by simp [pure_sl (E := S_api_SymE) (k := 6) (by rfl)]) ?_
  rw [Ev_fn t.sy rfl]
  have hB0 : Bd [⟨0, .cells false 1000000084 [.pointer none, .slice none 0 0]⟩] 0 0 TW [] none := ⟨.pointer none, .slice none 0 0, rfl, .inl rfl, .inl ⟨rfl, rfl, rfl⟩⟩
  simp only [F_dump_Syms, fws, seval, cond_true, cond_false, if_true, if_false, unV, isNil, optI, iV, stepI, evalR, IntKind.bits, ini, fwh, lk, cellsAt, tagOf, spotOf, rdN, spl, fillL, zr, lenI_sl, F_dump_Symsr0b, F_dump_Symsr0_W, F_dump_Symsr1b, F_dump_Symsr1_W, F_dump_Symsr2b, F_dump_Symsr2_W, F_dump_Symsr3b, F_dump_Symsr3_W, F_dump_Symsr4b, F_dump_Symsr4_W, F_dump_Symsr5b, F_dump_Symsr5_W, F_dump_Symsr6b, F_dump_Symsr6_W, F_dump_Symsr7b, F_dump_Symsr7_W, F_dump_Symsr8b, F_dump_Symsr8_W, F_dump_Symsr9b, F_dump_Symsr9_W, F_dump_Symsr10b, F_dump_Symsr10_W, F_dump_Symsl0b, F_dump_Symsr11b, F_dump_Symsr11_W, F_dump_Symscb, F_dump_Symsc_W]
  refine W.mono (loop_Syms t ho hn (lst o) 0 [] none _ _ rfl hB0 (by simpa [symsM] using hl) ?_ ?_ ?_ ?_) fun x e H2 ⟨u1, u2, b2, u3⟩ => ?_
  · (first | assumption | rfl)
  · (first | assumption | rfl)
  · (first | assumption | rfl)
  · (first | assumption | rfl)
  subst u1
  simp only [fws, seval, cond_true, cond_false, if_true, if_false, unV, isNil, optI, iV, stepI, evalR, IntKind.bits, ini, fwh, lk, cellsAt, tagOf, spotOf, rdN, spl, fillL, zr, faI_ptr, N_dump_Syms, u2]
  refine (ev_String t.bf u3 (by simpa [symsM] using hl)).mono fun v H5 ⟨hv, _⟩ => ?_
  subst hv
  simp only [fws, seval, cond_true, cond_false, if_true, if_false, unV, isNil, optI, iV, stepI, evalR, IntKind.bits, ini, N_dump_Syms, List.nil_append]
  rfl
end
end Go.Proofs.YtdajdgjacajemaaGreat
