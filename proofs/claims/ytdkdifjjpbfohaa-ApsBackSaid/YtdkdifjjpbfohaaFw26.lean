/- Bits of whole numbers without a sign, as those of Nat. -/
import Derived.Test.YtdkdifjjpbfohaaFw25
namespace Go.Proofs.Ytdkdifjjpbfohaa.Fw
open Go
set_option linter.unusedSimpArgs false
set_option linter.unusedVariables false

def nandN (w a b : Nat) : Nat := a &&& (2 ^ w - 1 - b)
theorem ofI {w a : Nat} (ha : a < 2 ^ w) : (BitVec.ofInt w (a : Int)).toNat = a := by
  rw [BitVec.ofInt_natCast, BitVec.toNat_ofNat]; exact Nat.mod_eq_of_lt ha
theorem bits_u8 {a b : Nat} (ha : a < 256) (hb : b < 256) :
    Go.bits .and .u8 (a : Int) (b : Int) = ((a &&& b : Nat) : Int) ∧ Go.bits .or .u8 (a : Int) (b : Int) = ((a ||| b : Nat) : Int) ∧ Go.bits .xor .u8 (a : Int) (b : Int) = ((a ^^^ b : Nat) : Int) ∧ Go.bits .andNot .u8 (a : Int) (b : Int) = ((nandN 8 a b : Nat) : Int) := by
  have h1 : (BitVec.ofInt 8 (a : Int)).toNat = a := ofI (by omega)
  have h2 : (BitVec.ofInt 8 (b : Int)).toNat = b := ofI (by omega)
  have x1 : a &&& b < 256 := Nat.lt_of_le_of_lt Nat.and_le_left ha
  have x2 : a ||| b < 2 ^ 8 := Nat.or_lt_two_pow ha hb
  have x3 : a ^^^ b < 2 ^ 8 := Nat.xor_lt_two_pow ha hb
  have x4 : nandN 8 a b < 256 := Nat.lt_of_le_of_lt Nat.and_le_left ha
  refine ⟨?_, ?_, ?_, ?_⟩
  · show IntKind.u8.wrap ((BitVec.ofInt 8 (a : Int) &&& BitVec.ofInt 8 (b : Int)).toNat : Int) = _
    rw [BitVec.toNat_and, h1, h2, wrap_u8]; omega
  · show IntKind.u8.wrap ((BitVec.ofInt 8 (a : Int) ||| BitVec.ofInt 8 (b : Int)).toNat : Int) = _
    rw [BitVec.toNat_or, h1, h2, wrap_u8]; omega
  · show IntKind.u8.wrap ((BitVec.ofInt 8 (a : Int) ^^^ BitVec.ofInt 8 (b : Int)).toNat : Int) = _
    rw [BitVec.toNat_xor, h1, h2, wrap_u8]; omega
  · show IntKind.u8.wrap ((BitVec.ofInt 8 (a : Int) &&& ~~~ BitVec.ofInt 8 (b : Int)).toNat : Int) = _
    rw [BitVec.toNat_and, BitVec.toNat_not, h1, h2, wrap_u8]
    show ((nandN 8 a b : Nat) : Int) % 256 = _
    omega
theorem bits_u32 {a b : Nat} (ha : a < 4294967296) (hb : b < 4294967296) :
    Go.bits .and .u32 (a : Int) (b : Int) = ((a &&& b : Nat) : Int) ∧ Go.bits .or .u32 (a : Int) (b : Int) = ((a ||| b : Nat) : Int) ∧ Go.bits .xor .u32 (a : Int) (b : Int) = ((a ^^^ b : Nat) : Int) ∧ Go.bits .andNot .u32 (a : Int) (b : Int) = ((nandN 32 a b : Nat) : Int) := by
  have h1 : (BitVec.ofInt 32 (a : Int)).toNat = a := ofI (by omega)
  have h2 : (BitVec.ofInt 32 (b : Int)).toNat = b := ofI (by omega)
  have x1 : a &&& b < 4294967296 := Nat.lt_of_le_of_lt Nat.and_le_left ha
  have x2 : a ||| b < 2 ^ 32 := Nat.or_lt_two_pow ha hb
  have x3 : a ^^^ b < 2 ^ 32 := Nat.xor_lt_two_pow ha hb
  have x4 : nandN 32 a b < 4294967296 := Nat.lt_of_le_of_lt Nat.and_le_left ha
  refine ⟨?_, ?_, ?_, ?_⟩
  · show IntKind.u32.wrap ((BitVec.ofInt 32 (a : Int) &&& BitVec.ofInt 32 (b : Int)).toNat : Int) = _
    rw [BitVec.toNat_and, h1, h2, wrap_u32]; omega
  · show IntKind.u32.wrap ((BitVec.ofInt 32 (a : Int) ||| BitVec.ofInt 32 (b : Int)).toNat : Int) = _
    rw [BitVec.toNat_or, h1, h2, wrap_u32]; omega
  · show IntKind.u32.wrap ((BitVec.ofInt 32 (a : Int) ^^^ BitVec.ofInt 32 (b : Int)).toNat : Int) = _
    rw [BitVec.toNat_xor, h1, h2, wrap_u32]; omega
  · show IntKind.u32.wrap ((BitVec.ofInt 32 (a : Int) &&& ~~~ BitVec.ofInt 32 (b : Int)).toNat : Int) = _
    rw [BitVec.toNat_and, BitVec.toNat_not, h1, h2, wrap_u32]
    show ((nandN 32 a b : Nat) : Int) % 4294967296 = _
    omega
theorem bits_u64 {a b : Nat} (ha : a < 18446744073709551616) (hb : b < 18446744073709551616) :
    Go.bits .and .u64 (a : Int) (b : Int) = ((a &&& b : Nat) : Int) ∧ Go.bits .or .u64 (a : Int) (b : Int) = ((a ||| b : Nat) : Int) ∧ Go.bits .xor .u64 (a : Int) (b : Int) = ((a ^^^ b : Nat) : Int) ∧ Go.bits .andNot .u64 (a : Int) (b : Int) = ((nandN 64 a b : Nat) : Int) := by
  have h1 : (BitVec.ofInt 64 (a : Int)).toNat = a := ofI (by omega)
  have h2 : (BitVec.ofInt 64 (b : Int)).toNat = b := ofI (by omega)
  have x1 : a &&& b < 18446744073709551616 := Nat.lt_of_le_of_lt Nat.and_le_left ha
  have x2 : a ||| b < 2 ^ 64 := Nat.or_lt_two_pow ha hb
  have x3 : a ^^^ b < 2 ^ 64 := Nat.xor_lt_two_pow ha hb
  have x4 : nandN 64 a b < 18446744073709551616 := Nat.lt_of_le_of_lt Nat.and_le_left ha
  refine ⟨?_, ?_, ?_, ?_⟩
  · show IntKind.u64.wrap ((BitVec.ofInt 64 (a : Int) &&& BitVec.ofInt 64 (b : Int)).toNat : Int) = _
    rw [BitVec.toNat_and, h1, h2, wrap_u64]; omega
  · show IntKind.u64.wrap ((BitVec.ofInt 64 (a : Int) ||| BitVec.ofInt 64 (b : Int)).toNat : Int) = _
    rw [BitVec.toNat_or, h1, h2, wrap_u64]; omega
  · show IntKind.u64.wrap ((BitVec.ofInt 64 (a : Int) ^^^ BitVec.ofInt 64 (b : Int)).toNat : Int) = _
    rw [BitVec.toNat_xor, h1, h2, wrap_u64]; omega
  · show IntKind.u64.wrap ((BitVec.ofInt 64 (a : Int) &&& ~~~ BitVec.ofInt 64 (b : Int)).toNat : Int) = _
    rw [BitVec.toNat_and, BitVec.toNat_not, h1, h2, wrap_u64]
    show ((nandN 64 a b : Nat) : Int) % 18446744073709551616 = _
    omega
theorem testBit_nand {w a b i : Nat} (ha : a < 2 ^ w) (hb : b < 2 ^ w) : (nandN w a b).testBit i = (a.testBit i && !b.testBit i) := by
  unfold nandN
  rw [Nat.testBit_and, show 2 ^ w - 1 - b = 2 ^ w - (b + 1) by omega, Nat.testBit_two_pow_sub_succ hb]
  by_cases h : i < w
  · simp [h]
  · have : a.testBit i = false := Nat.testBit_lt_two_pow (Nat.lt_of_lt_of_le ha (Nat.pow_le_pow_right (by decide) (by omega)))
    simp [this]
/-- Down by places. -/
theorem shrN {a k : Nat} : (a : Int).fdiv (2 ^ k) = ((a / 2 ^ k : Nat) : Int) := by
  rw [Int.fdiv_eq_ediv_of_nonneg _ (Int.pow_nonneg (by decide)), Int.natCast_ediv, Int.natCast_pow]
  rfl
end Go.Proofs.Ytdkdifjjpbfohaa.Fw
