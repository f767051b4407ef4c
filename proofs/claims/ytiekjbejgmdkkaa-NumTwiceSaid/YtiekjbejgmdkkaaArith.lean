import Derived.OpenShut
import Derived.Laws.Bits64
import Derived.Laws.BitsAllLaws
namespace Go.Proofs.Ytiekjbejgmdkkaa.Arith
open Go.RowKit

theorem and_pred (n : Nat) : 0 < n → ((n &&& (n - 1)) = 0 ↔ ∃ k, n = 2 ^ k) := by
  induction n using Nat.strongRecOn with
  | _ n ih =>
    intro hn
    rcases Nat.mod_two_eq_zero_or_one n with h | h
    · obtain ⟨m, rfl⟩ : ∃ m, n = 2 * m := ⟨n / 2, by omega⟩
      have hm : 0 < m := by omega
      have e : (2 * m) &&& (2 * m - 1) = 2 * (m &&& (m - 1)) := by
        apply Nat.eq_of_testBit_eq
        intro i
        rw [Nat.testBit_and]
        cases i with
        | zero => simp [Nat.testBit_zero]
        | succ i =>
          have h1 : 2 * m / 2 = m := by omega
          have h2 : (2 * m - 1) / 2 = m - 1 := by omega
          have h3 : 2 * (m &&& (m - 1)) / 2 = m &&& (m - 1) := by omega
          rw [Nat.testBit_succ, Nat.testBit_succ, Nat.testBit_succ, h1, h2, h3, Nat.testBit_and]
      rw [e]
      have := ih m (by omega) hm
      constructor
      · intro h0
        obtain ⟨k, hk⟩ := this.1 (by omega)
        exact ⟨k + 1, by rw [Nat.pow_succ]; omega⟩
      · rintro ⟨k, hk⟩
        cases k with
        | zero => simp at hk; omega
        | succ k =>
          have := this.2 ⟨k, by rw [Nat.pow_succ] at hk; omega⟩
          omega
    · obtain ⟨m, rfl⟩ : ∃ m, n = 2 * m + 1 := ⟨n / 2, by omega⟩
      have e : (2 * m + 1) &&& (2 * m + 1 - 1) = 2 * m := by
        apply Nat.eq_of_testBit_eq
        intro i
        rw [Nat.testBit_and]
        cases i with
        | zero => simp [Nat.testBit_zero]
        | succ i =>
          have h1 : (2 * m + 1) / 2 = m := by omega
          have h2 : (2 * m + 1 - 1) / 2 = m := by omega
          have h3 : 2 * m / 2 = m := by omega
          rw [Nat.testBit_succ, Nat.testBit_succ, Nat.testBit_succ, h1, h2, h3, Bool.and_self]
      rw [e]
      constructor
      · intro h0
        exact ⟨0, by omega⟩
      · rintro ⟨k, hk⟩
        cases k with
        | zero => simp at hk; omega
        | succ k => rw [Nat.pow_succ] at hk; omega

theorem pow_lt (k : Nat) (n : Int) (h1 : n ≤ 18446744073709551615) (hk : n = ((2 ^ k : Nat) : Int)) : k < 64 := by
  rcases Nat.lt_or_ge k 64 with h | h
  · exact h
  · have : (2 : Nat) ^ 64 ≤ 2 ^ k := Nat.pow_le_pow_right (by decide) h
    have e : (2 : Nat) ^ 64 = 18446744073709551616 := by decide
    omega

/-- A power of 2, and its Bool. -/
def Pow2 (n : Int) : Prop := ∃ k : Nat, n = ((2 ^ k : Nat) : Int)
noncomputable def pw (n : Int) : Bool := @decide (Pow2 n) (Classical.propDecidable _)
theorem pw_iff (n : Int) : pw n = true ↔ Pow2 n := by unfold pw; exact @decide_eq_true_iff _ (Classical.propDecidable _)

/-- Go's own test of a power of 2. -/
theorem power_test0 (n : Int) (h0 : 0 < n) (h1 : n ≤ 18446744073709551615) :
    (Go.bits .and .u64 n (IntKind.u64.wrap (n - 1)) == 0) = true ↔ Pow2 n := by
  unfold Pow2
  have hw : IntKind.u64.wrap (n - 1) = n - 1 := by rw [IntKind.wrap_u64]; omega
  rw [hw, u64_and n (n - 1) (by omega) (by omega) (by omega) (by omega)]
  have e : (n - 1).toNat = n.toNat - 1 := by omega
  rw [e]
  have := and_pred n.toNat (by omega)
  simp only [beq_iff_eq]
  constructor
  · intro h
    obtain ⟨k, hk⟩ := this.1 (by omega)
    exact ⟨k, by omega⟩
  · rintro ⟨k, hk⟩
    have := this.2 ⟨k, by omega⟩
    omega

theorem power_test (n : Int) (h0 : 0 < n) (h1 : n ≤ 18446744073709551615) :
    (Go.bits .and .u64 n (IntKind.u64.wrap (n - 1)) == 0) = pw n := by
  rw [Bool.eq_iff_iff, power_test0 n h0 h1, pw_iff]
theorem pw_zero : pw 0 = false := by
  cases h : pw 0 with
  | false => rfl
  | true =>
    obtain ⟨k, hk⟩ := (pw_iff 0).1 h
    have := Nat.two_pow_pos k
    omega

theorem clear_low (n k : Nat) (hn : n < 18446744073709551616) (hk : k < 64) :
    n &&& (18446744073709551615 - (2 ^ k - 1)) = n / 2 ^ k * 2 ^ k := by
  have hp : 0 < 2 ^ k := Nat.two_pow_pos k
  have e : 18446744073709551615 - (2 ^ k - 1) = 2 ^ 64 - ((2 ^ k - 1) + 1) := by
    have : (2 : Nat) ^ 64 = 18446744073709551616 := by decide
    omega
  have hle : 2 ^ k - 1 < 2 ^ 64 := by
    have : (2 : Nat) ^ k < 2 ^ 64 := Nat.pow_lt_pow_right (by decide) hk
    omega
  rw [e]
  apply Nat.eq_of_testBit_eq
  intro i
  rw [Nat.testBit_and, Nat.testBit_two_pow_sub_succ hle, Nat.testBit_two_pow_sub_one, Nat.testBit_mul_two_pow]
  by_cases hi : k ≤ i
  · have h1 : decide (i < k) = false := by simp; omega
    have h2 : decide (k ≤ i) = true := by simpa using hi
    rw [h1, h2, Nat.testBit_div_two_pow]
    have h3 : i - k + k = i := by omega
    by_cases h64 : i < 64
    · simp [h64, h3]
    · have : n.testBit i = false := Nat.testBit_lt_two_pow (Nat.lt_of_lt_of_le (by simpa using hn) (Nat.pow_le_pow_right (by decide) (by omega : 64 ≤ i)))
      simp [h3, this]
  · have h1 : decide (i < k) = true := by simp; omega
    have h2 : decide (k ≤ i) = false := by simp; omega
    rw [h1, h2]; simp

/-- Go's own rounding down. -/
theorem down_is (n unit : Int) (h0 : 0 ≤ n) (h1 : n ≤ 18446744073709551615) (k : Nat) (hk : unit = ((2 ^ k : Nat) : Int)) (hu : unit ≤ 18446744073709551615) :
    Go.bits .andNot .u64 n (IntKind.u64.wrap (unit - 1)) = n - n % unit := by
  have hk64 := pow_lt k unit hu hk
  have hp : 0 < 2 ^ k := Nat.two_pow_pos k
  have hw : IntKind.u64.wrap (unit - 1) = unit - 1 := by rw [IntKind.wrap_u64]; omega
  rw [hw, u64_andNot n (unit - 1) (by omega) (by omega) (by omega) (by omega)]
  have e : (unit - 1).toNat = 2 ^ k - 1 := by omega
  rw [e, clear_low n.toNat k (by omega) hk64]
  obtain ⟨m, rfl⟩ := Int.eq_ofNat_of_zero_le h0
  subst hk
  rw [Int.toNat_natCast]
  have := Nat.div_add_mod m (2 ^ k)
  have h2 : ((m : Int) % ((2 ^ k : Nat) : Int)) = ((m % 2 ^ k : Nat) : Int) := by rw [Int.natCast_emod]
  rw [h2]
  have h3 : m / 2 ^ k * 2 ^ k + m % 2 ^ k = m := by rw [Nat.mul_comm]; exact this
  omega

end Go.Proofs.Ytiekjbejgmdkkaa.Arith
