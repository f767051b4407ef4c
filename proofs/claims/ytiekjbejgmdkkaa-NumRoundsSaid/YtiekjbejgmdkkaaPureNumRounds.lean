/- What is rounded to a multiple of a power of 2 is one, on the right side, and less than one of it away: for all 64-bit numbers, without a condition. -/
import Derived.Test.YtiekjbejgmdkkaaArith
import Derived.Test.YtiekjbejgmdkkaaPNumRoundsx2
namespace Go.Proofs.Ytiekjbejgmdkkaa.Pure
open Go.RowKit Go.Proofs.Ytiekjbejgmdkkaa.PNumRounds Go.Proofs.Ytiekjbejgmdkkaa.Arith Go.Proofs.YtiekjbejgmdkkaaW.PrintWords Go.Proofs.YtiekjbejgmdkkaaW.PrintLast Go.Proofs.YtiekjbejgmdkkaaW.PrintMore


theorem power_f (n : Int) (h0 : 0 ≤ n) (h1 : n ≤ 18446744073709551615) : num_Power.f n = some (pw n) := by
  unfold num_Power.f
  by_cases e : n = 0
  · rw [if_pos e, e, pw_zero]
  · rw [if_neg e, power_test n (by omega) h1]
theorem down_f (n u : Int) (h0 : 0 ≤ n) (h1 : n ≤ 18446744073709551615) (u0 : 0 ≤ u) (u1 : u ≤ 18446744073709551615) :
    num_Down.f n u = if pw u = true then some (n - n % u, 0) else some (0, 11) := by
  unfold num_Down.f
  rw [power_f u u0 u1]
  by_cases hp : pw u = true
  · obtain ⟨k, hk⟩ := (pw_iff u).1 hp
    have hp' := hp
    simp only [Option.bind_some, if_pos hp', down_is n u h0 h1 k hk u1]
  · simp only [Option.bind_some, if_neg hp]

theorem up_f (n u : Int) (h0 : 0 ≤ n) (h1 : n ≤ 18446744073709551615) (u0 : 0 ≤ u) (u1 : u ≤ 18446744073709551615) :
    num_Up.f n u = if pw u = true then (if n > 18446744073709551615 - (u - 1) then some (0, 10) else some (n + (u - 1) - (n + (u - 1)) % u, 0)) else some (0, 11) := by
  unfold num_Up.f num_Add.f
  rw [power_f u u0 u1]
  by_cases hp : pw u = true
  · obtain ⟨k, hk⟩ := (pw_iff u).1 hp
    have hp' := hp
    have hpos : 0 < u := by have := Nat.two_pow_pos k; omega
    have e1 : (u - 1) % 18446744073709551616 = u - 1 := by omega
    have e2 : (18446744073709551615 - (u - 1)) % 18446744073709551616 = 18446744073709551615 - (u - 1) := by omega
    simp only [Option.bind_some, if_pos hp', IntKind.wrap_u64, e1, e2]
    by_cases hb : n > 18446744073709551615 - (u - 1)
    · simp [if_pos hb]
    · have e3 : (n + (u - 1)) % 18446744073709551616 = n + (u - 1) := by omega
      have := down_is (n + (u - 1)) u (by omega) (by omega) k hk u1
      rw [IntKind.wrap_u64, e1] at this
      simp only [if_neg hb, Option.bind_some, if_true, e3, this]
  · simp only [Option.bind_some, if_neg hp]


/-- The document's own look for a power: from the i-th on. -/
theorem ref_power_l (n : Int) (d : Nat) : ∀ (k i : Nat), i + d = 64 → d < k →
    messuageref01_Power.l0 k n (if i = 64 then 0 else ((2 ^ i : Nat) : Int)) i = some (@decide (∃ j, i ≤ j ∧ j < 64 ∧ n = ((2 ^ j : Nat) : Int)) (Classical.propDecidable _)) := by
  induction d with
  | zero =>
    intro k i hi hk
    obtain ⟨k, rfl⟩ : ∃ m, k = m + 1 := ⟨k - 1, by omega⟩
    have : ¬ ∃ j, i ≤ j ∧ j < 64 ∧ n = ((2 ^ j : Nat) : Int) := by rintro ⟨j, h⟩; omega
    simp only [messuageref01_Power.l0]
    rw [if_neg (by omega), @decide_eq_false _ (Classical.propDecidable _) this]
  | succ d ih =>
    intro k i hi hk
    obtain ⟨k, rfl⟩ : ∃ m, k = m + 1 := ⟨k - 1, by omega⟩
    simp only [messuageref01_Power.l0]
    rw [if_pos (show (i : Int) < 64 by omega), if_neg (show ¬ i = 64 by omega)]
    by_cases e : ((2 ^ i : Nat) : Int) = n
    · rw [if_pos e, @decide_eq_true _ (Classical.propDecidable _) ⟨i, Nat.le_refl _, by omega, e.symm⟩]
    · rw [if_neg e]
      have hw : wrap64 ((i : Int) + 1) = ((i + 1 : Nat) : Int) := by unfold wrap64; omega
      have h2 : IntKind.u64.wrap (((2 ^ i : Nat) : Int) * 2) = (if i + 1 = 64 then 0 else ((2 ^ (i + 1) : Nat) : Int)) := by
        rw [IntKind.wrap_u64]
        by_cases h : i + 1 = 64
        · rw [if_pos h]
          have : i = 63 := by omega
          subst this
          decide
        · rw [if_neg h]
          have hlt : 2 ^ (i + 1) < 2 ^ 64 := Nat.pow_lt_pow_right (by decide) (by omega)
          have e64 : (2 : Nat) ^ 64 = 18446744073709551616 := by decide
          have e2 : 2 ^ (i + 1) = 2 ^ i * 2 := Nat.pow_succ ..
          omega
      rw [hw, h2, ih k (i + 1) (by omega) (by omega)]
      congr 1
      rw [Bool.eq_iff_iff, @decide_eq_true_iff _ (Classical.propDecidable _), @decide_eq_true_iff _ (Classical.propDecidable _)]
      constructor
      · rintro ⟨j, h1, h2, h3⟩
        exact ⟨j, by omega, h2, h3⟩
      · rintro ⟨j, h1, h2, h3⟩
        rcases Nat.lt_or_ge i j with h | h
        · exact ⟨j, h, h2, h3⟩
        · have : j = i := by omega
          subst this
          exact absurd h3.symm e

theorem ref_power (n : Int) (h1 : n ≤ 18446744073709551615) (k : Nat) (hk : 64 < k) : messuageref01_Power.f k n = some (pw n) := by
  unfold messuageref01_Power.f
  have := ref_power_l n 64 k 0 (by omega) hk
  have e1 : (if (0 : Nat) = 64 then (0 : Int) else ((2 ^ 0 : Nat) : Int)) = 1 := by decide
  rw [e1] at this
  have e0 : ((0 : Nat) : Int) = 0 := rfl
  rw [e0] at this
  rw [this]
  congr 1
  rw [Bool.eq_iff_iff, @decide_eq_true_iff _ (Classical.propDecidable _), pw_iff]
  constructor
  · rintro ⟨j, _, _, h⟩
    exact ⟨j, h⟩
  · rintro ⟨j, h⟩
    exact ⟨j, by omega, pow_lt j n h1 h, h⟩

theorem ref_down (n u : Int) (h0 : 0 ≤ n) (h1 : n ≤ 18446744073709551615) (u0 : 0 < u) : messuageref01_Down.f n u = some (n - n % u) := by
  unfold messuageref01_Down.f
  rw [if_neg (by omega), IntKind.wrap_u64, IntKind.wrap_u64, Int.tdiv_eq_ediv_of_nonneg h0]
  have e := Int.mul_ediv_add_emod n u
  have m0 := Int.emod_nonneg n (show u ≠ 0 by omega)
  have q0 := Int.ediv_nonneg h0 (show 0 ≤ u by omega)
  have q1 : n / u ≤ n := Int.ediv_le_self u h0
  have e1 : n / u % 18446744073709551616 = n / u := by omega
  have e2 : n / u * u = n - n % u := by rw [Int.mul_comm]; omega
  have m1 := Int.emod_lt_of_pos n u0
  have e3 : 0 ≤ n / u * u := Int.mul_nonneg q0 (by omega)
  rw [e1, e2]
  congr 1
  omega

theorem NumRounds : messuagelaw01_NumRounds.Pure := by
  intro n u hn hu
  obtain ⟨n0, n1⟩ := bounds_u64 hn
  obtain ⟨u0, u1⟩ := bounds_u64 hu
  refine ⟨70, ?_⟩
  unfold messuagelaw01_NumRounds.f
  have al : messuagelaw01_alive.f 70 = some true := by decide +kernel
  have al' : messuagelaw01_alive.f 69 = some true := by decide +kernel
  rw [up_f n u n0 n1 u0 u1, down_f n u n0 n1 u0 u1, power_f u u0 u1, ref_power u u1 70 (by decide)]
  by_cases hp : pw u = true
  · have hpos : 0 < u := by obtain ⟨k, hk⟩ := (pw_iff u).1 hp; have := Nat.two_pow_pos k; omega
    have m0 := Int.emod_nonneg n (show u ≠ 0 by omega)
    have m1 := Int.emod_lt_of_pos n hpos
    have m2 := Int.emod_nonneg (n + (u - 1)) (show u ≠ 0 by omega)
    have m3 := Int.emod_lt_of_pos (n + (u - 1)) hpos
    have hle : n % u ≤ n := by
      have e := Int.mul_ediv_add_emod n u
      have := Int.mul_nonneg (show 0 ≤ u by omega) (Int.ediv_nonneg n0 (show 0 ≤ u by omega))
      omega
    have hle2 : (n + (u - 1)) % u ≤ n + (u - 1) := by
      have e := Int.mul_ediv_add_emod (n + (u - 1)) u
      have := Int.mul_nonneg (show 0 ≤ u by omega) (Int.ediv_nonneg (show 0 ≤ n + (u - 1) by omega) (show 0 ≤ u by omega))
      omega
    have w1 : IntKind.u64.wrap (n - (n - n % u)) = n % u := by rw [IntKind.wrap_u64]; omega
    have w2 : IntKind.u64.wrap (u - 1) = u - 1 := by rw [IntKind.wrap_u64]; omega
    have w3 : IntKind.u64.wrap (18446744073709551615 - (u - 1)) = 18446744073709551615 - (u - 1) := by rw [IntKind.wrap_u64]; omega
    have c1 : ¬ (n - n % u > n) := by omega
    have c2 : decide (n % u ≥ u) = false := decide_eq_false (by omega)
    simp only [hp, if_true, Option.bind_some, bne_self_eq_false, Bool.false_eq_true, if_false, ref_down n u n0 n1 hpos, w1, if_neg c1, c2, messuagelaw01_NumRounds.j0, w2, w3]
    by_cases ob : n > 18446744073709551615 - (u - 1)
    · simp only [if_pos ob, if_true, Option.bind_some, al']
    · have w4 : IntKind.u64.wrap (n + (u - 1) - (n + (u - 1)) % u - n) = n + (u - 1) - (n + (u - 1)) % u - n := by rw [IntKind.wrap_u64]; omega
      have c3 : (0 : Int) = 10 ↔ False := by decide
      have c4 : n ≤ 18446744073709551615 - (u - 1) := by omega
      have c5 : n + (u - 1) - (n + (u - 1)) % u ≥ n := by omega
      have c6 : n + (u - 1) - (n + (u - 1)) % u - n < u := by omega
      have c7 : ¬ u = 0 := by omega
      have c8 : Int.tmod (n + (u - 1) - (n + (u - 1)) % u) u = 0 := by
        rw [Int.tmod_eq_emod_of_nonneg (by omega)]
        have e := Int.mul_ediv_add_emod (n + (u - 1)) u
        have e2 : n + (u - 1) - (n + (u - 1)) % u = u * ((n + (u - 1)) / u) := by omega
        rw [e2, Int.mul_emod_right]
      simp only [if_neg ob, Option.bind_some, c3, if_false, if_true, if_pos c4, if_pos c5, w4, if_pos c6, if_neg c7, if_pos c8, al']
  · have hp' : pw u = false := by cases h : pw u with
      | false => rfl
      | true => exact absurd h hp
    simp [hp', al]

end Go.Proofs.Ytiekjbejgmdkkaa.Pure
