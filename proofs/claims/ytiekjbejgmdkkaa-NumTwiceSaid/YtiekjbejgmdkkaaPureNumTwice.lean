/- What is rounded to a multiple of a power of 2 stays when it is rounded again, and order stays: for all 64-bit numbers, without a condition. -/
import Derived.Test.YtiekjbejgmdkkaaArith
import Derived.Test.YtiekjbejgmdkkaaPNumTwicex2
namespace Go.Proofs.Ytiekjbejgmdkkaa.Pure
open Go.RowKit Go.Proofs.Ytiekjbejgmdkkaa.PNumTwice Go.Proofs.Ytiekjbejgmdkkaa.Arith Go.Proofs.YtiekjbejgmdkkaaW.PrintWords Go.Proofs.YtiekjbejgmdkkaaW.PrintLast Go.Proofs.YtiekjbejgmdkkaaW.PrintMore

theorem alive_is : messuagelaw01_alive.f 40 = some true := by decide +kernel

theorem power_f (n : Int) (h0 : 0 ≤ n) (h1 : n ≤ 18446744073709551615) : num_Power.f n = some (pw n) := by
  unfold num_Power.f
  by_cases e : n = 0
  · rw [if_pos e, e, pw_zero]
  · rw [if_neg e, power_test n (by omega) h1]
theorem down_f (n u : Int) (h0 : 0 ≤ n) (h1 : n ≤ 18446744073709551615) (u0 : 0 ≤ u) (u1 : u ≤ 18446744073709551615) :
    num_Down.f n u = if pw u = true then some (n - n % u, 0) else some (0, 11) := by
  unfold num_Down.f
  rw [power_f u u0 u1]
  by_cases hp : pw u = true
  · obtain ⟨k, hk⟩ := (pw_iff u).1 hp
    have hp' := hp
    simp only [Option.bind_some, if_pos hp', down_is n u h0 h1 k hk u1]
  · simp only [Option.bind_some, if_neg hp]

theorem up_f (n u : Int) (h0 : 0 ≤ n) (h1 : n ≤ 18446744073709551615) (u0 : 0 ≤ u) (u1 : u ≤ 18446744073709551615) :
    num_Up.f n u = if pw u = true then (if n > 18446744073709551615 - (u - 1) then some (0, 10) else some (n + (u - 1) - (n + (u - 1)) % u, 0)) else some (0, 11) := by
  unfold num_Up.f num_Add.f
  rw [power_f u u0 u1]
  by_cases hp : pw u = true
  · obtain ⟨k, hk⟩ := (pw_iff u).1 hp
    have hp' := hp
    have hpos : 0 < u := by have := Nat.two_pow_pos k; omega
    have e1 : (u - 1) % 18446744073709551616 = u - 1 := by omega
    have e2 : (18446744073709551615 - (u - 1)) % 18446744073709551616 = 18446744073709551615 - (u - 1) := by omega
    simp only [Option.bind_some, if_pos hp', IntKind.wrap_u64, e1, e2]
    by_cases hb : n > 18446744073709551615 - (u - 1)
    · simp [if_pos hb]
    · have e3 : (n + (u - 1)) % 18446744073709551616 = n + (u - 1) := by omega
      have := down_is (n + (u - 1)) u (by omega) (by omega) k hk u1
      rw [IntKind.wrap_u64, e1] at this
      simp only [if_neg hb, Option.bind_some, if_true, e3, this]
  · simp only [Option.bind_some, if_neg hp]

theorem NumTwice : messuagelaw01_NumTwice.Pure := by
  intro a b u ha hb hu
  obtain ⟨a0, a1⟩ := bounds_u64 ha
  obtain ⟨b0, b1⟩ := bounds_u64 hb
  obtain ⟨u0, u1⟩ := bounds_u64 hu
  refine ⟨42, ?_⟩
  unfold messuagelaw01_NumTwice.f
  have al : messuagelaw01_alive.f 41 = some true := by decide +kernel
  have al' : messuagelaw01_alive.f 40 = some true := by decide +kernel
  rw [up_f a u a0 a1 u0 u1, up_f b u b0 b1 u0 u1, down_f a u a0 a1 u0 u1, down_f b u b0 b1 u0 u1]
  by_cases hp : pw u = true
  · simp only [if_pos hp]
    have hpos : 0 < u := by obtain ⟨k, hk⟩ := (pw_iff u).1 hp; have := Nat.two_pow_pos k; omega
    by_cases oa : a > 18446744073709551615 - (u - 1)
    · by_cases ob : b > 18446744073709551615 - (u - 1)
      · simp [if_pos oa, if_pos ob, messuagelaw01_NumTwice.j0, al]
      · simp [if_pos oa, if_neg ob, messuagelaw01_NumTwice.j0, al]
    · by_cases ob : b > 18446744073709551615 - (u - 1)
      · simp [if_neg oa, if_pos ob, messuagelaw01_NumTwice.j0, al]
      · simp only [if_neg oa, if_neg ob, Option.bind_some, if_true, messuagelaw01_NumTwice.j0]
        have ma := Int.emod_nonneg (a + (u - 1)) (show u ≠ 0 by omega)
        have mb := Int.emod_lt_of_pos (a + (u - 1)) hpos
        have hm : (a + (u - 1) - (a + (u - 1)) % u) % u = 0 := by
          have e := Int.mul_ediv_add_emod (a + (u - 1)) u
          have e2 : a + (u - 1) - (a + (u - 1)) % u = u * ((a + (u - 1)) / u) := by omega
          rw [e2, Int.mul_emod_right]
        obtain ⟨x, hx⟩ : ∃ x, x = a + (u - 1) - (a + (u - 1)) % u := ⟨_, rfl⟩
        rw [← hx] at hm ⊢
        have x0 : 0 ≤ x := by omega
        have x1 : x ≤ 18446744073709551615 := by omega
        have xu : ¬ x > 18446744073709551615 - (u - 1) := by
          obtain ⟨k, hk⟩ := (pw_iff u).1 hp
          have hk64 := pow_lt k u u1 hk
          have hd : u * (18446744073709551616 / u) = 18446744073709551616 := by
            apply Int.mul_ediv_cancel'
            subst hk
            have e : (18446744073709551616 : Int) = ((2 ^ 64 : Nat) : Int) := by decide
            rw [e]
            exact Int.natCast_dvd_natCast.2 (Nat.pow_dvd_pow 2 (by omega))
          have hxu := Int.mul_ediv_add_emod x u
          rw [hm] at hxu
          intro hgt
          have h1 : u * (x / u) < u * (18446744073709551616 / u) := by omega
          have h2 : x / u < 18446744073709551616 / u := Int.lt_of_mul_lt_mul_left h1 (by omega)
          have h3 : u * (x / u + 1) ≤ u * (18446744073709551616 / u) := Int.mul_le_mul_of_nonneg_left (by omega) (by omega)
          rw [Int.mul_add, Int.mul_one] at h3
          omega
        have ux : num_Up.f x u = some (x, 0) := by
          rw [up_f x u x0 x1 u0 u1, if_pos hp, if_neg xu]
          have : (x + (u - 1)) % u = u - 1 := by
            rw [Int.add_emod, hm, Int.zero_add, Int.emod_emod]
            exact Int.emod_eq_of_lt (by omega) (by omega)
          rw [this]
          simp
        have dx : num_Down.f x u = some (x, 0) := by
          rw [down_f x u x0 x1 u0 u1, if_pos hp, hm]; simp
        have last : ∀ k, messuagelaw01_alive.f k = some true → messuagelaw01_NumTwice.j1 (k + 1) u x false = some true := by
          intro k hk
          simp [messuagelaw01_NumTwice.j1, ux, dx, hk]
        by_cases hab : a ≤ b
        · have e1 : ¬ x > b + (u - 1) - (b + (u - 1)) % u := by
            have := Int.ediv_le_ediv hpos (show a + (u - 1) ≤ b + (u - 1) by omega)
            have h1 := Int.mul_ediv_add_emod (a + (u - 1)) u
            have h2 := Int.mul_ediv_add_emod (b + (u - 1)) u
            have h3 := Int.mul_le_mul_of_nonneg_left this (show 0 ≤ u by omega)
            omega
          have e2 : ¬ a - a % u > b - b % u := by
            have := Int.ediv_le_ediv hpos hab
            have h1 := Int.mul_ediv_add_emod a u
            have h2 := Int.mul_ediv_add_emod b u
            have h3 := Int.mul_le_mul_of_nonneg_left this (show 0 ≤ u by omega)
            omega
          simp only [if_pos hab, if_neg e1, decide_eq_false e2]
          simpa using last 40 al'
        · simp only [if_neg hab]
          simpa using last 40 al'
  · simp [if_neg hp, messuagelaw01_NumTwice.j0, al]

end Go.Proofs.Ytiekjbejgmdkkaa.Pure
