/- What is put is read: in plain lists. -/
import Derived.Test.YtkhojkdcejmgpaaLebReads
namespace Go.Proofs.Ytkhojkdcejmgpaa
open Go Fw
set_option linter.unusedSimpArgs false
set_option linter.unusedVariables false

/-- A number's groups stand ahead of whatever follows. -/
theorem gr_low : ∀ (f : Nat) (g r : List UInt8), g ≠ [] → lastLow g → g.length ≤ f → gr f (g ++ r) = .ok g r
  | _, [], _, h, _, _ => absurd rfl h
  | 0, _ :: _, _, _, _, h => by simp at h
  | f + 1, [c], r, _, hl, _ => by
    have := hl 0 (by simp)
    simp at this
    simp [gr, this]
  | f + 1, c :: d :: g, r, _, hl, h => by
    have h0 := hl 0 (by simp)
    simp at h0
    have h1 : lastLow (d :: g) := fun i hi => by
      have := hl (i + 1) (by simpa using hi)
      simpa using this
    have h2 := gr_low f (d :: g) r (by simp) h1 (by simpa using h)
    have h3 : ¬ c.toNat < 128 := by omega
    rw [List.cons_append, gr, if_neg h3, h2]
    rfl
theorem lastB_low : ∀ (g : List UInt8), g ≠ [] → lastLow g → lastB g < 128
  | [], h, _ => absurd rfl h
  | [c], _, hl => by
    have := hl 0 (by simp)
    simp at this
    exact this
  | c :: d :: g, _, hl => by
    refine lastB_low (d :: g) (by simp) fun i hi => ?_
    have := hl (i + 1) (by simpa using hi)
    simpa using this
theorem uR_of {g r : List UInt8} (hg : g ≠ []) (hl : lastLow g) (h10 : g.length ≤ 10) {n : Nat} (hv : val g = n) (hn : n < 18446744073709551616) : uR (g ++ r) = (n, g.length, 0) := by
  have hb := lastB_low g hg hl
  unfold uR
  rw [gr_low 10 g r hg hl h10]
  simp only []
  obtain ⟨v, h1, h2⟩ := val_last g hg
  rw [if_neg ?_, hv, Nat.mod_eq_of_lt hn]
  rintro ⟨h3, h4⟩
  rw [h3] at h1 h2
  simp at h1 h2
  omega
theorem sR_of {g r : List UInt8} (hg : g ≠ []) (hl : lastLow g) (h10 : g.length ≤ 10) {n : Int} (hv : sval g = n) (hn : isI64 n) : sR (g ++ r) = (n, g.length, 0) := by
  have hb := lastB_low g hg hl
  have hn1 := hn.1
  have hn2 := hn.2
  unfold sR
  rw [gr_low 10 g r hg hl h10]
  simp only []
  obtain ⟨v, h1, h2⟩ := val_last g hg
  rw [if_neg ?_, hv]
  rintro ⟨h3, h4, h5⟩
  unfold sval at hv
  rw [h3] at h1 h2 hv
  simp at h1 h2 hv
  split at hv <;> omega
theorem val_append : ∀ (a b : List UInt8), val (a ++ b) = val a + 128 ^ a.length * val b
  | [], b => by simp [val]
  | c :: a, b => by
    rw [List.cons_append, val, val_append a b, val, List.length_cons, Nat.pow_succ, Nat.mul_add, ← Nat.mul_assoc, Nat.mul_comm 128 (128 ^ a.length), Nat.add_assoc]
theorem lastB_append : ∀ (a : List UInt8) (c : UInt8), lastB (a ++ [c]) = c.toNat
  | [], c => rfl
  | [d], c => rfl
  | d :: e :: a, c => by
    have := lastB_append (e :: a) c
    rw [List.cons_append, List.cons_append]
    exact this
theorem val_putU : ∀ (f n : Nat), n < 128 ^ f → val (putU f n) = n
  | 0, n, h => by simp at h; subst h; rfl
  | f + 1, n, h => by
    rw [putU]
    have hp : 128 ^ (f + 1) = 128 ^ f * 128 := Nat.pow_succ ..
    split
    · simp only [val, UInt8.toNat_ofNat']; omega
    · rw [val, val_putU f (n / 128) (by omega), UInt8.toNat_ofNat']; omega
theorem sval_cons {c : UInt8} {g : List UInt8} (h : g ≠ []) : sval (c :: g) = (c.toNat % 128 : Nat) + 128 * sval g := by
  cases g with
  | nil => exact absurd rfl h
  | cons d g =>
    have e : lastB (c :: d :: g) = lastB (d :: g) := rfl
    unfold sval
    rw [e]
    have e2 : (128 : Int) ^ (c :: d :: g).length = 128 ^ (d :: g).length * 128 := by rw [List.length_cons, Int.pow_succ]
    have e3 : val (c :: d :: g) = c.toNat % 128 + 128 * val (d :: g) := rfl
    rw [e2, e3]
    split <;> omega
theorem sval_putS : ∀ (f : Nat) (n : Int), -(64 * 128 ^ f) ≤ n → n < 64 * 128 ^ f → sval (putS (f + 1) n) = n
  | 0, n, h1, h2 => by
    simp at h1 h2
    rw [putS, if_pos (by omega)]
    simp only [sval, lastB, val, UInt8.toNat_ofNat', List.length_singleton]
    split <;> omega
  | f + 1, n, h1, h2 => by
    have hp : (128 : Int) ^ (f + 1) = 128 ^ f * 128 := Int.pow_succ ..
    rw [hp] at h1 h2
    rw [putS]
    split
    · simp only [sval, lastB, val, UInt8.toNat_ofNat', List.length_singleton]
      split <;> omega
    · rw [sval_cons putS_ne, sval_putS f (n / 128) (by omega) (by omega), UInt8.toNat_ofNat']; omega
theorem sR_put {n : Int} (hn : isI64 n) (r : List UInt8) : sR (putS 10 n ++ r) = (n, (putS 10 n).length, 0) := by
  have h1 := hn.1
  have h2 := hn.2
  exact sR_of putS_ne (putS_low 9 n (by omega) (by omega)) (putS_len 10 n) (sval_putS 9 n (by omega) (by omega)) hn
theorem uR_put {n : Nat} (hn : n < 18446744073709551616) (r : List UInt8) : uR (putU 10 n ++ r) = (n, (putU 10 n).length, 0) :=
  uR_of putU_ne (putU_low 10 n (by omega)) (putU_len 10 n) (val_putU 10 n (by omega)) hn

/-! ### A number in more groups -/
/-- Groups that say a number. -/
def says (n : Int) (g : List UInt8) : Prop := g ≠ [] ∧ lastLow g ∧ sval g = n
theorem says_more {n : Int} {g0 : List UInt8} {c d : UInt8} (h : says n (g0 ++ [c])) (hd : d.toNat = if 64 ≤ c.toNat then 127 else 0) {c' : UInt8} (hc' : c'.toNat = c.toNat + 128) : says n (g0 ++ [c'] ++ [d]) := by
  obtain ⟨h1, h2, h3⟩ := h
  have hc : c.toNat < 128 := by
    have := h2 g0.length (by simp)
    simpa using this
  have hd2 : d.toNat < 128 := by rw [hd]; split <;> omega
  refine ⟨by simp, fun i hi => ?_, ?_⟩
  · simp at hi
    by_cases hlt : i < g0.length
    · have h5 := h2 i (by simp; omega)
      have e1 : (g0 ++ [c])[i]'(by simp; omega) = g0[i] := List.getElem_append_left hlt
      have e2 : (g0 ++ [c'] ++ [d])[i]'(by simp; omega) = g0[i] := by
        simp only [List.append_assoc]; exact List.getElem_append_left hlt
      rw [e1] at h5
      rw [e2]
      simp only [List.length_append, List.length_singleton] at h5 ⊢
      omega
    · rcases Nat.lt_or_ge g0.length i with h4 | h4
      · have : i = g0.length + 1 := by omega
        subst this
        simp
        exact hd2
      · have : i = g0.length := by omega
        subst this
        simp [hc']
  · unfold sval at h3 ⊢
    rw [lastB_append] at h3 ⊢
    rw [val_append] at h3
    rw [val_append, val_append]
    simp only [val, List.length_append, List.length_singleton] at h3 ⊢
    have e1 : (128 : Int) ^ (g0.length + 1) = 128 ^ g0.length * 128 := Int.pow_succ ..
    have e2 : (128 : Int) ^ (g0.length + 1 + 1) = 128 ^ g0.length * 128 * 128 := by rw [Int.pow_succ, e1]
    have e3 : (128 : Nat) ^ (g0.length + 1) = 128 ^ g0.length * 128 := Nat.pow_succ ..
    rw [e1] at h3
    rw [e2, e3]
    have h5 : c.toNat % 128 = c.toNat := by omega
    have h6 : c'.toNat % 128 = c.toNat := by omega
    have h7 : d.toNat % 128 = d.toNat := by omega
    rw [h5] at h3
    rw [h6, h7, hd]
    generalize hX : (128 : Nat) ^ g0.length = X at h3 ⊢
    have hXi : (128 : Int) ^ g0.length = (X : Int) := by rw [← hX, Int.natCast_pow]; rfl
    rw [hXi] at h3 ⊢
    by_cases h8 : 64 ≤ c.toNat
    · have h9 : 64 ≤ 127 := by decide
      simp only [h8, if_true, h9] at h3 ⊢
      subst h3
      push_cast
      have : (X : Int) * 128 * 127 = X * 128 * 128 - X * 128 := by omega
      omega
    · have h9 : ¬ 64 ≤ 0 := by decide
      simp only [h8, if_false, h9] at h3 ⊢
      subst h3
      push_cast
      omega
end Go.Proofs.Ytkhojkdcejmgpaa
