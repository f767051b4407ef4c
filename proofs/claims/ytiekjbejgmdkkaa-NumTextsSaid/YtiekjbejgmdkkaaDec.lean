import Derived.OpenShut
import Derived.Laws.Bits64
import Derived.Laws.Strings
import Derived.Laws.BytesArg
namespace Go.Proofs.Ytiekjbejgmdkkaa.Dec
open Go.RowKit

theorem head_app (l r : List UInt8) (h : l ≠ []) : (l ++ r).head? = l.head? := by cases l <;> simp_all
/-- Decimal digits ahead of others. -/
def dec (n : Nat) (acc : List UInt8) : List UInt8 := if h : n = 0 then acc else dec (n / 10) (UInt8.ofNat (48 + n % 10) :: acc)
termination_by n
decreasing_by omega
theorem dec_zero (acc : List UInt8) : dec 0 acc = acc := by rw [dec]; simp
theorem dec_pos (n : Nat) (acc : List UInt8) (h : 0 < n) : dec n acc = dec (n / 10) (UInt8.ofNat (48 + n % 10) :: acc) := by
  rw [dec]; rw [dif_neg (by omega)]
theorem dec_acc (n : Nat) : ∀ acc, dec n acc = dec n [] ++ acc := by
  induction n using Nat.strongRecOn with
  | _ n ih =>
    intro acc
    rcases Nat.eq_zero_or_pos n with h | h
    · subst h; simp [dec_zero]
    · rw [dec_pos n acc h, dec_pos n [] h, ih (n / 10) (by omega) (_ :: acc), ih (n / 10) (by omega) [_]]
      simp
theorem dec_snoc (n : Nat) (h : 0 < n) : dec n [] = dec (n / 10) [] ++ [UInt8.ofNat (48 + n % 10)] := by
  rw [dec_pos n [] h, dec_acc]
def dig (c : UInt8) : Bool := 48 ≤ c.toNat && c.toNat ≤ 57
def val (l : List UInt8) : Nat := l.foldl (fun a c => a * 10 + (c.toNat - 48)) 0
theorem val_snoc (l : List UInt8) (c : UInt8) : val (l ++ [c]) = val l * 10 + (c.toNat - 48) := by simp [val]
theorem val_nil : val [] = 0 := rfl
theorem byte_toNat (d : Nat) (h : d < 10) : (UInt8.ofNat (48 + d)).toNat = 48 + d := by
  rw [UInt8.toNat_ofNat']; omega
theorem val_dec (n : Nat) : val (dec n []) = n := by
  induction n using Nat.strongRecOn with
  | _ n ih =>
    rcases Nat.eq_zero_or_pos n with h | h
    · subst h; simp [dec_zero, val_nil]
    · rw [dec_snoc n h, val_snoc, ih (n / 10) (by omega), byte_toNat _ (by omega)]
      omega
theorem dig_dec (n : Nat) : (dec n []).all dig = true := by
  induction n using Nat.strongRecOn with
  | _ n ih =>
    rcases Nat.eq_zero_or_pos n with h | h
    · subst h; simp [dec_zero]
    · rw [dec_snoc n h]
      simp only [List.all_append, ih (n / 10) (by omega), Bool.true_and, List.all_cons, List.all_nil, Bool.and_true, dig, byte_toNat _ (show n % 10 < 10 by omega)]
      simp; omega
theorem len_dec (k : Nat) : ∀ n, n < 10 ^ k → (dec n []).length ≤ k := by
  induction k with
  | zero => intro n h; simp at h; subst h; simp [dec_zero]
  | succ k ih =>
    intro n h
    rcases Nat.eq_zero_or_pos n with h0 | h0
    · subst h0; simp [dec_zero]
    · rw [dec_snoc n h0]
      have := ih (n / 10) (by rw [Nat.pow_succ] at h; omega)
      simp; omega
theorem dec_ne (n : Nat) (h : 0 < n) : dec n [] ≠ [] := by rw [dec_snoc n h]; simp
theorem head_dec (n : Nat) (h : 0 < n) : (dec n []).head? ≠ some 48 := by
  induction n using Nat.strongRecOn with
  | _ n ih =>
    rw [dec_snoc n h]
    rcases Nat.eq_zero_or_pos (n / 10) with h0 | h0
    · rw [h0, dec_zero]
      simp only [List.nil_append, List.head?_cons, ne_eq, Option.some.injEq]
      intro e
      have := congrArg UInt8.toNat e
      rw [byte_toNat _ (by omega)] at this
      have e48 : (48 : UInt8).toNat = 48 := rfl
      omega
    · rw [head_app _ _ (dec_ne _ h0)]
      exact ih (n / 10) (by omega) h0
/-- Digits without a nought ahead are those of their number. -/
theorem dec_val (n : Nat) : ∀ l : List UInt8, l.length = n → l.all dig = true → l ≠ [] → l.head? ≠ some 48 → 0 < val l ∧ dec (val l) [] = l := by
  induction n with
  | zero => intro l hl _ hn; exact absurd (List.eq_nil_of_length_eq_zero hl) hn
  | succ n ih =>
    intro l hl hd hn hh
    obtain ⟨l', c, rfl⟩ : ∃ l' c, l = l' ++ [c] := ⟨l.dropLast, l.getLast hn, (List.dropLast_concat_getLast hn).symm⟩
    simp only [List.all_append, List.all_cons, List.all_nil, Bool.and_true, Bool.and_eq_true] at hd
    obtain ⟨hd', hc⟩ := hd
    simp only [dig, Bool.and_eq_true, decide_eq_true_eq] at hc
    rw [val_snoc]
    by_cases e : l' = []
    · subst e
      have hc48 : c.toNat ≠ 48 := by
        intro h
        apply hh
        simp only [List.nil_append, List.head?_cons]
        rw [show c = 48 from UInt8.toNat_inj.1 h]
      simp only [val_nil, Nat.zero_mul, Nat.zero_add, List.nil_append]
      refine ⟨by omega, ?_⟩
      rw [dec_snoc _ (by omega)]
      have h1 : (c.toNat - 48) / 10 = 0 := by omega
      have h2 : 48 + (c.toNat - 48) % 10 = c.toNat := by omega
      rw [h1, h2, dec_zero]
      simp
    · obtain ⟨hp, he⟩ := ih l' (by simp at hl; omega) hd' e (by rwa [head_app _ _ e] at hh)
      refine ⟨by omega, ?_⟩
      rw [dec_snoc _ (by omega)]
      have h1 : (val l' * 10 + (c.toNat - 48)) / 10 = val l' := by omega
      have h2 : 48 + (val l' * 10 + (c.toNat - 48)) % 10 = c.toNat := by omega
      rw [h1, h2, he]
      simp
/-- The decimal text of a number. -/
def text (n : Nat) : List UInt8 := if n = 0 then [48] else dec n []
theorem val_text (n : Nat) : val (text n) = n := by
  unfold text
  split
  · rename_i h; subst h; rfl
  · exact val_dec n
theorem dig_text (n : Nat) : (text n).all dig = true := by
  unfold text
  split
  · decide
  · exact dig_dec n
theorem len_text (k n : Nat) (hk : 0 < k) (h : n < 10 ^ k) : (text n).length ≤ k ∧ 0 < (text n).length := by
  unfold text
  split
  · simp; omega
  · exact ⟨len_dec k n h, List.length_pos_iff.2 (dec_ne n (by omega))⟩
theorem head_text (n : Nat) : (text n).head? = some 48 → (text n).length = 1 := by
  unfold text
  split
  · simp
  · intro h; exact absurd h (head_dec n (by omega))
theorem text_val (l : List UInt8) (hd : l.all dig = true) (hn : l ≠ []) : text (val l) = l ↔ ¬ (l.head? = some 48 ∧ 1 < l.length) := by
  constructor
  · rintro h ⟨h1, h2⟩
    rw [← h] at h1 h2
    have := head_text _ h1
    omega
  · intro h
    by_cases h48 : l.head? = some 48
    · have h1 : l.length = 1 := by
        have := List.length_pos_iff.2 hn
        rcases Nat.lt_or_ge 1 l.length with hh | hh
        · exact absurd ⟨h48, hh⟩ h
        · omega
      obtain ⟨c, rfl⟩ := List.length_eq_one_iff.1 h1
      simp only [List.head?_cons, Option.some.injEq] at h48
      subst h48
      rfl
    · obtain ⟨hp, he⟩ := dec_val _ l rfl hd hn h48
      unfold text
      rw [if_neg (by omega), he]
theorem val_lt (l : List UInt8) (hd : l.all dig = true) : val l < 10 ^ l.length := by
  obtain ⟨n, hn⟩ : ∃ n, l.length = n := ⟨_, rfl⟩
  induction n generalizing l with
  | zero => rw [List.eq_nil_of_length_eq_zero hn]; simp [val_nil]
  | succ n ih =>
    have hne : l ≠ [] := by intro h; subst h; simp at hn
    obtain ⟨l', c, rfl⟩ : ∃ l' c, l = l' ++ [c] := ⟨l.dropLast, l.getLast hne, (List.dropLast_concat_getLast hne).symm⟩
    simp only [List.all_append, List.all_cons, List.all_nil, Bool.and_true, Bool.and_eq_true] at hd
    obtain ⟨hd', hc⟩ := hd
    simp only [dig, Bool.and_eq_true, decide_eq_true_eq] at hc
    have := ih l' hd' (by simp at hn; omega)
    rw [val_snoc, List.length_append, List.length_singleton, Nat.pow_succ]
    omega
end Go.Proofs.Ytiekjbejgmdkkaa.Dec
