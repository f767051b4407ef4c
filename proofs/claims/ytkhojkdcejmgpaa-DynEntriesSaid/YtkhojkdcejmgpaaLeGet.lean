import Derived.OpenShut
import Derived.Laws.Bits64
import Derived.Laws.BitsAllLaws
namespace Go.Proofs.Ytkhojkdcejmgpaa.LeGet
open Go.RowKit

/-- The number that n bytes from the i-th on say, the lowest first. -/
def gval (l : List Int) : Nat → Nat → Nat
  | _, 0 => 0
  | i, n + 1 => (l.getD i 0).toNat + 256 * gval l (i + 1) n
def Bytes (l : List Int) : Prop := ∀ i, 0 ≤ l.getD i 0 ∧ l.getD i 0 ≤ 255
theorem bytes_of {l : List Int} (h : ∀ x ∈ l, (Lit.int .u8 x).wf = true) : Bytes l := by
  intro i
  rw [List.getD_eq_getElem?_getD]
  rcases Nat.lt_or_ge i l.length with hi | hi
  · rw [List.getElem?_eq_getElem hi]
    exact bounds_u8 (h _ (List.getElem_mem hi))
  · rw [List.getElem?_eq_none hi]
    decide
theorem gval_lt (l : List Int) (hb : Bytes l) : ∀ n i, gval l i n < 256 ^ n
  | 0, i => by simp [gval]
  | n + 1, i => by
    have := gval_lt l hb n (i + 1)
    have := hb i
    simp only [gval]
    rw [Nat.pow_succ]
    omega
theorem or_low (x b : Int) (h0 : 0 ≤ x) (h1 : x < 72057594037927936) (b0 : 0 ≤ b) (b1 : b ≤ 255) :
    Go.bits .or .u64 (IntKind.u64.wrap (x * 256)) (IntKind.u64.wrap b) = x * 256 + b := by
  have e1 : IntKind.u64.wrap (x * 256) = x * 256 := by rw [IntKind.wrap_u64]; omega
  have e2 : IntKind.u64.wrap b = b := by rw [IntKind.wrap_u64]; omega
  rw [e1, e2, u64_or _ _ (by omega) (by omega) (by omega) (by omega)]
  have h := @Nat.shiftLeft_add_eq_or_of_lt 8 b.toNat (by omega) x.toNat
  rw [Nat.shiftLeft_eq] at h
  have e3 : (x * 256).toNat = x.toNat * 2 ^ 8 := by omega
  rw [e3, ← h]
  omega
theorem gval_step (l : List Int) (a j : Nat) : ∀ n, j ≤ n → gval l a n = gval l a j + 256 ^ j * gval l (a + j) (n - j) := by
  induction j generalizing a with
  | zero => intro n _; simp [gval]
  | succ j ih =>
    intro n hn
    obtain ⟨n, rfl⟩ : ∃ m, n = m + 1 := ⟨n - 1, by omega⟩
    simp only [gval]
    rw [ih (a + 1) n (by omega)]
    have e1 : a + 1 + j = a + (j + 1) := by omega
    have e2 : n + 1 - (j + 1) = n - j := by omega
    rw [e1, e2, Nat.pow_succ, Nat.mul_add]
    have e3 : 256 * (256 ^ j * gval l (a + (j + 1)) (n - j)) = 256 ^ j * 256 * gval l (a + (j + 1)) (n - j) := by
      rw [← Nat.mul_assoc, Nat.mul_comm 256 (256 ^ j)]
    omega
end Go.Proofs.Ytkhojkdcejmgpaa.LeGet
