/- Groups of relocations: what a list tells. -/
import Derived.Test.YtdkdifjjpbfohaaFw28
import Derived.Test.YtdkdifjjpbfohaaStRels
import Derived.Test.YtdkdifjjpbfohaaIrAps
import Derived.Test.YtdkdifjjpbfohaaLebG
namespace Go.Proofs.Ytdkdifjjpbfohaa
open Go Fw
set_option linter.unusedSimpArgs false
set_option linter.unusedVariables false
set_option linter.unusedSectionVars false

theorem sR_pos {l : List UInt8} (h : (sR l).2.2 = 0) : 0 < (sR l).2.1 ∧ (sR l).2.1 ≤ l.length := by
  refine ⟨?_, sR_le l⟩
  unfold sR at h ⊢
  cases hg : gr 10 l with
  | ok g r =>
    obtain ⟨gne, glen, hl⟩ := gr_ok hg
    have g0 : 0 < g.length := by cases g with | nil => exact absurd rfl gne | cons => simp
    simp only
    split <;> exact g0
  | short => rw [hg] at h; cases h
  | long => rw [hg] at h; cases h
theorem sR_fail {l : List UInt8} (h : (sR l).2.2 ≠ 0) : (sR l).1 = 0 := by
  unfold sR at h ⊢
  cases hg : gr 10 l with
  | ok g r =>
    rw [hg] at h
    simp only at h ⊢
    split
    · rfl
    · rename_i hh; rw [if_neg hh] at h; exact absurd rfl h
  | short => rfl
  | long => rfl
/-- The numbers of some bytes, up to the first that can't be read; and whether all could. -/
def nums : Nat → List UInt8 → List Int × Bool
  | 0, _ => ([], true)
  | f + 1, l => if l = [] then ([], true) else if (sR l).2.2 ≠ 0 then ([], false) else ((sR l).1 :: (nums f (l.drop (sR l).2.1)).1, (nums f (l.drop (sR l).2.1)).2)
theorem nums_fuel : ∀ (f g : Nat) (l : List UInt8), l.length ≤ f → l.length ≤ g → nums f l = nums g l
  | 0, 0, _, _, _ => rfl
  | 0, g + 1, l, hf, _ => by
    have : l = [] := List.length_eq_zero_iff.1 (by omega)
    subst this; rfl
  | f + 1, 0, l, _, hg => by
    have : l = [] := List.length_eq_zero_iff.1 (by omega)
    subst this; rfl
  | f + 1, g + 1, l, hf, hg => by
    rw [nums, nums]
    by_cases h1 : l = []
    · rw [if_pos h1, if_pos h1]
    rw [if_neg h1, if_neg h1]
    by_cases h2 : (sR l).2.2 = 0
    · rw [if_neg (fun h => h h2), if_neg (fun h => h h2)]
      have hp := sR_pos h2
      rw [nums_fuel f g (l.drop (sR l).2.1) (by rw [List.length_drop]; omega) (by rw [List.length_drop]; omega)]
    · rw [if_pos h2, if_pos h2]
/-- Numbers that are taken up. -/
structure LS where
  N : List Int
  bad : Bool
def tk (s : LS) : LS × Int :=
  match s.N with
  | [] => (⟨[], true⟩, 0)
  | n :: r => (⟨r, s.bad⟩, n)
/-- A reader is where the numbers are. -/
def rdOK (l : List UInt8) (fl : Bool) (p : Nat) (fail : Int) (s : LS) : Prop :=
  p ≤ l.length ∧ ((fail = 0 ∧ nums (l.length - p) (l.drop p) = (s.N, fl) ∧ s.bad = false) ∨ (fail ≠ 0 ∧ s = ⟨[], true⟩))
theorem rd_bad {l : List UInt8} {fl : Bool} {p : Nat} {fail : Int} {s : LS} (h : rdOK l fl p fail s) : fail = 0 ↔ s.bad = false := by
  obtain ⟨_, ⟨h1, _, h3⟩ | ⟨h1, rfl⟩⟩ := h
  · exact ⟨fun _ => h3, fun _ => h1⟩
  · exact ⟨fun h => absurd h h1, fun h => by cases h⟩
theorem rd_end {l : List UInt8} {fl : Bool} {p : Nat} {s : LS} (h : rdOK l fl p 0 s) : (l.length - p = 0) ↔ (s.N = [] ∧ fl = true) := by
  obtain ⟨hp, ⟨_, h2, h3⟩ | ⟨h1, _⟩⟩ := h
  · constructor
    · intro h0
      rw [h0] at h2
      injection h2 with e1 e2
      exact ⟨e1.symm, e2.symm⟩
    · rintro ⟨e1, e2⟩
      rw [e1, e2] at h2
      cases hn : l.length - p with
      | zero => rfl
      | succ n =>
        rw [hn, nums] at h2
        have hne : ¬ l.drop p = [] := fun h => by have := congrArg List.length h; rw [List.length_drop, List.length_nil] at this; omega
        rw [if_neg hne] at h2
        split at h2
        · cases h2
        · cases h2
  · exact absurd rfl h1
/-- The next number is read. -/
theorem rd_next {l : List UInt8} {fl : Bool} {p : Nat} {s : LS} (h : rdOK l fl p 0 s) : (sR (l.drop p)).1 = (tk s).2 ∧ rdOK l fl (p + (sR (l.drop p)).2.1) (sR (l.drop p)).2.2 (tk s).1 := by
  obtain ⟨hp, ⟨_, h2, h3⟩ | ⟨h1, _⟩⟩ := h
  · have hle := sR_le (l.drop p)
    rw [List.length_drop] at hle
    cases hn : l.length - p with
    | zero =>
      have hd : l.drop p = [] := List.drop_eq_nil_of_le (by omega)
      rw [hd]
      rw [hn] at h2
      injection h2 with e1 e2
      have ht : tk s = (⟨[], true⟩, 0) := by unfold tk; rw [← e1]
      rw [ht]
      exact ⟨rfl, by show p + 0 ≤ _; omega, .inr ⟨by decide, rfl⟩⟩
    | succ n =>
      rw [hn, nums] at h2
      have hne : ¬ l.drop p = [] := fun h => by have := congrArg List.length h; rw [List.length_drop, List.length_nil] at this; omega
      rw [if_neg hne] at h2
      by_cases hf : (sR (l.drop p)).2.2 = 0
      · rw [if_neg (fun h => h hf)] at h2
        injection h2 with e1 e2
        have ht : tk s = (⟨(nums n ((l.drop p).drop (sR (l.drop p)).2.1)).1, s.bad⟩, (sR (l.drop p)).1) := by unfold tk; rw [← e1]
        have hpos := sR_pos hf
        rw [List.length_drop] at hpos
        rw [ht]
        refine ⟨rfl, by omega, .inl ⟨hf, ?_, h3⟩⟩
        show nums _ _ = ((nums n ((l.drop p).drop (sR (l.drop p)).2.1)).1, fl)
        rw [← e2, List.drop_drop]
        rw [nums_fuel (l.length - (p + (sR (l.drop p)).2.1)) n _ (by rw [List.length_drop]; omega) (by rw [List.length_drop]; omega)]
      · rw [if_pos hf] at h2
        injection h2 with e1 e2
        have ht : tk s = (⟨[], true⟩, 0) := by unfold tk; rw [← e1]
        rw [ht]
        exact ⟨sR_fail hf, by omega, .inr ⟨hf, rfl⟩⟩
  · exact absurd rfl h1
end Go.Proofs.Ytdkdifjjpbfohaa
