/- Any number of bytes touches just so many pages, and no fewer are enough: for every 64-bit number, without a condition. -/
import Derived.OpenShut
import Derived.Laws.Bits64
import Derived.Test.YtiekjbejgmdkkaaPNumPagesx2
namespace Go.Proofs.Ytiekjbejgmdkkaa.Pure
open Go.RowKit Go.Proofs.Ytiekjbejgmdkkaa.PNumPages Go.Proofs.YtiekjbejgmdkkaaW.PrintWords Go.Proofs.YtiekjbejgmdkkaaW.PrintLast Go.Proofs.YtiekjbejgmdkkaaW.PrintMore

theorem alive_is : messuagelaw01_alive.f 40 = some true := by decide +kernel

theorem NumPages : messuagelaw01_NumPages.Pure := by
  intro n hw
  obtain ⟨h0, h1⟩ := bounds_u64 hw
  refine ⟨40, ?_⟩
  unfold messuagelaw01_NumPages.f num_Pages.f
  simp only [Option.bind_some, alive_is, IntKind.wrap_u64, Int.tdiv_eq_ediv_of_nonneg h0, Int.tmod_eq_emod_of_nonneg h0]
  have hm : mn (n % 256) 1 = if n % 256 = 0 then 0 else 1 := by unfold mn; omega
  rw [hm]
  have hp : (n / 256 % 18446744073709551616 + (if n % 256 = 0 then 0 else 1)) % 18446744073709551616 = n / 256 + (if n % 256 = 0 then 0 else 1) := by
    split <;> omega
  rw [hp]
  by_cases e : n = 0
  · subst e
    rfl
  · have h3 : (n - 1) % 18446744073709551616 = n - 1 := by omega
    rw [if_neg e, if_pos (by split <;> omega), if_pos (by split <;> omega), h3, Int.tdiv_eq_ediv_of_nonneg (by omega), if_pos]
    split <;> omega

end Go.Proofs.Ytiekjbejgmdkkaa.Pure
