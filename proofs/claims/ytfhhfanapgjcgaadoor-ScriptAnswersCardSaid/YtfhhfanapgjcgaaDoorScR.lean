/- The chapter's examples, run by the kernel. -/
import Derived.Test.YtfhhfanapgjcgaaDoorIrSb
import Derived.Test.YtfhhfanapgjcgaaDoorFwC
namespace Go.Proofs.YtfhhfanapgjcgaaDoor
open Go Fw
def natSr (f : Nat) (args : List Value) : Option Value :=
  match natSa f args with
  | some v => bif args.all (pureV 6) && (TSb.fns f).isNone && pureV 8 v then some v else none
  | none => none
theorem natSr_sn : SN TSb natSr := by
  intro f args v h
  unfold natSr at h
  split at h
  · rename_i u e
    cases hb : args.all (pureV 6) && (TSb.fns f).isNone && pureV 8 u with
    | false => rw [hb] at h; cases h
    | true =>
      rw [hb] at h
      obtain rfl := Option.some.inj h
      rw [Bool.and_eq_true, Bool.and_eq_true] at hb
      exact FnV_nat hb.1.1 (Option.isNone_iff_eq_none.1 hb.1.2) e (frz_pure hb.2)
  · cases h
def natSx (f : Nat) (args : List Value) : Option Value := bif (TSb.fns f).isNone then natSa f args else none
theorem natSx_sx : SX TSb natSx := by
  intro f args v h
  unfold natSx at h
  cases hf : (TSb.fns f).isNone with
  | false => rw [hf] at h; cases h
  | true => rw [hf] at h; exact ⟨Option.isNone_iff_eq_none.1 hf, h⟩
theorem sc_alive : FnV TSb 9 [] (.bool true) := FnV_runX (natx := natSx) (lkp := TSb.fns) natSx_sx (fun _ _ h => h) natSr_sn 3 300 rfl (by kernel_rfl)
end Go.Proofs.YtfhhfanapgjcgaaDoor
