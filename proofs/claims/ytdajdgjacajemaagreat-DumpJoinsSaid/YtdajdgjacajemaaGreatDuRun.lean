/- The chapter's example is run. -/
import Derived.Test.YtdajdgjacajemaaGreatFwC
import Derived.Test.YtdajdgjacajemaaGreatIrDu
namespace Go.Proofs.YtdajdgjacajemaaGreat
open Go Fw
theorem du_alive : FnV TDu 24 [] (.bool true) := FnV_runK (lkp := TDu.fns) (fun _ _ h => h) SN_none 3 1000 rfl (by kernel_rfl)
end Go.Proofs.YtdajdgjacajemaaGreat
