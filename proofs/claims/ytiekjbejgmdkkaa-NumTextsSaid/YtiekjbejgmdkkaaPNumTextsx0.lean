-- PRINTED BY print.sh 35421559b90ae4d0a3588c463048766b98c2df88dd9212a6774a882060cdf62d: not written by this session
import Derived.Test.YtiekjbejgmdkkaaProg
import Derived.Below
import Derived.Deep.Draws
import Derived.Deep.AppendLies
import Derived.Maps.AppendAt
import Derived.OwnWalk
import Derived.Laws.BytesArg
import Derived.Laws.MakeOwn
import Derived.Laws.OwnMore
import Derived.Deep.OwnRows
import Derived.Tactics
import Derived.Lib.ConvBytes
import Derived.Laws.Slices
import Derived.WalkKit
import Derived.KernelRfl
import Derived.RowKit3
import Derived.Deep.LoopGhost
import Derived.Deep.QuietTactic
import Derived.BigQuiet
import Derived.WideLaws
import Derived.Deep.DeepCutAuto
import Derived.Deep.CutBlock
import Derived.Deep.RegionHeld3
import Derived.Laws.Rows
import Derived.Lib.AppendStr
import Derived.ArgAppend
import Derived.Laws.IdiomCopy
import Derived.OrdersHeld
import Derived.Laws.BitsLemmas
import Derived.RowKit
import Derived.Test.YtiekjbejgmdkkaaWWords
import Derived.Test.YtiekjbejgmdkkaaWLast
import Derived.Test.YtiekjbejgmdkkaaWTab
import Derived.Test.YtiekjbejgmdkkaaWFour
import Derived.Test.YtiekjbejgmdkkaaWQPut
import Derived.Test.YtiekjbejgmdkkaaWApart
import Derived.Test.YtiekjbejgmdkkaaWArr
import Derived.Test.YtiekjbejgmdkkaaWZeros
import Derived.Test.YtiekjbejgmdkkaaWFoot
import Derived.Test.YtiekjbejgmdkkaaWKept
import Derived.Test.YtiekjbejgmdkkaaWShare
import Derived.Test.YtiekjbejgmdkkaaWN
import Derived.Test.YtiekjbejgmdkkaaWFootNe
import Derived.Test.YtiekjbejgmdkkaaWAt
import Derived.Test.YtiekjbejgmdkkaaWEqStruct
import Derived.Test.YtiekjbejgmdkkaaWRepsOne
import Derived.Test.YtiekjbejgmdkkaaWInv
import Derived.Test.YtiekjbejgmdkkaaWInvWords
import Derived.Test.YtiekjbejgmdkkaaWGuard
import Derived.Test.YtiekjbejgmdkkaaWNEv
import Derived.Test.YtiekjbejgmdkkaaWMore
namespace Go.Proofs.Ytiekjbejgmdkkaa.PNumTexts
open Go.RowKit Go.Proofs.YtiekjbejgmdkkaaW.PrintWords Go.Proofs.YtiekjbejgmdkkaaW.PrintLast Go.Proofs.YtiekjbejgmdkkaaW.PrintMore
attribute [local go_sem] max2_int min2_int max_two min_two max_three min_three max_four min_four   -- for this text's walks alone
set_option linter.unusedVariables false
set_option linter.unusedSimpArgs false



def errW : Option Int → Value
  | none => .nilIface
  | some c => .iface 0 (.int .i64 c)
theorem errW_none : errW none = .nilIface := rfl
theorem errW_some (c : Int) : errW (some c) = .iface 0 (.int .i64 c) := rfl

theorem info5 : (Try.prog.info? 5).map (fun i => (i.zero, i.size, i.bytes)) = some (some (.int .u8 0), 1, 1) := by kernel_rfl
-- the values' own types

end Go.Proofs.Ytiekjbejgmdkkaa.PNumTexts
