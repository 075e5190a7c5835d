-- laid by fake.py, a program of this session's, over the kit's print
import Derived.Test.YtdplpkngacfacaaProg
import Derived.Below
import Derived.Deep.Draws
import Derived.Deep.AppendLies
import Derived.Maps.AppendAt
import Derived.OwnWalk
import Derived.Laws.BytesArg
import Derived.Laws.MakeOwn
import Derived.Laws.OwnMore
import Derived.Deep.OwnRows
import Derived.Tactics
import Derived.Lib.ConvBytes
import Derived.Laws.Slices
import Derived.WalkKit
import Derived.KernelRfl
import Derived.RowKit3
import Derived.Deep.LoopGhost
import Derived.Deep.QuietTactic
import Derived.BigQuiet
import Derived.WideLaws
import Derived.Deep.DeepCutAuto
import Derived.Deep.CutBlock
import Derived.Deep.RegionHeld3
import Derived.Laws.Rows
import Derived.Lib.AppendStr
import Derived.ArgAppend
import Derived.Laws.IdiomCopy
import Derived.OrdersHeld
import Derived.Laws.BitsLemmas
import Derived.RowKit
import Derived.Test.YtdplpkngacfacaaMine
import Derived.Test.YtdplpkngacfacaaMine3
import Derived.Test.YtdplpkngacfacaaMine5
import Derived.Test.YtdplpkngacfacaaMine6
import Derived.Test.YtdplpkngacfacaaWWords
import Derived.Test.YtdplpkngacfacaaWLast
import Derived.Test.YtdplpkngacfacaaWTab
import Derived.Test.YtdplpkngacfacaaWFour
import Derived.Test.YtdplpkngacfacaaWQPut
import Derived.Test.YtdplpkngacfacaaWApart
import Derived.Test.YtdplpkngacfacaaWArr
import Derived.Test.YtdplpkngacfacaaWZeros
import Derived.Test.YtdplpkngacfacaaWFoot
import Derived.Test.YtdplpkngacfacaaWKept
import Derived.Test.YtdplpkngacfacaaWShare
import Derived.Test.YtdplpkngacfacaaWN
import Derived.Test.YtdplpkngacfacaaWFootNe
import Derived.Test.YtdplpkngacfacaaWAt
import Derived.Test.YtdplpkngacfacaaWEqStruct
import Derived.Test.YtdplpkngacfacaaWRepsOne
import Derived.Test.YtdplpkngacfacaaWInv
import Derived.Test.YtdplpkngacfacaaWInvWords
import Derived.Test.YtdplpkngacfacaaWGuard
import Derived.Test.YtdplpkngacfacaaWNEv
import Derived.Test.YtdplpkngacfacaaWMore
namespace Go.Proofs.Ytdplpkngacfacaa.PAidFresh
open Go.RowKit Go.Proofs.YtdplpkngacfacaaW.PrintWords Go.Proofs.YtdplpkngacfacaaW.PrintLast Go.Proofs.YtdplpkngacfacaaW.PrintMore Go.Proofs.YtdplpkngacfacaaW.Mine
attribute [local go_sem] max2_int min2_int max_two min_two max_three min_three max_four min_four   -- for this text's walks alone
set_option linter.unusedVariables false
set_option linter.unusedSimpArgs false



def errW : Option Int → Value
  | none => .nilIface
  | some c => .iface 0 (.int .i64 c)
theorem errW_none : errW none = .nilIface := rfl
theorem errW_some (c : Int) : errW (some c) = .iface 0 (.int .i64 c) := rfl

theorem info5 : (Try.prog.info? 5).map (fun i => (i.zero, i.size, i.bytes)) = some (some (.int .u8 0), 1, 1) := by kernel_rfl
-- the values' own types

end Go.Proofs.Ytdplpkngacfacaa.PAidFresh
