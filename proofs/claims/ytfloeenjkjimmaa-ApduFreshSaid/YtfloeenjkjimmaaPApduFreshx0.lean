-- laid by fake.py, a program of this session's, over the kit's print
import Derived.Test.YtfloeenjkjimmaaProg
import Derived.Below
import Derived.Deep.Draws
import Derived.Deep.AppendLies
import Derived.Maps.AppendAt
import Derived.OwnWalk
import Derived.Laws.BytesArg
import Derived.Laws.MakeOwn
import Derived.Laws.OwnMore
import Derived.Deep.OwnRows
import Derived.Tactics
import Derived.Lib.ConvBytes
import Derived.Laws.Slices
import Derived.WalkKit
import Derived.KernelRfl
import Derived.RowKit3
import Derived.Deep.LoopGhost
import Derived.Deep.QuietTactic
import Derived.BigQuiet
import Derived.WideLaws
import Derived.Deep.DeepCutAuto
import Derived.Deep.CutBlock
import Derived.Deep.RegionHeld3
import Derived.Laws.Rows
import Derived.Lib.AppendStr
import Derived.ArgAppend
import Derived.Laws.IdiomCopy
import Derived.OrdersHeld
import Derived.Laws.BitsLemmas
import Derived.RowKit
import Derived.Test.YtfloeenjkjimmaaMine
import Derived.Test.YtfloeenjkjimmaaMine2
import Derived.Test.YtfloeenjkjimmaaMine4
import Derived.Test.YtfloeenjkjimmaaMine5
import Derived.Test.YtfloeenjkjimmaaMine7
import Derived.Test.YtfloeenjkjimmaaWWords
import Derived.Test.YtfloeenjkjimmaaWLast
import Derived.Test.YtfloeenjkjimmaaWTab
import Derived.Test.YtfloeenjkjimmaaWFour
import Derived.Test.YtfloeenjkjimmaaWQPut
import Derived.Test.YtfloeenjkjimmaaWApart
import Derived.Test.YtfloeenjkjimmaaWArr
import Derived.Test.YtfloeenjkjimmaaWZeros
import Derived.Test.YtfloeenjkjimmaaWFoot
import Derived.Test.YtfloeenjkjimmaaWKept
import Derived.Test.YtfloeenjkjimmaaWShare
import Derived.Test.YtfloeenjkjimmaaWN
import Derived.Test.YtfloeenjkjimmaaWFootNe
import Derived.Test.YtfloeenjkjimmaaWAt
import Derived.Test.YtfloeenjkjimmaaWEqStruct
import Derived.Test.YtfloeenjkjimmaaWRepsOne
import Derived.Test.YtfloeenjkjimmaaWInv
import Derived.Test.YtfloeenjkjimmaaWInvWords
import Derived.Test.YtfloeenjkjimmaaWGuard
import Derived.Test.YtfloeenjkjimmaaWNEv
import Derived.Test.YtfloeenjkjimmaaWMore
namespace Go.Proofs.Ytfloeenjkjimmaa.PApduFresh
open Go.RowKit Go.Proofs.YtfloeenjkjimmaaW.PrintWords Go.Proofs.YtfloeenjkjimmaaW.PrintLast Go.Proofs.YtfloeenjkjimmaaW.PrintMore Go.Proofs.YtfloeenjkjimmaaW.Mine
attribute [local go_sem] Go.Proofs.YtfloeenjkjimmaaW.Mine.isSome_set max2_int min2_int max_two min_two max_three min_three max_four min_four   -- for this text's walks alone
set_option linter.unusedVariables false
set_option linter.unusedSimpArgs false



def errW : Option Int → Value
  | none => .nilIface
  | some c => .iface 0 (.int .i64 c)
theorem errW_none : errW none = .nilIface := rfl
theorem errW_some (c : Int) : errW (some c) = .iface 0 (.int .i64 c) := rfl

theorem info5 : (Try.prog.info? 5).map (fun i => (i.zero, i.size, i.bytes)) = some (some (.int .u8 0), 1, 1) := by kernel_rfl
-- the values' own types

end Go.Proofs.Ytfloeenjkjimmaa.PApduFresh
