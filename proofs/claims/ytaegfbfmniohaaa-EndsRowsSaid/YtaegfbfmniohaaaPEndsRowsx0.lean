-- laid by fake.py, a program of this session's, over the kit's print
import Derived.Test.YtaegfbfmniohaaaProg
import Derived.Below
import Derived.Deep.Draws
import Derived.Deep.AppendLies
import Derived.Maps.AppendAt
import Derived.OwnWalk
import Derived.Laws.BytesArg
import Derived.Laws.MakeOwn
import Derived.Laws.OwnMore
import Derived.Deep.OwnRows
import Derived.Tactics
import Derived.Lib.ConvBytes
import Derived.Laws.Slices
import Derived.WalkKit
import Derived.KernelRfl
import Derived.RowKit3
import Derived.Deep.LoopGhost
import Derived.Deep.QuietTactic
import Derived.BigQuiet
import Derived.WideLaws
import Derived.Deep.DeepCutAuto
import Derived.Deep.CutBlock
import Derived.Deep.RegionHeld3
import Derived.Laws.Rows
import Derived.Lib.AppendStr
import Derived.ArgAppend
import Derived.Laws.IdiomCopy
import Derived.OrdersHeld
import Derived.Laws.BitsLemmas
import Derived.RowKit
import Derived.Test.YtaegfbfmniohaaaMine
import Derived.Test.YtaegfbfmniohaaaMine5
import Derived.Test.YtaegfbfmniohaaaWWords
import Derived.Test.YtaegfbfmniohaaaWLast
import Derived.Test.YtaegfbfmniohaaaWTab
import Derived.Test.YtaegfbfmniohaaaWFour
import Derived.Test.YtaegfbfmniohaaaWQPut
import Derived.Test.YtaegfbfmniohaaaWApart
import Derived.Test.YtaegfbfmniohaaaWArr
import Derived.Test.YtaegfbfmniohaaaWZeros
import Derived.Test.YtaegfbfmniohaaaWFoot
import Derived.Test.YtaegfbfmniohaaaWKept
import Derived.Test.YtaegfbfmniohaaaWShare
import Derived.Test.YtaegfbfmniohaaaWN
import Derived.Test.YtaegfbfmniohaaaWFootNe
import Derived.Test.YtaegfbfmniohaaaWAt
import Derived.Test.YtaegfbfmniohaaaWEqStruct
import Derived.Test.YtaegfbfmniohaaaWRepsOne
import Derived.Test.YtaegfbfmniohaaaWInv
import Derived.Test.YtaegfbfmniohaaaWInvWords
import Derived.Test.YtaegfbfmniohaaaWGuard
import Derived.Test.YtaegfbfmniohaaaWNEv
import Derived.Test.YtaegfbfmniohaaaWMore
namespace Go.Proofs.Ytaegfbfmniohaaa.PEndsRows
open Go.RowKit Go.Proofs.YtaegfbfmniohaaaW.PrintWords Go.Proofs.YtaegfbfmniohaaaW.PrintLast Go.Proofs.YtaegfbfmniohaaaW.PrintMore
attribute [local go_sem] max2_int min2_int max_two min_two max_three min_three max_four min_four   -- for this text's walks alone
set_option linter.unusedVariables false
set_option linter.unusedSimpArgs false



def errW : Option Int → Value
  | none => .nilIface
  | some c => .iface 0 (.int .i64 c)
theorem errW_none : errW none = .nilIface := rfl
theorem errW_some (c : Int) : errW (some c) = .iface 0 (.int .i64 c) := rfl

theorem info5 : (Try.prog.info? 5).map (fun i => (i.zero, i.size, i.bytes)) = some (some (.int .u8 0), 1, 1) := by kernel_rfl
-- the values' own types

end Go.Proofs.Ytaegfbfmniohaaa.PEndsRows
