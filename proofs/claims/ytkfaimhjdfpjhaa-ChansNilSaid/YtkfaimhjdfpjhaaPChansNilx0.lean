-- laid by fake.py, a program of this session's, over the kit's print
import Derived.Test.YtkfaimhjdfpjhaaProg
import Derived.Below
import Derived.Deep.Draws
import Derived.Deep.AppendLies
import Derived.Maps.AppendAt
import Derived.OwnWalk
import Derived.Laws.BytesArg
import Derived.Laws.MakeOwn
import Derived.Laws.OwnMore
import Derived.Deep.OwnRows
import Derived.Tactics
import Derived.Lib.ConvBytes
import Derived.Laws.Slices
import Derived.WalkKit
import Derived.KernelRfl
import Derived.RowKit3
import Derived.Deep.LoopGhost
import Derived.Deep.QuietTactic
import Derived.BigQuiet
import Derived.WideLaws
import Derived.Deep.DeepCutAuto
import Derived.Deep.CutBlock
import Derived.Deep.RegionHeld3
import Derived.Laws.Rows
import Derived.Lib.AppendStr
import Derived.ArgAppend
import Derived.Laws.IdiomCopy
import Derived.OrdersHeld
import Derived.Laws.BitsLemmas
import Derived.RowKit
import Derived.Test.YtkfaimhjdfpjhaaMine
import Derived.Test.YtkfaimhjdfpjhaaMine2
import Derived.Test.YtkfaimhjdfpjhaaCh1
import Derived.Test.YtkfaimhjdfpjhaaCh2
import Derived.Test.YtkfaimhjdfpjhaaCh3
import Derived.Test.YtkfaimhjdfpjhaaCh4
import Derived.Test.YtkfaimhjdfpjhaaCh5
import Derived.Test.YtkfaimhjdfpjhaaCh6
import Derived.Test.YtkfaimhjdfpjhaaCh7
import Derived.Test.YtkfaimhjdfpjhaaWWords
import Derived.Test.YtkfaimhjdfpjhaaWLast
import Derived.Test.YtkfaimhjdfpjhaaWTab
import Derived.Test.YtkfaimhjdfpjhaaWFour
import Derived.Test.YtkfaimhjdfpjhaaWQPut
import Derived.Test.YtkfaimhjdfpjhaaWApart
import Derived.Test.YtkfaimhjdfpjhaaWArr
import Derived.Test.YtkfaimhjdfpjhaaWZeros
import Derived.Test.YtkfaimhjdfpjhaaWFoot
import Derived.Test.YtkfaimhjdfpjhaaWKept
import Derived.Test.YtkfaimhjdfpjhaaWShare
import Derived.Test.YtkfaimhjdfpjhaaWN
import Derived.Test.YtkfaimhjdfpjhaaWFootNe
import Derived.Test.YtkfaimhjdfpjhaaWAt
import Derived.Test.YtkfaimhjdfpjhaaWEqStruct
import Derived.Test.YtkfaimhjdfpjhaaWRepsOne
import Derived.Test.YtkfaimhjdfpjhaaWInv
import Derived.Test.YtkfaimhjdfpjhaaWInvWords
import Derived.Test.YtkfaimhjdfpjhaaWGuard
import Derived.Test.YtkfaimhjdfpjhaaWNEv
import Derived.Test.YtkfaimhjdfpjhaaWMore
namespace Go.Proofs.Ytkfaimhjdfpjhaa.PChansNil
open Go.RowKit Go.Proofs.YtkfaimhjdfpjhaaW.PrintWords Go.Proofs.YtkfaimhjdfpjhaaW.PrintLast Go.Proofs.YtkfaimhjdfpjhaaW.PrintMore
attribute [local go_sem] Go.Proofs.YtkfaimhjdfpjhaaW.Mine.isSome_set max2_int min2_int max_two min_two max_three min_three max_four min_four   -- for this text's walks alone
set_option linter.unusedVariables false
set_option linter.unusedSimpArgs false



def errW : Option Int → Value
  | none => .nilIface
  | some c => .iface 0 (.int .i64 c)
theorem errW_none : errW none = .nilIface := rfl
theorem errW_some (c : Int) : errW (some c) = .iface 0 (.int .i64 c) := rfl

theorem info3 : (Try.prog.info? 3).map (fun i => (i.zero, i.size, i.bytes)) = some (some (.int .i64 0), 1, 8) := by kernel_rfl
-- the values' own types

end Go.Proofs.Ytkfaimhjdfpjhaa.PChansNil
