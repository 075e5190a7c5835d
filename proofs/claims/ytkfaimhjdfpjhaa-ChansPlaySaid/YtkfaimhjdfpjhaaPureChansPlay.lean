/- The walk has shown all. -/
import Derived.Test.YtkfaimhjdfpjhaaPChansPlayx1
import Derived.Test.YtkfaimhjdfpjhaaQChansPlay
set_option linter.unusedSimpArgs false
set_option linter.unusedVariables false
namespace Go.Proofs.Ytkfaimhjdfpjhaa.Pure
open Go.RowKit Go.Proofs.Ytkfaimhjdfpjhaa.PChansPlay
theorem ChansPlay : garderobelaw29_ChansPlay.PureQ := fun _ _ => rfl
end Go.Proofs.Ytkfaimhjdfpjhaa.Pure
