/- The walk has shown all. -/
import Derived.Test.YtkfaimhjdfpjhaaPChansOnex1
import Derived.Test.YtkfaimhjdfpjhaaQChansOne
set_option linter.unusedSimpArgs false
set_option linter.unusedVariables false
namespace Go.Proofs.Ytkfaimhjdfpjhaa.Pure
open Go.RowKit Go.Proofs.Ytkfaimhjdfpjhaa.PChansOne
theorem ChansOne : garderobelaw29_ChansOne.PureQ := fun _ _ => rfl
end Go.Proofs.Ytkfaimhjdfpjhaa.Pure
