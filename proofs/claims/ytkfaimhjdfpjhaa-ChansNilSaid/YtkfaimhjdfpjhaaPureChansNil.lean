/- Of none, and of a zero one, all is refused, or nothing: the walk has shown all. -/
import Derived.Test.YtkfaimhjdfpjhaaPChansNilx1
set_option linter.unusedSimpArgs false
set_option linter.unusedVariables false
namespace Go.Proofs.Ytkfaimhjdfpjhaa.Pure
open Go.RowKit Go.Proofs.Ytkfaimhjdfpjhaa.PChansNil
theorem ChansNil : garderobelaw29_ChansNil.Pure := fun _ _ _ _ _ => rfl
end Go.Proofs.Ytkfaimhjdfpjhaa.Pure
