/- What is to be shown of the law ChansOne: over numbers and lists alone. -/
import Derived.Test.YtkfaimhjdfpjhaaPChansOnex1
namespace Go.Proofs.Ytkfaimhjdfpjhaa.PChansOne
open Go Go.RowKit Go.Proofs.YtkfaimhjdfpjhaaW.PrintWords
def garderobelaw29_ChansOne.PureQ : Prop := ∀ (l0 : List (S49)), (l0.length ≤ maxLen ∧ l0.length * 24 ≤ 140737488351232 ∧ ∀ x ∈ l0, ((Lit.int .i64 x.f0).wf = true ∧ (Lit.int .i64 x.f1).wf = true ∧ (Lit.int .i64 x.f2).wf = true)) → garderobelaw29_ChansOne.f l0 = some true
end Go.Proofs.Ytkfaimhjdfpjhaa.PChansOne
