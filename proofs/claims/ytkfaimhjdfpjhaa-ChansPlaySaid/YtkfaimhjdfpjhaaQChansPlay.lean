/- What is to be shown of the law ChansPlay: over numbers and lists alone. -/
import Derived.Test.YtkfaimhjdfpjhaaPChansPlayx1
namespace Go.Proofs.Ytkfaimhjdfpjhaa.PChansPlay
open Go Go.RowKit Go.Proofs.YtkfaimhjdfpjhaaW.PrintWords
def garderobelaw29_ChansPlay.PureQ : Prop := ∀ (l0 : List (S49)), (l0.length ≤ maxLen ∧ l0.length * 24 ≤ 140737488351232 ∧ ∀ x ∈ l0, ((Lit.int .i64 x.f0).wf = true ∧ (Lit.int .i64 x.f1).wf = true ∧ (Lit.int .i64 x.f2).wf = true)) → garderobelaw29_ChansPlay.f l0 = some true
end Go.Proofs.Ytkfaimhjdfpjhaa.PChansPlay
