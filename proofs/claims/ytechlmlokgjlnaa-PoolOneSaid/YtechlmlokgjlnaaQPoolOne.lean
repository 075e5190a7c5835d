/- What is to be shown of the law PoolOne: over numbers and lists alone. -/
import Derived.Test.YtechlmlokgjlnaaPPoolOnex2
namespace Go.Proofs.Ytechlmlokgjlnaa.PPoolOne
open Go Go.RowKit Go.Proofs.YtechlmlokgjlnaaW.PrintWords
def garderobelaw07_PoolOne.PureQ : Prop := ∀ (l0 : List (S43)), (l0.length ≤ maxLen ∧ l0.length * 10 ≤ 140737488351232 ∧ ∀ x ∈ l0, ((Lit.int .u8 x.f0).wf = true ∧ (Lit.int .u16 x.f1).wf = true ∧ (Lit.int .u8 x.f2).wf = true ∧ True ∧ (Lit.int .u16 x.f4).wf = true ∧ (Lit.int .u8 x.f5).wf = true ∧ (Lit.int .u8 x.f6).wf = true)) → ∃ k, garderobelaw07_PoolOne.f k l0 = some true
end Go.Proofs.Ytechlmlokgjlnaa.PPoolOne
