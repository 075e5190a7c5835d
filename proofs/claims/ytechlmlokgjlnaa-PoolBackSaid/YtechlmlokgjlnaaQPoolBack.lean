/- What is to be shown of the law PoolBack: over numbers and lists alone. -/
import Derived.Test.YtechlmlokgjlnaaPPoolBackx4
namespace Go.Proofs.Ytechlmlokgjlnaa.PPoolBack
open Go Go.RowKit Go.Proofs.YtechlmlokgjlnaaW.PrintWords
def garderobelaw07_PoolBack.PureQ : Prop := ∀ (l0 : List (S43)) (l1 : List Int) (a2 : Int), (l0.length ≤ maxLen ∧ l0.length * 10 ≤ 140737488351232 ∧ ∀ x ∈ l0, ((Lit.int .u8 x.f0).wf = true ∧ (Lit.int .u16 x.f1).wf = true ∧ (Lit.int .u8 x.f2).wf = true ∧ True ∧ (Lit.int .u16 x.f4).wf = true ∧ (Lit.int .u8 x.f5).wf = true ∧ (Lit.int .u8 x.f6).wf = true)) → (l1.length ≤ maxLen ∧ l1.length * 1 ≤ 140737488351232 ∧ ∀ x ∈ l1, (Lit.int .u8 x).wf = true) → (Lit.int .u16 a2).wf = true → ∃ k, garderobelaw07_PoolBack.f k l0 l1 a2 = some true
end Go.Proofs.Ytechlmlokgjlnaa.PPoolBack
