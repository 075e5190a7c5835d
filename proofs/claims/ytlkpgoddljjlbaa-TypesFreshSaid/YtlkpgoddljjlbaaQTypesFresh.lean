/- What is to be shown of the law TypesFresh: over numbers and lists alone. -/
import Derived.Test.YtlkpgoddljjlbaaPTypesFreshx5
namespace Go.Proofs.Ytlkpgoddljjlbaa.PTypesFresh
open Go Go.RowKit Go.Proofs.YtlkpgoddljjlbaaW.PrintWords
def garderobelaw04_TypesFresh.PureQ : Prop := ∀ (l0_0 : List (S25)) (a0_1 : Int) (a0_2 : Int) (l1 : List Int) (a2 : Int), (l0_0.length ≤ maxLen ∧ l0_0.length * 4 ≤ 140737488351232 ∧ ∀ x ∈ l0_0, ((Lit.int .u8 x.f0).wf = true ∧ (Lit.int .u16 x.f1).wf = true)) → (Lit.int .u8 a0_1).wf = true → (Lit.int .u16 a0_2).wf = true → (l1.length ≤ maxLen ∧ l1.length * 1 ≤ 140737488351232 ∧ ∀ x ∈ l1, (Lit.int .u8 x).wf = true) → (Lit.int .i64 a2).wf = true → ∃ k, garderobelaw04_TypesFresh.f k l0_0 a0_1 a0_2 l1 a2 = some true
end Go.Proofs.Ytlkpgoddljjlbaa.PTypesFresh
