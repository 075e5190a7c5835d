/- What is to be shown of the law TypesPuts: over numbers and lists alone. -/
import Derived.Test.YtlkpgoddljjlbaaPTypesPutsx6
namespace Go.Proofs.Ytlkpgoddljjlbaa.PTypesPuts
open Go Go.RowKit Go.Proofs.YtlkpgoddljjlbaaW.PrintWords
def garderobelaw04_TypesPuts.PureQ : Prop := ∀ (a0_0 : Int) (a0_1 : Int) (l1_0 : List (S25)) (a1_1 : Int) (a1_2 : Int), (Lit.int .u8 a0_0).wf = true → (Lit.int .u16 a0_1).wf = true → (l1_0.length ≤ maxLen ∧ l1_0.length * 4 ≤ 140737488351232 ∧ ∀ x ∈ l1_0, ((Lit.int .u8 x.f0).wf = true ∧ (Lit.int .u16 x.f1).wf = true)) → (Lit.int .u8 a1_1).wf = true → (Lit.int .u16 a1_2).wf = true → ∃ k, garderobelaw04_TypesPuts.f k a0_0 a0_1 l1_0 a1_1 a1_2 = some true
end Go.Proofs.Ytlkpgoddljjlbaa.PTypesPuts
