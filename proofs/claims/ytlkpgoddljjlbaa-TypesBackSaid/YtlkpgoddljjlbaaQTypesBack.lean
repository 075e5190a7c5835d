/- What is to be shown of the law TypesBack: over numbers and lists alone. -/
import Derived.Test.YtlkpgoddljjlbaaPTypesBackx5
namespace Go.Proofs.Ytlkpgoddljjlbaa.PTypesBack
open Go Go.RowKit Go.Proofs.YtlkpgoddljjlbaaW.PrintWords
def garderobelaw04_TypesBack.PureQ : Prop := ∀ (l0_0 : List (S25)) (a0_1 : Int) (a0_2 : Int) (l1 : List Int) (l2 : List Int), (l0_0.length ≤ maxLen ∧ l0_0.length * 4 ≤ 140737488351232 ∧ ∀ x ∈ l0_0, ((Lit.int .u8 x.f0).wf = true ∧ (Lit.int .u16 x.f1).wf = true)) → (Lit.int .u8 a0_1).wf = true → (Lit.int .u16 a0_2).wf = true → (l1.length ≤ maxLen ∧ l1.length * 1 ≤ 140737488351232 ∧ ∀ x ∈ l1, (Lit.int .u8 x).wf = true) → (l2.length ≤ maxLen ∧ l2.length * 1 ≤ 140737488351232 ∧ ∀ x ∈ l2, (Lit.int .u8 x).wf = true) → ∃ k, garderobelaw04_TypesBack.f k l0_0 a0_1 a0_2 l1 l2 = some true
end Go.Proofs.Ytlkpgoddljjlbaa.PTypesBack
