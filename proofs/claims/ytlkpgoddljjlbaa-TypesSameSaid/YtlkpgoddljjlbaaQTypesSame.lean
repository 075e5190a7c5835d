/- What is to be shown of the law TypesSame: over numbers and lists alone. -/
import Derived.Test.YtlkpgoddljjlbaaPTypesSamex5
namespace Go.Proofs.Ytlkpgoddljjlbaa.PTypesSame
open Go Go.RowKit Go.Proofs.YtlkpgoddljjlbaaW.PrintWords
def garderobelaw04_TypesSame.PureQ : Prop := ∀ (l0_0 : List (S25)) (a0_1 : Int) (a0_2 : Int) (l1_0 : List (S25)) (a1_1 : Int) (a1_2 : Int) (a2 : Int), (l0_0.length ≤ maxLen ∧ l0_0.length * 4 ≤ 140737488351232 ∧ ∀ x ∈ l0_0, ((Lit.int .u8 x.f0).wf = true ∧ (Lit.int .u16 x.f1).wf = true)) → (Lit.int .u8 a0_1).wf = true → (Lit.int .u16 a0_2).wf = true → (l1_0.length ≤ maxLen ∧ l1_0.length * 4 ≤ 140737488351232 ∧ ∀ x ∈ l1_0, ((Lit.int .u8 x.f0).wf = true ∧ (Lit.int .u16 x.f1).wf = true)) → (Lit.int .u8 a1_1).wf = true → (Lit.int .u16 a1_2).wf = true → (Lit.int .u8 a2).wf = true → ∃ k, garderobelaw04_TypesSame.f k l0_0 a0_1 a0_2 l1_0 a1_1 a1_2 a2 = some true
end Go.Proofs.Ytlkpgoddljjlbaa.PTypesSame
