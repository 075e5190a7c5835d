/- What is to be shown of the law AidBack: over numbers and lists alone. -/
import Derived.Test.YtdplpkngacfacaaPAidBackx3
namespace Go.Proofs.Ytdplpkngacfacaa.PAidBack
open Go Go.RowKit Go.Proofs.YtdplpkngacfacaaW.PrintWords
def garderobelaw03_AidBack.PureQ : Prop := ∀ (l0 : List Int) (l1 : List Int) (l2 : List Int), (l0.length ≤ maxLen ∧ l0.length * 1 ≤ 140737488351232 ∧ ∀ x ∈ l0, (Lit.int .u8 x).wf = true) → (l1.length ≤ maxLen ∧ l1.length * 1 ≤ 140737488351232 ∧ ∀ x ∈ l1, (Lit.int .u8 x).wf = true) → (l2.length ≤ maxLen ∧ l2.length * 1 ≤ 140737488351232 ∧ ∀ x ∈ l2, (Lit.int .u8 x).wf = true) → l0.length + l1.length + l2.length ≤ 1048576 → ∃ k, garderobelaw03_AidBack.f k l0 l1 l2 = some true
end Go.Proofs.Ytdplpkngacfacaa.PAidBack
