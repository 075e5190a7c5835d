/- What is to be shown of the law AidCompares: over numbers and lists alone. -/
import Derived.Test.YtdplpkngacfacaaPAidComparesx4
namespace Go.Proofs.Ytdplpkngacfacaa.PAidCompares
open Go Go.RowKit Go.Proofs.YtdplpkngacfacaaW.PrintWords
def garderobelaw03_AidCompares.PureQ : Prop := ∀ (l0 : List Int) (l1 : List Int) (a2_0 : Int) (a2_1 : Int) (a3_0 : Int) (a3_1 : Int), (l0.length ≤ maxLen ∧ l0.length * 1 ≤ 140737488351232 ∧ ∀ x ∈ l0, (Lit.int .u8 x).wf = true) → (l1.length ≤ maxLen ∧ l1.length * 1 ≤ 140737488351232 ∧ ∀ x ∈ l1, (Lit.int .u8 x).wf = true) → (Lit.int .u8 a2_0).wf = true → (Lit.int .u8 a2_1).wf = true → (Lit.int .u8 a3_0).wf = true → (Lit.int .u8 a3_1).wf = true → ∃ k, garderobelaw03_AidCompares.f k l0 l1 a2_0 a2_1 a3_0 a3_1 = some true
end Go.Proofs.Ytdplpkngacfacaa.PAidCompares
