/- What is to be shown of the law EndsBack: over numbers and lists alone. -/
import Derived.Test.YtaegfbfmniohaaaPEndsBackx2
namespace Go.Proofs.Ytaegfbfmniohaaa.PEndsBack
open Go Go.RowKit Go.Proofs.YtaegfbfmniohaaaW.PrintWords
def garderobelaw02_EndsBack.PureQ : Prop := ∀ (a0 : Int) (a1 : Int) (l2 : List Int) (l3 : List Int) (l4 : List Int), (Lit.int .u32 a0).wf = true → (Lit.int .i64 a1).wf = true → (l2.length ≤ maxLen ∧ l2.length * 1 ≤ 140737488351232 ∧ ∀ x ∈ l2, (Lit.int .u8 x).wf = true) → (l3.length ≤ maxLen ∧ l3.length * 1 ≤ 140737488351232 ∧ ∀ x ∈ l3, (Lit.int .u8 x).wf = true) → (l4.length ≤ maxLen ∧ l4.length * 1 ≤ 140737488351232 ∧ ∀ x ∈ l4, (Lit.int .u8 x).wf = true) → l2.length + l3.length + l4.length ≤ 1048576 → ∃ k, garderobelaw02_EndsBack.f k a0 a1 l2 l3 l4 = some true
end Go.Proofs.Ytaegfbfmniohaaa.PEndsBack
