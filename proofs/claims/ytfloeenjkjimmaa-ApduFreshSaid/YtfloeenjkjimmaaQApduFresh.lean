/- What is to be shown of the law ApduFresh: over numbers and lists alone. -/
import Derived.Test.YtfloeenjkjimmaaPApduFreshx6
namespace Go.Proofs.Ytfloeenjkjimmaa.PApduFresh
open Go Go.RowKit Go.Proofs.YtfloeenjkjimmaaW.PrintWords
def garderobelaw28_ApduFresh.PureQ : Prop := ∀ (l0 : List Int) (a1_0 : Int) (a1_1 : Int) (a1_2 : Int) (a1_3 : Int) (a1_4 : Int) (l1_5 : List Int) (a1_6 : Int), (l0.length ≤ maxLen ∧ l0.length * 1 ≤ 140737488351232 ∧ ∀ x ∈ l0, (Lit.int .u8 x).wf = true) → (Lit.int .i64 a1_0).wf = true → (Lit.int .u8 a1_1).wf = true → (Lit.int .u8 a1_2).wf = true → (Lit.int .u8 a1_3).wf = true → (Lit.int .u8 a1_4).wf = true → (l1_5.length ≤ maxLen ∧ l1_5.length * 1 ≤ 140737488351232 ∧ ∀ x ∈ l1_5, (Lit.int .u8 x).wf = true) → (Lit.int .i64 a1_6).wf = true → ∃ k, garderobelaw28_ApduFresh.f k l0 a1_0 a1_1 a1_2 a1_3 a1_4 l1_5 a1_6 = some true
end Go.Proofs.Ytfloeenjkjimmaa.PApduFresh
