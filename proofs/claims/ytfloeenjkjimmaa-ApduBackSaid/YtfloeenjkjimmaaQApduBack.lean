/- What is to be shown of the law ApduBack: over numbers and lists alone. -/
import Derived.Test.YtfloeenjkjimmaaPApduBackx5
namespace Go.Proofs.Ytfloeenjkjimmaa.PApduBack
open Go Go.RowKit Go.Proofs.YtfloeenjkjimmaaW.PrintWords
def garderobelaw28_ApduBack.PureQ : Prop := ∀ (a0_0 : Int) (a0_1 : Int) (a0_2 : Int) (a0_3 : Int) (a0_4 : Int) (l0_5 : List Int) (a0_6 : Int) (l1 : List Int) (l2 : List Int) (a3 : Int), (Lit.int .i64 a0_0).wf = true → (Lit.int .u8 a0_1).wf = true → (Lit.int .u8 a0_2).wf = true → (Lit.int .u8 a0_3).wf = true → (Lit.int .u8 a0_4).wf = true → (l0_5.length ≤ maxLen ∧ l0_5.length * 1 ≤ 140737488351232 ∧ ∀ x ∈ l0_5, (Lit.int .u8 x).wf = true) → (Lit.int .i64 a0_6).wf = true → (l1.length ≤ maxLen ∧ l1.length * 1 ≤ 140737488351232 ∧ ∀ x ∈ l1, (Lit.int .u8 x).wf = true) → (l2.length ≤ maxLen ∧ l2.length * 1 ≤ 140737488351232 ∧ ∀ x ∈ l2, (Lit.int .u8 x).wf = true) → (Lit.int .u16 a3).wf = true → ∃ k, garderobelaw28_ApduBack.f k a0_0 a0_1 a0_2 a0_3 a0_4 l0_5 a0_6 l1 l2 a3 = some true
end Go.Proofs.Ytfloeenjkjimmaa.PApduBack
