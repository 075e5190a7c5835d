/- What is to be shown of the law ApduAnswers: over numbers and lists alone. -/
import Derived.Test.YtfloeenjkjimmaaPApduAnswersx4
namespace Go.Proofs.Ytfloeenjkjimmaa.PApduAnswers
open Go Go.RowKit Go.Proofs.YtfloeenjkjimmaaW.PrintWords
def garderobelaw28_ApduAnswers.PureQ : Prop := ∀ (l0 : List Int) (a1 : Int) (l2 : List Int) (a3_0 : Int) (a3_1 : Int) (a3_2 : Int) (a3_3 : Int) (a3_4 : Int) (l3_5 : List Int) (a3_6 : Int), (l0.length ≤ maxLen ∧ l0.length * 1 ≤ 140737488351232 ∧ ∀ x ∈ l0, (Lit.int .u8 x).wf = true) → (Lit.int .u16 a1).wf = true → (l2.length ≤ maxLen ∧ l2.length * 1 ≤ 140737488351232 ∧ ∀ x ∈ l2, (Lit.int .u8 x).wf = true) → (Lit.int .i64 a3_0).wf = true → (Lit.int .u8 a3_1).wf = true → (Lit.int .u8 a3_2).wf = true → (Lit.int .u8 a3_3).wf = true → (Lit.int .u8 a3_4).wf = true → (l3_5.length ≤ maxLen ∧ l3_5.length * 1 ≤ 140737488351232 ∧ ∀ x ∈ l3_5, (Lit.int .u8 x).wf = true) → (Lit.int .i64 a3_6).wf = true → ∃ k, garderobelaw28_ApduAnswers.f k l0 a1 l2 a3_0 a3_1 a3_2 a3_3 a3_4 l3_5 a3_6 = some true
end Go.Proofs.Ytfloeenjkjimmaa.PApduAnswers
