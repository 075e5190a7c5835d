/- What is to be shown of the law AidServes: over numbers and lists alone. -/
import Derived.Test.YtdplpkngacfacaaPAidServesx3
namespace Go.Proofs.Ytdplpkngacfacaa.PAidServes
open Go Go.RowKit Go.Proofs.YtdplpkngacfacaaW.PrintWords
def garderobelaw03_AidServes.PureQ : Prop := ∀ (a0_0 : Int) (a0_1 : Int) (a1_0 : Int) (a1_1 : Int) (a2 : Int), (Lit.int .u8 a0_0).wf = true → (Lit.int .u8 a0_1).wf = true → (Lit.int .u8 a1_0).wf = true → (Lit.int .u8 a1_1).wf = true → (Lit.int .u8 a2).wf = true → ∃ k, garderobelaw03_AidServes.f k a0_0 a0_1 a1_0 a1_1 a2 = some true
end Go.Proofs.Ytdplpkngacfacaa.PAidServes
