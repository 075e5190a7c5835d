/- What a reference says, and the one that says it, are the document's, or its error: for all references and numbers. -/
import Derived.Test.YtechlmlokgjlnaaEPoolRefs
import Derived.Test.YtechlmlokgjlnaaPPoolRefsx2
set_option linter.unusedSimpArgs false
set_option linter.unusedVariables false
namespace Go.Proofs.Ytechlmlokgjlnaa.Pure
open Go Go.RowKit Go.Proofs.YtechlmlokgjlnaaW.Mine Go.Proofs.Ytechlmlokgjlnaa.PPoolRefs Go.Proofs.YtechlmlokgjlnaaW.PrintWords Go.Proofs.YtechlmlokgjlnaaW.PrintLast Go.Proofs.YtechlmlokgjlnaaW.Spec Go.Proofs.Ytechlmlokgjlnaa.EPoolRefs

theorem works_PoolRefs : garderobelaw07_works.f 60 = some true := by decide +kernel
theorem PoolRefs : garderobelaw07_PoolRefs.Pure := by
  intro a i n t ha hn ht
  have ha := wf_u16 ha
  refine ⟨60, ?_⟩
  unfold garderobelaw07_PoolRefs.f
  rw [pool_Split_eq a ha.1 (by omega), ref7_Split_eq a ha.1 (by omega), pool_Ref_eq, ref7_Ref_eq _ (by omega), works_PoolRefs]
  simp

end Go.Proofs.Ytechlmlokgjlnaa.Pure
