/- The bytes of any number, of any size, are the document's, or its error: for all 32-bit numbers and all sizes. -/
import Derived.Test.YtaegfbfmniohaaaEEndsPuts
namespace Go.Proofs.Ytaegfbfmniohaaa.Pure
open Go Go.RowKit Go.Proofs.YtaegfbfmniohaaaW.Mine Go.Proofs.Ytaegfbfmniohaaa.PEndsPuts Go.Proofs.YtaegfbfmniohaaaW.PrintWords Go.Proofs.YtaegfbfmniohaaaW.PrintLast Go.Proofs.YtaegfbfmniohaaaW.Spec Go.Proofs.Ytaegfbfmniohaaa.EEndsPuts

theorem lives_EndsPuts : garderobelaw02_lives.f 40 = some true := by decide +kernel
theorem EndsPuts : garderobelaw02_EndsPuts.Pure := by
  intro n s hn hs
  have hn := wf_u32 hn
  refine ⟨40, ?_⟩
  unfold garderobelaw02_EndsPuts.f
  rw [ends_Put_eq _ (by omega) n s hn.1 hn.2, ref_Put_eq _ (by omega) n s hn.1 hn.2]
  simp only [Option.bind_some]
  have hl : (putS n s).1.length ≤ 4 := by
    unfold putS
    split
    · have := be_length n s; split at this <;> (try split at this) <;> simp only [this] <;> omega
    · simp
  rw [Same_refl _ _ (by omega) (by omega), lives_EndsPuts]
  simp

end Go.Proofs.Ytaegfbfmniohaaa.Pure
