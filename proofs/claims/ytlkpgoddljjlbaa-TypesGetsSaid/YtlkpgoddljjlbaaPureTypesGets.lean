/- The type, the signature, at whatever place of whatever bytes, and the place behind, are the document's, or its error: for all bytes and places. -/
import Derived.Test.YtlkpgoddljjlbaaETypesGets
import Derived.Test.YtlkpgoddljjlbaaPTypesGetsx6
namespace Go.Proofs.Ytlkpgoddljjlbaa.Pure
open Go Go.RowKit Go.Proofs.YtlkpgoddljjlbaaW.Mine Go.Proofs.Ytlkpgoddljjlbaa.PTypesGets Go.Proofs.YtlkpgoddljjlbaaW.PrintWords Go.Proofs.YtlkpgoddljjlbaaW.PrintLast Go.Proofs.YtlkpgoddljjlbaaW.Spec Go.Proofs.Ytlkpgoddljjlbaa.ETypesGets

theorem works_TypesGets : garderobelaw04_works.f 80 = some true := by decide +kernel
theorem TypesGets : garderobelaw04_TypesGets.Pure := by
  intro l a _ hl hb ha
  have ha := wf_i64 ha
  have hb := bytes_of_wf hb
  refine ⟨80, ?_⟩
  unfold garderobelaw04_TypesGets.f
  have hlen := getSig_len l a
  rw [types_Get_eq _ (by omega) l hb a (by omega) ha, ref4_Get_eq _ (by omega) l hb a (by omega) ha, types_GetSig_eq _ (by omega) l hb a (by omega) ha, ref4_GetSig_eq _ (by omega) l hb a (by omega) ha]
  simp only [Option.bind_some]
  rw [Types_refl _ _ (by simp; omega) (by simp; omega), works_TypesGets]
  simp

end Go.Proofs.Ytlkpgoddljjlbaa.Pure
