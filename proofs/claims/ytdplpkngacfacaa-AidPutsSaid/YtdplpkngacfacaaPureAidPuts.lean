/- What is a name, its row, and the name at whatever place of whatever bytes, are the document's, or its error: for all bytes and places. -/
import Derived.Test.YtdplpkngacfacaaEAidPuts
import Derived.Test.YtdplpkngacfacaaPAidPutsx5
namespace Go.Proofs.Ytdplpkngacfacaa.Pure
open Go Go.RowKit Go.Proofs.YtdplpkngacfacaaW.Mine Go.Proofs.Ytdplpkngacfacaa.PAidPuts Go.Proofs.YtdplpkngacfacaaW.PrintWords Go.Proofs.YtdplpkngacfacaaW.PrintLast Go.Proofs.YtdplpkngacfacaaW.Spec Go.Proofs.Ytdplpkngacfacaa.EAidPuts

theorem works_AidPuts : garderobelaw03_works.f 60 = some true := by decide +kernel
theorem works_more_AidPuts {k : Nat} (h : 60 ≤ k) : garderobelaw03_works.f k = some true := at_rounds garderobelaw03_works.mono h works_AidPuts
theorem AidPuts : garderobelaw03_AidPuts.Pure := by
  intro b c a _ hbl hb _ hcl hc ha
  have ha := wf_i64 ha
  have hb := bytes_of_wf hb
  have hc := bytes_of_wf hc
  refine ⟨400, ?_⟩
  unfold garderobelaw03_AidPuts.f
  have l1 := aidPut_len b
  have l2 := aidGet_len hc a
  rw [aid_Put_eq _ (by omega) b (by omega), ref3_Put_eq _ (by omega) b (by omega), aid_Get_eq _ (by omega) c hc a (by omega) ha, ref3_Get_eq _ (by omega) c hc a (by omega) ha]
  simp only [Option.bind_some]
  rw [aid_May_eq, ref3_May_eq, Same_refl _ _ (by omega) (by omega), Same_refl _ _ (by omega) (by omega), works_more_AidPuts (by omega)]
  simp

end Go.Proofs.Ytdplpkngacfacaa.Pure
