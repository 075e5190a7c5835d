/- What is handed in stays, the room behind it, too; what is answered is new memory: for all bytes and places. -/
import Derived.Test.YtdplpkngacfacaaEAidFresh
import Derived.Test.YtdplpkngacfacaaPAidFreshx4
set_option linter.unusedSimpArgs false
set_option linter.unusedVariables false
namespace Go.Proofs.Ytdplpkngacfacaa.Pure
open Go Go.RowKit Go.Proofs.YtdplpkngacfacaaW.Mine Go.Proofs.Ytdplpkngacfacaa.PAidFresh Go.Proofs.YtdplpkngacfacaaW.PrintWords Go.Proofs.YtdplpkngacfacaaW.PrintLast Go.Proofs.YtdplpkngacfacaaW.Spec Go.Proofs.Ytdplpkngacfacaa.EAidFresh

theorem works_AidFresh : garderobelaw03_works.f 60 = some true := by decide +kernel
theorem works_more_AidFresh {k : Nat} (h : 60 ≤ k) : garderobelaw03_works.f k = some true := at_rounds garderobelaw03_works.mono h works_AidFresh
theorem issuer_AidFresh (a b : List Int) : ∃ r, aid_Issuer.f a b = some r := by
  unfold aid_Issuer.f
  rw [aid_May_eq, aid_May_eq]
  simp only [Option.bind_some]
  split
  · split
    · exact ⟨_, rfl⟩
    · exact ⟨_, rfl⟩
  · exact ⟨_, rfl⟩
theorem AidFresh : garderobelaw03_AidFresh.Pure := by
  intro l a hm hl hb ha
  have ha := wf_i64 ha
  have hb := bytes_of_wf hb
  obtain ⟨r, hr⟩ := issuer_AidFresh l l
  refine ⟨l.length + 100, ?_⟩
  unfold garderobelaw03_AidFresh.f
  rw [Wide_eq _ l (by omega)]
  simp only [Option.bind_some]
  rw [aid_Put_eq _ (by omega) l (by omega), aid_Get_eq _ (by omega) l hb a (by omega) ha, hr, Left_eq _ l (by omega), works_more_AidFresh (by omega)]
  simp [Spoil_eq]

end Go.Proofs.Ytdplpkngacfacaa.Pure
