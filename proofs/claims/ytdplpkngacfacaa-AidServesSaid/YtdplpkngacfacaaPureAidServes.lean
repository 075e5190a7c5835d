/- What serves a version serves each one of the same major and a lesser minor number; each serves itself: for all versions. -/
import Derived.Test.YtdplpkngacfacaaEAidServes
import Derived.Test.YtdplpkngacfacaaQAidServes
import Derived.Test.YtdplpkngacfacaaQAidServes
namespace Go.Proofs.Ytdplpkngacfacaa.Pure
open Go Go.RowKit Go.Proofs.YtdplpkngacfacaaW.Mine Go.Proofs.Ytdplpkngacfacaa.PAidServes Go.Proofs.YtdplpkngacfacaaW.PrintWords Go.Proofs.YtdplpkngacfacaaW.PrintLast Go.Proofs.YtdplpkngacfacaaW.PrintMore Go.Proofs.YtdplpkngacfacaaW.Spec Go.Proofs.Ytdplpkngacfacaa.EAidServes

theorem works_AidServes : garderobelaw03_works.f 60 = some true := by decide +kernel
theorem serves_eq (a b c d : Int) : aid_Serves.f a b c d = some (decide (a = c ∧ d ≤ b)) := by
  unfold aid_Serves.f
  by_cases h : a = c
  · simp [h]
  · simp [h]
theorem AidServes : garderobelaw03_AidServes.PureQ := by
  intro a b c d l ha hb hc hd hl
  refine ⟨60, ?_⟩
  unfold garderobelaw03_AidServes.f
  simp only [serves_eq, Option.bind_some, works_AidServes]
  by_cases h : a = c ∧ d ≤ b
  · have : a = c ∧ mn l d ≤ b := ⟨h.1, by unfold mn; split <;> omega⟩
    simp [h, this]
  · simp [h]

end Go.Proofs.Ytdplpkngacfacaa.Pure
