/- Of two that are not the same just one is ahead; what is ahead of one that is ahead is ahead: for all bytes. -/
import Derived.Test.YtdplpkngacfacaaEAidOrder
import Derived.Test.YtdplpkngacfacaaPAidOrderx3
import Derived.Test.YtdplpkngacfacaaSpecCmp
set_option linter.unusedSimpArgs false
set_option linter.unusedVariables false
namespace Go.Proofs.Ytdplpkngacfacaa.Pure
open Go Go.RowKit Go.Lib Go.Proofs.YtdplpkngacfacaaW.Mine Go.Proofs.Ytdplpkngacfacaa.PAidOrder Go.Proofs.YtdplpkngacfacaaW.PrintWords Go.Proofs.YtdplpkngacfacaaW.PrintLast Go.Proofs.YtdplpkngacfacaaW.Spec Go.Proofs.Ytdplpkngacfacaa.EAidOrder

theorem works_AidOrder : garderobelaw03_works.f 60 = some true := by decide +kernel
theorem works_more_AidOrder {k : Nat} (h : 60 ≤ k) : garderobelaw03_works.f k = some true := at_rounds garderobelaw03_works.mono h works_AidOrder
theorem ahead_AidOrder (a b : List Int) : aid_Ahead.f a b = some (decide (compareBytes (Go.Lib.bytesOf a) (Go.Lib.bytesOf b) < 0)) := rfl
theorem same_AidOrder (a b : List Int) : aid_Same.f a b = some (decide (Go.Lib.bytesOf a = Go.Lib.bytesOf b)) := by
  unfold aid_Same.f bytes_Equal.f
  simp only [Option.bind_some, Lib.strOfNums_toList]
  congr 1
  by_cases h : Go.Lib.bytesOf a = Go.Lib.bytesOf b
  · simp [h]
  · simp [h]
theorem AidOrder : garderobelaw03_AidOrder.Pure := by
  intro a b c _ _ _ _ _ _ _ _ _
  obtain ⟨K, hK⟩ : ∃ K : Nat, 100 ≤ K := ⟨100, Nat.le_refl _⟩
  refine ⟨K + 3, ?_⟩
  have tail : garderobelaw03_AidOrder.j2 (K + 1) a b c 1 = some true := by
    simp only [garderobelaw03_AidOrder.j2]
    rw [if_pos (by simp), ahead_AidOrder, ahead_AidOrder, ahead_AidOrder, works_more_AidOrder (by omega)]
    simp only [Option.bind_some]
    by_cases h1 : compareBytes (Go.Lib.bytesOf a) (Go.Lib.bytesOf b) < 0
    · by_cases h2 : compareBytes (Go.Lib.bytesOf b) (Go.Lib.bytesOf c) < 0
      · have h3 := cb_trans _ _ _ h1 h2
        simp [h1, h2, h3]
      · simp [h1, h2]
    · simp [h1]
  have w1 : wrap64 (0 + 1) = 1 := by simp [wrap64]
  unfold garderobelaw03_AidOrder.f
  rw [ahead_AidOrder]
  simp only [Option.bind_some, garderobelaw03_AidOrder.j0, garderobelaw03_AidOrder.j1, ahead_AidOrder, same_AidOrder]
  have hanti := cb_anti (Go.Lib.bytesOf a) (Go.Lib.bytesOf b)
  have heq := cb_eq (Go.Lib.bytesOf a) (Go.Lib.bytesOf b)
  rcases cb_cases (Go.Lib.bytesOf a) (Go.Lib.bytesOf b) with h | h | h
  · have h2 : ¬ compareBytes (Go.Lib.bytesOf b) (Go.Lib.bytesOf a) < 0 := by omega
    have h3 : ¬ Go.Lib.bytesOf a = Go.Lib.bytesOf b := fun e => by have := heq.2 e; omega
    simp only [h, h2, h3]
    simpa using tail
  · have h2 : ¬ compareBytes (Go.Lib.bytesOf b) (Go.Lib.bytesOf a) < 0 := by omega
    have h3 : Go.Lib.bytesOf a = Go.Lib.bytesOf b := heq.1 h
    simp only [h, h2, h3, w1]
    rw [h3] at h2
    simp only [h2]
    simpa [w1] using tail
  · have h2 : compareBytes (Go.Lib.bytesOf b) (Go.Lib.bytesOf a) < 0 := by omega
    have h3 : ¬ Go.Lib.bytesOf a = Go.Lib.bytesOf b := fun e => by have := heq.2 e; omega
    simp only [h, h2, h3, w1]
    simpa [w1] using tail

end Go.Proofs.Ytdplpkngacfacaa.Pure
