/- What is got is put as the same bytes: for all bytes, places and sizes. -/
import Derived.Test.YtaegfbfmniohaaaEEndsOnce
namespace Go.Proofs.Ytaegfbfmniohaaa.Pure
open Go Go.RowKit Go.Proofs.YtaegfbfmniohaaaW.Mine Go.Proofs.Ytaegfbfmniohaaa.PEndsOnce Go.Proofs.YtaegfbfmniohaaaW.PrintWords Go.Proofs.YtaegfbfmniohaaaW.PrintLast Go.Proofs.YtaegfbfmniohaaaW.Spec Go.Proofs.Ytaegfbfmniohaaa.EEndsOnce

theorem lives_EndsOnce : garderobelaw02_lives.f 40 = some true := by decide +kernel
theorem lives_more_EndsOnce {k : Nat} (h : 40 ≤ k) : garderobelaw02_lives.f k = some true := at_rounds garderobelaw02_lives.mono h lives_EndsOnce
theorem EndsOnce : garderobelaw02_EndsOnce.Pure := by
  intro l a s hm hl hb ha hs
  have ha := wf_i64 ha
  have hs := wf_i64 hs
  have hb := bytes_of_wf hb
  have hr := get_range hb a s
  refine ⟨60, ?_⟩
  unfold garderobelaw02_EndsOnce.f
  rw [ends_Get_eq _ (by omega) l hb a s (by omega) ha hs]
  simp only [Option.bind_some]
  by_cases he : (getS l a s).2 = 0
  · rw [if_pos he, ends_Put_eq _ (by omega) _ s hr.1 hr.2.1]
    simp only [Option.bind_some]
    by_cases ho : okSize s = true
    · have hp : (partS l a s).2 = 0 := by unfold getS at he; rw [if_pos ho] at he; exact he
      have hv : (getS l a s).1 = val (partS l a s).1 := by unfold getS; rw [if_pos ho]
      obtain ⟨e1, e2⟩ := be_val hb ho hp
      obtain ⟨p1, p2, p3, p4, p5⟩ := part_length hp
      have hput : putS (getS l a s).1 s = ((partS l a s).1, 0) := by
        unfold putS
        rw [hv, if_pos e2, e1]
      rw [if_neg (by omega), if_neg (by omega), if_neg (by omega), wrap_id (n := (l.length : Int) - a) (by omega) (by omega), hput]
      rw [show (decide (s > (l.length : Int) - a)) = false from decide_eq_false (by omega)]
      simp only [garderobelaw02_EndsOnce.j0]
      rw [if_neg (by decide), if_pos (by simp), wrap_id (n := a + s) (by omega) (by omega), if_pos (by omega), if_pos (by omega), if_pos (by omega)]
      have hcut : (l.take (a + s).toNat).drop a.toNat = (partS l a s).1 := by rw [p4, List.drop_take]; congr 1; omega
      have hlen : (partS l a s).1.length ≤ 4 := by
        simp [okSize] at ho; omega
      rw [hcut, Same_refl _ _ (by omega) (by omega), lives_more_EndsOnce (by omega)]
      simp
    · unfold getS at he
      rw [if_neg ho] at he
      simp at he
  · have hz : (getS l a s).1 = 0 := by
      unfold getS at he ⊢
      split
      · rename_i ho
        rw [if_pos ho] at he
        rw [part_err he]; rfl
      · rfl
    rw [if_neg he, if_pos hz, lives_more_EndsOnce (by omega)]
    simp

end Go.Proofs.Ytaegfbfmniohaaa.Pure
