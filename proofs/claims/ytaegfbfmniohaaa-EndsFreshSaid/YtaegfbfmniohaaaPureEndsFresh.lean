/- What is answered is new memory: for all bytes, places and numbers. -/
import Derived.Test.YtaegfbfmniohaaaEEndsFresh
import Derived.Test.YtaegfbfmniohaaaPEndsFreshx3
set_option linter.unusedSimpArgs false
set_option linter.unusedVariables false
namespace Go.Proofs.Ytaegfbfmniohaaa.Pure
open Go Go.RowKit Go.Proofs.YtaegfbfmniohaaaW.Mine Go.Proofs.Ytaegfbfmniohaaa.PEndsFresh Go.Proofs.YtaegfbfmniohaaaW.PrintWords Go.Proofs.YtaegfbfmniohaaaW.PrintLast Go.Proofs.YtaegfbfmniohaaaW.Spec Go.Proofs.Ytaegfbfmniohaaa.EEndsFresh

theorem lives_EndsFresh : garderobelaw02_lives.f 60 = some true := by decide +kernel
theorem lives_more_EndsFresh {k : Nat} (h : 60 ≤ k) : garderobelaw02_lives.f k = some true := at_rounds garderobelaw02_lives.mono h lives_EndsFresh
theorem EndsFresh : garderobelaw02_EndsFresh.Pure := by
  intro l a n hm hl hb ha hn
  have ha := wf_i64 ha
  have hn := wf_i64 hn
  refine ⟨l.length + 100, ?_⟩
  have hp : (partS l a n).1.length ≤ l.length := by
    unfold partS
    split
    · simp
    · split
      · simp
      · simp only [List.length_take, List.length_drop]; omega
  unfold garderobelaw02_EndsFresh.f
  rw [Copy_eq l (by omega), ends_Part_eq _ (by omega) l a n (by omega) ha hn, ends_PutRow_eq _ (by omega) l 2 (by omega)]
  simp only [Option.bind_some, Spoil_eq]
  rw [ref_Part_eq _ (by omega) l a n (by omega) ha hn, Option.bind_some]
  have h2 : ((putRowS l 2).2 == 0) = decide ((l.length : Int) < 65536) := by
    unfold putRowS
    rw [if_neg (by omega)]
    by_cases h : 65536 ≤ l.length
    · rw [if_pos (.inr h), decide_eq_false (by omega)]; rfl
    · rw [if_neg (by omega), decide_eq_true (by omega)]; rfl
  rw [Same_refl _ (partS l a n).1 (by omega) (by omega), Same_refl _ l (by omega) (by omega), h2, lives_more_EndsFresh (by omega)]
  simp

end Go.Proofs.Ytaegfbfmniohaaa.Pure
