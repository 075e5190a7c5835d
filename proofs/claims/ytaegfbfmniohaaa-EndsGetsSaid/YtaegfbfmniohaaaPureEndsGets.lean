/- The number, and the part, at any place of any bytes is the document's, or its error; what is handed in stays: for all bytes, places, sizes and numbers. -/
import Derived.Test.YtaegfbfmniohaaaEEndsGets
import Derived.Test.YtaegfbfmniohaaaPEndsGetsx3
set_option linter.unusedSimpArgs false
set_option linter.unusedVariables false
namespace Go.Proofs.Ytaegfbfmniohaaa.Pure
open Go Go.RowKit Go.Proofs.YtaegfbfmniohaaaW.Mine Go.Proofs.Ytaegfbfmniohaaa.PEndsGets Go.Proofs.YtaegfbfmniohaaaW.PrintWords Go.Proofs.YtaegfbfmniohaaaW.PrintLast Go.Proofs.YtaegfbfmniohaaaW.Spec Go.Proofs.Ytaegfbfmniohaaa.EEndsGets

theorem lives_EndsGets : garderobelaw02_lives.f 60 = some true := by decide +kernel
theorem lives_more_EndsGets {k : Nat} (h : 60 ≤ k) : garderobelaw02_lives.f k = some true := at_rounds garderobelaw02_lives.mono h lives_EndsGets
theorem part_le_EndsGets (l : List Int) (a n : Int) : (partS l a n).1.length ≤ l.length := by
  unfold partS
  split
  · simp
  · split
    · simp
    · simp only [List.length_take, List.length_drop]; omega
theorem EndsGets : garderobelaw02_EndsGets.Pure := by
  intro l a s n hm hl hb ha hs hn
  have ha := wf_i64 ha
  have hs := wf_i64 hs
  have hn := wf_i64 hn
  have hb := bytes_of_wf hb
  have hp := part_le_EndsGets l a n
  refine ⟨l.length + 100, ?_⟩
  unfold garderobelaw02_EndsGets.f
  rw [Wide_eq _ l (by omega)]
  simp only [Option.bind_some]
  rw [ends_Get_eq _ (by omega) l hb a s (by omega) ha hs, ref_Get_eq _ (by omega) l hb a s (by omega) ha hs, ends_Part_eq _ (by omega) l a n (by omega) ha hn, ref_Part_eq _ (by omega) l a n (by omega) ha hn]
  simp only [Option.bind_some]
  rw [Same_refl _ (partS l a n).1 (by omega) (by omega), Left_eq _ l (by omega), lives_more_EndsGets (by omega)]
  simp

end Go.Proofs.Ytaegfbfmniohaaa.Pure
