/- Rows of any bytes, at any place, are the document's, or its error; what is handed in stays: for all bytes, places and sizes. -/
import Derived.Test.YtaegfbfmniohaaaEEndsRows
import Derived.Test.YtaegfbfmniohaaaPEndsRowsx4
set_option linter.unusedSimpArgs false
set_option linter.unusedVariables false
namespace Go.Proofs.Ytaegfbfmniohaaa.Pure
open Go Go.RowKit Go.Proofs.YtaegfbfmniohaaaW.Mine Go.Proofs.Ytaegfbfmniohaaa.PEndsRows Go.Proofs.YtaegfbfmniohaaaW.PrintWords Go.Proofs.YtaegfbfmniohaaaW.PrintLast Go.Proofs.YtaegfbfmniohaaaW.Spec Go.Proofs.Ytaegfbfmniohaaa.EEndsRows

theorem lives_EndsRows : garderobelaw02_lives.f 60 = some true := by decide +kernel
theorem lives_more_EndsRows {k : Nat} (h : 60 ≤ k) : garderobelaw02_lives.f k = some true := at_rounds garderobelaw02_lives.mono h lives_EndsRows
theorem part_le_EndsRows (l : List Int) (a n : Int) : (partS l a n).1.length ≤ l.length := by
  unfold partS
  split
  · simp
  · split
    · simp
    · simp only [List.length_take, List.length_drop]; omega
theorem row_le_EndsRows (l : List Int) (a s : Int) : (getRowS l a s).1.length ≤ l.length := by
  unfold getRowS
  split
  · simp
  · split
    · split
      · exact part_le_EndsRows _ _ _
      · simp
    · simp
theorem put_le_EndsRows (l : List Int) (s : Int) : (putRowS l s).1.length ≤ l.length + 4 := by
  unfold putRowS
  split
  · simp
  · split
    · simp
    · have := be_length l.length s
      simp only [List.length_append]
      split at this
      · omega
      · split at this <;> omega
theorem EndsRows : garderobelaw02_EndsRows.Pure := by
  intro l a s hm hl hb ha hs
  have ha := wf_i64 ha
  have hs := wf_i64 hs
  have hb := bytes_of_wf hb
  have hp := row_le_EndsRows l a s
  have hq := put_le_EndsRows l s
  refine ⟨l.length + 99 + 1, ?_⟩
  unfold garderobelaw02_EndsRows.f
  rw [Wide_eq _ l (by omega)]
  simp only [Option.bind_some]
  rw [ends_PutRow_eq _ (by omega) l s (by omega), ref_PutRow_eq _ (by omega) l s (by omega)]
  simp only [Option.bind_some]
  rw [Same_refl _ (putRowS l s).1 (by omega) (by omega)]
  simp only [Option.bind_some, if_true, bne_self_eq_false]
  rw [garderobelaw02_EndsRows.j0, if_neg (by decide)]
  rw [ends_GetRow_eq _ (by omega) l hb a s (by omega) ha, ref_GetRow_eq _ (by omega) l hb a s (by omega) ha]
  simp only [Option.bind_some]
  rw [Same_refl _ (getRowS l a s).1 (by omega) (by omega), Left_eq _ l (by omega), lives_more_EndsRows (by omega)]
  simp

end Go.Proofs.Ytaegfbfmniohaaa.Pure
