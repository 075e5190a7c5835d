/- What is handed in stays, the room behind it, too; what is answered is new memory: for all signatures, bytes and places. -/
import Derived.Test.YtlkpgoddljjlbaaETypesFresh
import Derived.Test.YtlkpgoddljjlbaaQTypesFresh
set_option linter.unusedSimpArgs false
set_option linter.unusedVariables false
namespace Go.Proofs.Ytlkpgoddljjlbaa.Pure
open Go Go.RowKit Go.Proofs.YtlkpgoddljjlbaaW.Mine Go.Proofs.Ytlkpgoddljjlbaa.PTypesFresh Go.Proofs.YtlkpgoddljjlbaaW.PrintWords Go.Proofs.YtlkpgoddljjlbaaW.PrintLast Go.Proofs.YtlkpgoddljjlbaaW.Spec Go.Proofs.Ytlkpgoddljjlbaa.ETypesFresh

theorem works_TypesFresh : garderobelaw04_works.f 100 = some true := by decide +kernel
theorem works_more_TypesFresh {k : Nat} (h : 100 ≤ k) : garderobelaw04_works.f k = some true := at_rounds garderobelaw04_works.mono h works_TypesFresh
theorem TypesFresh : garderobelaw04_TypesFresh.PureQ := by
  intro ps r0 r1 b a hps hr0 hr1 hb ha
  have hr1 := wf_u16 hr1
  have ha := wf_i64 ha
  have hb' := bytes_of_wf hb.2.2
  have hpb : ∀ s ∈ ps, 0 ≤ s.f1 ∧ s.f1 ≤ 65535 := fun s hs => wf_u16 (hps.2.2 s hs).2
  obtain ⟨K, hK⟩ : ∃ K : Nat, ps.length + b.length + 300 ≤ K := ⟨_, Nat.le_refl _⟩
  refine ⟨K, ?_⟩
  have hlen := getSig_len b a
  unfold garderobelaw04_TypesFresh.f
  rw [if_pos (by simp only [List.length_nil]; omega), Option.bind_some, List.nil_append]
  rw [types_PutSig_eq _ (by omega) ps hpb r0 r1 hr1, Option.bind_some, Spoil_eq, Option.bind_some, Wide_eq _ b (by omega), Option.bind_some]
  rw [types_GetSig_eq _ (by omega) b hb' a (by omega) ha, Option.bind_some, Spoil_eq, Option.bind_some, Option.bind_some]
  rw [Types_refl _ ps (by omega) (by omega), Option.bind_some, if_pos rfl]
  rw [Types_refl _ _ (by simp; omega) (by simp; omega), works_more_TypesFresh (by omega)]
  simp

end Go.Proofs.Ytlkpgoddljjlbaa.Pure
