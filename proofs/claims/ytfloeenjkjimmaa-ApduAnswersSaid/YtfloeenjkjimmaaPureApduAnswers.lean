/- Answers, what bytes say as one, channels and buffers are the document's. -/
import Derived.Test.YtfloeenjkjimmaaEApduAnswers
import Derived.Test.YtfloeenjkjimmaaQApduAnswers
set_option linter.unusedSimpArgs false
set_option linter.unusedVariables false
namespace Go.Proofs.Ytfloeenjkjimmaa.Pure
open Go Go.RowKit Go.Proofs.YtfloeenjkjimmaaW.Mine Go.Proofs.Ytfloeenjkjimmaa.PApduAnswers Go.Proofs.YtfloeenjkjimmaaW.PrintWords Go.Proofs.YtfloeenjkjimmaaW.PrintLast Go.Proofs.YtfloeenjkjimmaaW.Spec Go.Proofs.Ytfloeenjkjimmaa.EApduAnswers

theorem works_ApduAnswers : garderobelaw28_works.f 60 = some true := by decide +kernel
theorem works_more_ApduAnswers {k : Nat} (h : 60 ≤ k) : garderobelaw28_works.f k = some true := at_rounds garderobelaw28_works.mono h works_ApduAnswers
theorem answerS_len (data : List Int) (s : Int) : (answerS data s).1.length ≤ 258 := by
  unfold answerS; split
  · simp
  · simp; omega
theorem splitS_len (b : List Int) : (splitS b).1.length ≤ 256 := by
  unfold splitS; split
  · simp
  · simp; omega
theorem bufS_len (a b c d : Int) (l : List Int) : (bufS a b c d l).length ≤ 600 := by
  unfold bufS; simp; omega
theorem ApduAnswers : garderobelaw28_ApduAnswers.PureQ := by
  intro data s b c cla ins p1 p2 dat le hdata hs hb hc hcla hins hp1 hp2 hdat hle
  have hcla := wf_u8 hcla
  have hs := wf_u16 hs
  have hdat' := bytes_of_wf hdat.2.2
  have hb' := bytes_of_wf hb.2.2
  have hdata' := bytes_of_wf hdata.2.2
  obtain ⟨K, hK⟩ : ∃ K : Nat, 1000 ≤ K := ⟨_, Nat.le_refl _⟩
  refine ⟨K, ?_⟩
  have l1 := answerS_len data s
  have l2 := splitS_len b
  have l3 := bufS_len cla ins p1 p2 dat
  unfold garderobelaw28_ApduAnswers.f
  rw [apdu_Answer_eq K (by omega) data s hs, Option.bind_some, ref28_Answer_eq data s hs, Option.bind_some, apdu_Split_eq K (by omega) b hb' (by omega), Option.bind_some, ref28_Split_eq b hb' (by omega), Option.bind_some]
  rw [Same_refl _ _ (by omega) (by omega), Option.bind_some, if_pos rfl, if_pos rfl, Same_refl _ _ (by omega) (by omega), Option.bind_some, if_pos rfl, if_pos rfl, if_pos rfl]
  rw [apdu_Channel_eq c cla ins p1 p2 dat le hcla, Option.bind_some, if_pos rfl]
  rw [show apdu_Buffer.f c cla ins p1 p2 dat le = some (bufS cla ins p1 p2 dat) from rfl, Option.bind_some, refBuffer_eq K (by omega) c cla ins p1 p2 le dat (by omega), Option.bind_some]
  rw [Same_refl _ _ (by omega) (by omega), Option.bind_some, if_pos rfl, works_more_ApduAnswers (by omega), Option.bind_some]
end Go.Proofs.Ytfloeenjkjimmaa.Pure
