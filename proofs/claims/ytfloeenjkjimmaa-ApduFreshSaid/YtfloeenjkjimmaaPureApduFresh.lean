/- What is handed in stays, the room behind it, too; what is answered is new memory: for all bytes and messages. -/
import Derived.Test.YtfloeenjkjimmaaEApduFresh
import Derived.Test.YtfloeenjkjimmaaQApduFresh
set_option linter.unusedSimpArgs false
set_option linter.unusedVariables false
namespace Go.Proofs.Ytfloeenjkjimmaa.Pure
open Go Go.RowKit Go.Proofs.YtfloeenjkjimmaaW.Mine Go.Proofs.Ytfloeenjkjimmaa.PApduFresh Go.Proofs.YtfloeenjkjimmaaW.PrintWords Go.Proofs.YtfloeenjkjimmaaW.PrintLast Go.Proofs.YtfloeenjkjimmaaW.Spec Go.Proofs.Ytfloeenjkjimmaa.EApduFresh

theorem works_ApduFresh : garderobelaw28_works.f 60 = some true := by decide +kernel
theorem works_more_ApduFresh {k : Nat} (h : 60 ≤ k) : garderobelaw28_works.f k = some true := at_rounds garderobelaw28_works.mono h works_ApduFresh
theorem ApduFresh : garderobelaw28_ApduFresh.PureQ := by
  intro b c cla ins p1 p2 dat le hb hc hcla hins hp1 hp2 hdat hle
  have hdat' := bytes_of_wf hdat.2.2
  have hb' := bytes_of_wf hb.2.2
  obtain ⟨K, hK⟩ : ∃ K : Nat, 1000 ≤ K := ⟨_, Nat.le_refl _⟩
  refine ⟨K, ?_⟩
  unfold garderobelaw28_ApduFresh.f
  rw [Wide_eq _ b (by omega), Option.bind_some, Wide_eq _ dat (by omega), Option.bind_some]
  rw [apdu_Read_eq K (by omega) b hb' (by omega), Option.bind_some, Spoil_eq, Option.bind_some]
  rw [apdu_Put_eq K (by omega) c cla ins p1 p2 dat le (by omega), Option.bind_some, Spoil_eq, Option.bind_some]
  rw [show apdu_Buffer.f c cla ins p1 p2 dat le = some (bufS cla ins p1 p2 dat) from rfl, Option.bind_some, Spoil_eq, Option.bind_some]
  rw [apdu_Answer_eq K (by omega) b 1 (by omega), Option.bind_some, Spoil_eq, Option.bind_some]
  rw [apdu_Split_eq K (by omega) b hb' (by omega), Option.bind_some, Spoil_eq, Option.bind_some]
  rw [Left_eq _ b (by omega), Option.bind_some, if_pos rfl, Left_eq _ dat (by omega), Option.bind_some, if_pos rfl, works_more_ApduFresh (by omega), Option.bind_some]
end Go.Proofs.Ytfloeenjkjimmaa.Pure
