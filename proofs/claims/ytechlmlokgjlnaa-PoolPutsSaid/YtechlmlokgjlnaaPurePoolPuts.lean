/- The bytes of whatever entries are the document's, or its error: for all entries. -/
import Derived.Test.YtechlmlokgjlnaaEPoolPuts
import Derived.Test.YtechlmlokgjlnaaQPoolPuts
set_option linter.unusedSimpArgs false
set_option linter.unusedVariables false
namespace Go.Proofs.Ytechlmlokgjlnaa.Pure
open Go Go.RowKit Go.Proofs.YtechlmlokgjlnaaW.Mine Go.Proofs.Ytechlmlokgjlnaa.PPoolPuts Go.Proofs.YtechlmlokgjlnaaW.PrintWords Go.Proofs.YtechlmlokgjlnaaW.PrintLast Go.Proofs.YtechlmlokgjlnaaW.Spec Go.Proofs.Ytechlmlokgjlnaa.EPoolPuts

theorem works_PoolPuts (k : Nat) : garderobelaw07_works.f k = some true := by
  show garderobelaw07_works.f 0 = some true
  decide +kernel
theorem put_length (l : List S43) : (putP l).1.length ≤ 1022 := by
  unfold putP
  split
  · split
    · simp
    · have h : ∀ e : S43, (encE e).length = 4 := fun e => by unfold encE; (repeat' split) <;> rfl
      have : ∀ m : List S43, (m.flatMap encE).length = 4 * m.length := fun m => by
        induction m with
        | nil => rfl
        | cons a r ih => rw [List.flatMap_cons, List.length_append, ih, h, List.length_cons]; omega
      rw [List.length_append, this]
      simp; omega
  · simp
theorem PoolPuts : garderobelaw07_PoolPuts.PureQ := by
  intro l ⟨_, hl, hw⟩
  have h : ∀ e ∈ l, okE e := by
    intro e he
    obtain ⟨h0, h1, h2, _, h4, h5, h6⟩ := hw e he
    exact ⟨wf_u8 h0, by have := wf_u16 h1; omega, wf_u8 h2, by have := wf_u16 h4; omega, wf_u8 h5, wf_u8 h6⟩
  have hlen := put_length l
  refine ⟨2 * l.length + 1100, ?_⟩
  unfold garderobelaw07_PoolPuts.f
  rw [pool_Put_eq _ l h (by omega), ref7_Put_eq _ l h (by omega) (by omega)]
  simp only [Option.bind_some]
  rw [Same_refl _ _ (by omega) (by omega), works_PoolPuts]
  simp

end Go.Proofs.Ytechlmlokgjlnaa.Pure
