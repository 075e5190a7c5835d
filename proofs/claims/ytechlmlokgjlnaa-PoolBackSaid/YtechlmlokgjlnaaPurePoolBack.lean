/- What is put is got, what is got is put as the same bytes; a reference is the one that says what it says: for all entries, bytes and references. -/
import Derived.Test.YtechlmlokgjlnaaEPoolBack
import Derived.Test.YtechlmlokgjlnaaQPoolBack
set_option linter.unusedSimpArgs false
set_option linter.unusedVariables false
namespace Go.Proofs.Ytechlmlokgjlnaa.Pure
open Go Go.RowKit Go.Proofs.YtechlmlokgjlnaaW.Mine Go.Proofs.Ytechlmlokgjlnaa.PPoolBack Go.Proofs.YtechlmlokgjlnaaW.PrintWords Go.Proofs.YtechlmlokgjlnaaW.PrintLast Go.Proofs.YtechlmlokgjlnaaW.Spec Go.Proofs.Ytechlmlokgjlnaa.EPoolBack

theorem works_PoolBack (k : Nat) : garderobelaw07_works.f k = some true := by
  show garderobelaw07_works.f 0 = some true
  decide +kernel
theorem refs_PoolBack (a : Int) (h0 : 0 ≤ a) (h1 : a < 65536) : refP (splitP a).1 (splitP a).2.1 (splitP a).2.2 = (a, 0) := by
  unfold refP splitP
  by_cases h : a < 32768
  · simp [h]
    omega
  · simp [h]
    rw [if_pos (by omega)]
    simp
    omega
theorem ref_PoolBack (k : Nat) (a : Int) (h0 : 0 ≤ a) (h1 : a < 65536) : ((pool_Split.f a).bind fun b => (pool_Ref.f b.1 b.2.1 b.2.2).bind fun c => if c.1 = a then (if c.2 = 0 then (garderobelaw07_works.f k).bind fun t => some t else none) else none) = some true := by
  rw [pool_Split_eq a h0 h1]
  simp only [Option.bind_some]
  rw [pool_Ref_eq, refs_PoolBack a h0 h1, works_PoolBack]
  simp
theorem bytes_PoolBack (k : Nat) (b : List Int) (hb : Bytes b) (hl : b.length < 140737488355328) (hk : b.length + 10 ≤ k) (a : Int) (h0 : 0 ≤ a) (h1 : a < 65536) : garderobelaw07_PoolBack.j0 k b a = some true := by
  obtain ⟨k, rfl⟩ : ∃ m, k = m + 2 := ⟨k - 2, by omega⟩
  simp only [garderobelaw07_PoolBack.j0]
  obtain ⟨m, f, hg, hf⟩ := pool_Get_back (k + 1) b hb hl
  rw [hg]
  simp only [Option.bind_some]
  by_cases z : f = 0
  · obtain ⟨q1, q2, q3⟩ := hf z
    rw [if_pos z, pool_Put_eq _ m q1 (by omega), q3]
    simp only [Option.bind_some]
    rw [if_pos trivial, Same_refl _ _ (by omega) (by omega)]
    simp only [Option.bind_some, garderobelaw07_PoolBack.j1]
    rw [if_neg (by decide)]
    exact ref_PoolBack k a h0 h1
  · rw [if_neg z]
    exact ref_PoolBack (k + 1) a h0 h1
theorem PoolBack : garderobelaw07_PoolBack.PureQ := by
  intro l b a ⟨_, hl, hw⟩ ⟨_, hbl, hbw⟩ ha
  have ha := wf_u16 ha
  have h : ∀ e ∈ l, okE e := by
    intro e he
    obtain ⟨h0, h1, h2, _, h4, h5, h6⟩ := hw e he
    exact ⟨wf_u8 h0, by have := wf_u16 h1; omega, wf_u8 h2, by have := wf_u16 h4; omega, wf_u8 h5, wf_u8 h6⟩
  have hb := bytes_of_wf hbw
  obtain ⟨K, hK⟩ : ∃ K : Nat, K = l.length + b.length + 100 := ⟨_, rfl⟩
  refine ⟨K, ?_⟩
  unfold garderobelaw07_PoolBack.f
  rw [pool_Put_eq _ l h (by omega)]
  simp only [Option.bind_some]
  have hj := bytes_PoolBack K b hb (by omega) (by omega) a ha.1 (by omega)
  by_cases z : (putP l).2 = 0
  · obtain ⟨q1, q2, q3⟩ := pool_Get_put K l h z
    rw [if_pos z, q1]
    simp only [Option.bind_some]
    have hs : garderobelaw07_same.f K l l = some true := same7_refl K l (by omega) (by omega)
    rw [if_pos trivial, hs]
    rw [Option.bind_some, if_pos rfl, q3, wrap_id (n := 4 * (l.length : Int)) (by omega) (by omega), wrap_id (by omega) (by omega), if_pos (by omega)]
    exact hj
  · rw [if_neg z]
    exact hj

end Go.Proofs.Ytechlmlokgjlnaa.Pure
