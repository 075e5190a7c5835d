/- What is put is got, what is got is put as the same bytes: for all signatures and bytes. -/
import Derived.Test.YtlkpgoddljjlbaaETypesBack
import Derived.Test.YtlkpgoddljjlbaaQTypesBack
set_option linter.unusedSimpArgs false
set_option linter.unusedVariables false
namespace Go.Proofs.Ytlkpgoddljjlbaa.Pure
open Go Go.RowKit Go.Proofs.YtlkpgoddljjlbaaW.Mine Go.Proofs.Ytlkpgoddljjlbaa.PTypesBack Go.Proofs.YtlkpgoddljjlbaaW.PrintWords Go.Proofs.YtlkpgoddljjlbaaW.PrintLast Go.Proofs.YtlkpgoddljjlbaaW.Spec Go.Proofs.Ytlkpgoddljjlbaa.ETypesBack

theorem works_TypesBack : garderobelaw04_works.f 100 = some true := by decide +kernel
theorem works_more_TypesBack {k : Nat} (h : 100 ≤ k) : garderobelaw04_works.f k = some true := at_rounds garderobelaw04_works.mono h works_TypesBack
theorem back_TypesBack (l : List Int) (hb : Bytes l) (hl : l.length < 140737488355328) (k : Nat) (hk : l.length + 200 ≤ k) : garderobelaw04_TypesBack.j0 (k + 1) l = some true := by
  simp only [garderobelaw04_TypesBack.j0]
  rw [types_GetSig_eq _ (by omega) l hb 0 hl (by omega)]
  simp only [Option.bind_some]
  by_cases h : (getSigS l 0).2.2.2 = 0
  · obtain ⟨hm, hr, hp, he⟩ := getSig_back hb h
    have hpl := getSig_place h
    have hbs : ∀ s ∈ (getSigS l 0).1.map ofP, 0 ≤ s.f1 ∧ s.f1 ≤ 65535 := by
      intro s hs
      obtain ⟨t, ht, rfl⟩ := List.mem_map.1 hs
      exact hp t ht
    rw [if_pos h, types_PutSig_eq _ (by omega) _ hbs _ _ hr, map_toP_ofP]
    have hput : putSigS (getSigS l 0).1 ((getSigS l 0).2.1.1, (getSigS l 0).2.1.2) = (l.take (getSigS l 0).2.2.1.toNat, 0) := by
      unfold putSigS
      rw [if_pos hm, he]
    rw [hput]
    simp only [Option.bind_some]
    rw [if_pos (by simp), if_pos (by omega), if_pos (by omega), if_pos (by omega), Same_refl _ _ (by simp; omega) (by simp; omega), works_more_TypesBack (by omega)]
    simp
  · rw [if_neg h]
    have hz : (getSigS l 0).2.2.1 = 0 := getSig_err h
    rw [if_pos hz, works_more_TypesBack (by omega)]
    simp
theorem TypesBack : garderobelaw04_TypesBack.PureQ := by
  intro ps r0 r1 ahead b hps hr0 hr1 ha hb
  have hr0 := wf_u8 hr0
  have hr1 := wf_u16 hr1
  have ha' := bytes_of_wf ha.2.2
  have hb' := bytes_of_wf hb.2.2
  have hpb : ∀ s ∈ ps, 0 ≤ s.f1 ∧ s.f1 ≤ 65535 := fun s hs => wf_u16 (hps.2.2 s hs).2
  have hpb' : ∀ t ∈ ps.map toP, 0 ≤ t.1 ∧ t.1 ≤ 255 ∧ 0 ≤ t.2 ∧ t.2 ≤ 65535 := by
    intro t ht
    obtain ⟨s, hs, rfl⟩ := List.mem_map.1 ht
    have h1 := wf_u8 (hps.2.2 s hs).1
    have h2 := hpb s hs
    exact ⟨h1.1, h1.2, h2.1, h2.2⟩
  obtain ⟨K, hK⟩ : ∃ K : Nat, ps.length + b.length + 300 ≤ K := ⟨_, Nat.le_refl _⟩
  refine ⟨K + 1, ?_⟩
  have hj := back_TypesBack b hb' (by omega) K (by omega)
  unfold garderobelaw04_TypesBack.f
  rw [types_PutSig_eq _ (by omega) ps hpb r0 r1 hr1]
  simp only [Option.bind_some]
  by_cases hm : maySig (ps.map toP) (r0, r1) = true
  · have e : putSigS (ps.map toP) (r0, r1) = (sigBytes (ps.map toP) (r0, r1), 0) := by unfold putSigS; rw [if_pos hm]
    obtain ⟨hg, hlen, hbytes⟩ := getSig_put (ps := ps.map toP) (r := (r0, r1)) hm hpb' ⟨hr0.1, hr0.2, hr1.1, hr1.2⟩ ahead
    have hps15 : ps.length ≤ 15 := by
      simp only [maySig, Bool.and_eq_true, decide_eq_true_eq, List.length_map] at hm
      exact hm.1.2
    rw [e]
    simp only
    rw [if_pos (by simp), Copy_eq ahead (by omega)]
    simp only [Option.bind_some]
    rw [if_pos (by omega), types_GetSig_eq _ (by omega) _ (bytes_append ha' hbytes) _ (by simp only [List.length_append]; omega) (by omega), hg]
    simp only [Option.bind_some, map_ofP_toP]
    rw [if_pos (by simp), if_neg (by simp), Types_refl _ _ (by omega) (by omega)]
    simp only [Option.bind_some]
    rw [if_pos (by simp), if_pos (by simp), types_Same_eq _ ps ps r0 r1 r0 r1 (by omega) (by omega)]
    simp only [Option.bind_some]
    rw [if_pos (by simp)]
    exact hj
  · have e : putSigS (ps.map toP) (r0, r1) = ([], 2) := by unfold putSigS; rw [if_neg hm]
    rw [e]
    simp only
    rw [if_neg (by decide)]
    exact hj

end Go.Proofs.Ytlkpgoddljjlbaa.Pure
