/- What is a type, its bytes, a signature's, what it is, are the document's, or its error: for all types and signatures. -/
import Derived.Test.YtlkpgoddljjlbaaETypesPuts
import Derived.Test.YtlkpgoddljjlbaaQTypesPuts
namespace Go.Proofs.Ytlkpgoddljjlbaa.Pure
open Go Go.RowKit Go.Proofs.YtlkpgoddljjlbaaW.Mine Go.Proofs.Ytlkpgoddljjlbaa.PTypesPuts Go.Proofs.YtlkpgoddljjlbaaW.PrintWords Go.Proofs.YtlkpgoddljjlbaaW.PrintLast Go.Proofs.YtlkpgoddljjlbaaW.Spec Go.Proofs.Ytlkpgoddljjlbaa.ETypesPuts

theorem works_TypesPuts : garderobelaw04_works.f 100 = some true := by decide +kernel
theorem size_TypesPuts (a b : Int) : types_Size.f 100 a b = garderoberef04_Size.f 100 a b ∧ types_Size.f 100 a b = some (if a = 5 ∨ a = 6 then 1 else if a = 7 ∨ a = 8 then 2 else 0) := by
  by_cases h5 : a = 5
  · simp [types_Size.f, garderoberef04_Size.f, types_Size.j0, garderoberef04_Size.j0, h5]
  · by_cases h6 : a = 6
    · simp [types_Size.f, garderoberef04_Size.f, types_Size.j0, garderoberef04_Size.j0, h6]
    · by_cases h7 : a = 7
      · simp [types_Size.f, garderoberef04_Size.f, types_Size.j0, garderoberef04_Size.j0, h7]
      · by_cases h8 : a = 8
        · simp [types_Size.f, garderoberef04_Size.f, types_Size.j0, garderoberef04_Size.j0, h8]
        · simp [types_Size.f, garderoberef04_Size.f, types_Size.j0, garderoberef04_Size.j0, h5, h6, h7, h8]
theorem array_TypesPuts (a b : Int) : types_IsArray.f 100 a b = garderoberef04_IsArray.f a b ∧ types_IsArray.f 100 a b = some (decide (5 ≤ a ∧ a ≤ 8)) := by
  have h1 : types_IsArray.f 100 a b = some (decide (5 ≤ a ∧ a ≤ 8)) := by
    unfold types_IsArray.f
    rw [(size_TypesPuts a b).2]
    simp only [Option.bind_some]
    congr 1
    rw [decide_eq_decide]
    split
    · omega
    · split <;> omega
  refine ⟨?_, h1⟩
  rw [h1]
  unfold garderoberef04_IsArray.f
  by_cases h : a ≥ 5
  · rw [if_pos h]; congr 1; rw [decide_eq_decide]; omega
  · rw [if_neg h]; congr 1; rw [decide_eq_false_iff_not]; omega
theorem ref_TypesPuts (a b : Int) : types_IsRef.f 100 a b = garderoberef04_IsRef.f a b := by
  unfold types_IsRef.f garderoberef04_IsRef.f
  rw [(array_TypesPuts a b).2]
  by_cases h4 : a = 4
  · simp [h4]
  · rw [if_neg h4]
    simp only [Option.bind_some]
    by_cases h : a ≥ 4
    · rw [if_pos h]; congr 1; rw [decide_eq_decide]; omega
    · rw [if_neg h]; congr 1; rw [decide_eq_false_iff_not]; omega
theorem TypesPuts : garderobelaw04_TypesPuts.PureQ := by
  intro a b ps r0 r1 ha hb hps hr0 hr1
  have hb := wf_u16 hb
  have hr1 := wf_u16 hr1
  have hpb : ∀ s ∈ ps, 0 ≤ s.f1 ∧ s.f1 ≤ 65535 := fun s hs => wf_u16 (hps.2.2 s hs).2
  refine ⟨100, ?_⟩
  unfold garderobelaw04_TypesPuts.f
  have l1 : (putT (a, b)).1.length ≤ 3 := by unfold putT bytesT; split <;> (try split) <;> simp
  have l2 : (putSigS (ps.map toP) (r0, r1)).1.length ≤ 60 := by
    unfold putSigS
    split
    · rename_i hm
      simp only [maySig, Bool.and_eq_true, decide_eq_true_eq, List.length_map] at hm
      have hf : ∀ l : List Ty, (l.flatMap bytesT).length ≤ 3 * l.length := by
        intro l
        induction l with
        | nil => simp
        | cons x l ih =>
          have : (bytesT x).length ≤ 3 := by unfold bytesT; split <;> simp
          simp only [List.flatMap_cons, List.length_append, List.length_cons]; omega
      have h3 := hf (ps.map toP)
      have h4 : (retBytes (r0, r1)).length ≤ 3 := by unfold retBytes bytesT; split <;> (try split) <;> simp
      simp only [sigBytes, List.length_append, List.length_singleton]
      simp only [List.length_map] at h3
      omega
    · simp
  rw [types_Put_eq _ (by omega) a b hb, ref4_Put_eq a b hb, types_PutSig_eq _ (by omega) ps hpb r0 r1 hr1, ref4_PutSig_eq _ (by omega) ps hpb r0 r1 hr1]
  simp only [Option.bind_some]
  rw [types_May_eq _ (by omega), ref4_May_eq, Same_refl _ _ (by omega) (by omega), Same_refl _ _ (by omega) (by omega), ← ref_TypesPuts, ← (array_TypesPuts a b).1, ← (size_TypesPuts a b).1, (array_TypesPuts a b).2, (size_TypesPuts a b).2, works_TypesPuts]
  have hir : ∃ v, types_IsRef.f 100 a b = some v := by
    unfold types_IsRef.f
    rw [(array_TypesPuts a b).2]
    split
    · exact ⟨_, rfl⟩
    · exact ⟨_, rfl⟩
  obtain ⟨v, hv⟩ := hir
  rw [hv]
  simp

end Go.Proofs.Ytlkpgoddljjlbaa.Pure
