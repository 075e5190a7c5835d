/- Signatures are the same, if their types are, in order: for all signatures. -/
import Derived.Test.YtlkpgoddljjlbaaETypesSame
import Derived.Test.YtlkpgoddljjlbaaQTypesSame
namespace Go.Proofs.Ytlkpgoddljjlbaa.Pure
open Go Go.RowKit Go.Proofs.YtlkpgoddljjlbaaW.Mine Go.Proofs.Ytlkpgoddljjlbaa.PTypesSame Go.Proofs.YtlkpgoddljjlbaaW.PrintWords Go.Proofs.YtlkpgoddljjlbaaW.PrintLast Go.Proofs.YtlkpgoddljjlbaaW.Spec Go.Proofs.Ytlkpgoddljjlbaa.ETypesSame

theorem works_TypesSame : garderobelaw04_works.f 100 = some true := by decide +kernel
theorem works_more_TypesSame {k : Nat} (h : 100 ≤ k) : garderobelaw04_works.f k = some true := at_rounds garderobelaw04_works.mono h works_TypesSame
theorem TypesSame : garderobelaw04_TypesSame.PureQ := by
  intro ps r0 r1 qs q0 q1 i hps hr0 hr1 hqs hq0 hq1 hi
  have hi := wf_u8 hi
  refine ⟨ps.length + qs.length + 200, ?_⟩
  unfold garderobelaw04_TypesSame.f
  simp only [List.length_nil, Nat.zero_add, List.nil_append, Option.bind_some]
  rw [if_pos (by omega), types_Same_eq _ ps ps r0 r1 r0 r1 (by omega) (by omega), types_Same_eq _ ps qs r0 r1 q0 q1 (by omega) (by omega), ref4_Same_eq _ ps qs r0 r1 q0 q1 (by omega) (by omega), types_Same_eq _ qs ps q0 q1 r0 r1 (by omega) (by omega)]
  simp only [Option.bind_some]
  rw [if_pos (by simp), if_neg (by simp)]
  have hsym : (decide ((r0, r1) = (q0, q1) ∧ ps.map toP = qs.map toP) != decide ((q0, q1) = (r0, r1) ∧ qs.map toP = ps.map toP)) = false := by
    have : ((r0, r1) = (q0, q1) ∧ ps.map toP = qs.map toP) ↔ ((q0, q1) = (r0, r1) ∧ qs.map toP = ps.map toP) := ⟨fun h => ⟨h.1.symm, h.2.symm⟩, fun h => ⟨h.1.symm, h.2.symm⟩⟩
    by_cases hA : (r0, r1) = (q0, q1) ∧ ps.map toP = qs.map toP
    · rw [decide_eq_true hA, decide_eq_true (this.1 hA)]; rfl
    · rw [decide_eq_false hA, decide_eq_false (fun h => hA (this.2 h))]; rfl
  rw [hsym, show ps.length + qs.length + 200 = (ps.length + qs.length + 199) + 1 from by omega]
  simp only [garderobelaw04_TypesSame.j0]
  rw [if_neg (by simp)]
  by_cases h0 : (ps.length : Int) = 0
  · rw [if_pos h0, works_more_TypesSame (by omega)]
    simp
  · have hm0 : 0 ≤ Int.tmod (wrap64 i) (ps.length : Int) := by
      rw [wrap_id (by omega) (by omega), Int.tmod_eq_emod_of_nonneg (by omega)]
      exact Int.emod_nonneg _ (by omega)
    have hm1 : Int.tmod (wrap64 i) (ps.length : Int) < (ps.length : Int) := by
      rw [wrap_id (by omega) (by omega), Int.tmod_eq_emod_of_nonneg (by omega)]
      exact Int.emod_lt_of_pos _ (by omega)
    rw [if_neg h0, if_pos hm0, if_pos hm1]
    generalize Int.tmod (wrap64 i) (ps.length : Int) = j at hm0 hm1 ⊢
    have hj : j.toNat < ps.length := by omega
    have e1 : rd_T25 ps j = ps[j.toNat] := by simp [rd_T25, hj]
    rw [e1]
    have hw := wf_u16 (hps.2.2 ps[j.toNat] (List.getElem_mem hj)).2
    rw [types_Same_eq _ ps _ r0 r1 r0 r1 (by omega) (by omega)]
    simp only [Option.bind_some]
    have hne : ¬ (ps.map toP = (ps.set j.toNat ⟨ps[j.toNat].f0, IntKind.u16.wrap (ps[j.toNat].f1 + 1)⟩).map toP) := by
      intro h
      have h2 := congrArg (fun l : List Ty => l[j.toNat]?) h
      simp only [List.getElem?_map] at h2
      rw [List.getElem?_set_self hj, List.getElem?_eq_getElem hj] at h2
      simp only [Option.map_some, Option.some.injEq, toP, Prod.mk.injEq] at h2
      have h3 := h2.2
      simp only [IntKind.wrap, IntKind.bits, IntKind.signed] at h3
      simp at h3
      omega
    rw [if_neg (by rw [decide_eq_true_eq]; exact fun h => hne h.2), works_more_TypesSame (by omega)]
    simp

end Go.Proofs.Ytlkpgoddljjlbaa.Pure
