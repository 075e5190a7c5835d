/- Of bytes of classes no shorter beginning is one; bytes behind them are refused: for all classes. -/
import Derived.Test.YtjbpdmkalegacaaEClassCuts
import Derived.Test.YtjbpdmkalegacaaQClassCuts
set_option linter.unusedSimpArgs false
set_option linter.unusedVariables false
namespace Go.Proofs.Ytjbpdmkalegacaa.Pure
open Go Go.RowKit Go.Proofs.YtjbpdmkalegacaaW.Mine Go.Proofs.Ytjbpdmkalegacaa.PClassCuts Go.Proofs.YtjbpdmkalegacaaW.PrintWords Go.Proofs.YtjbpdmkalegacaaW.PrintLast Go.Proofs.YtjbpdmkalegacaaW.Spec Go.Proofs.Ytjbpdmkalegacaa.EClassCuts

theorem works_ClassCuts (k : Nat) : garderobelaw08_works.f k = some true := by
  show garderobelaw08_works.f 0 = some true
  decide +kernel
theorem okC_ClassCuts {x : S38} (h : (Lit.int .u8 x.f0).wf = true ∧ (Lit.int .u16 x.f1).wf = true ∧ (x.f2.length ≤ maxLen ∧ x.f2.length * 32 ≤ 140737488351232 ∧ ∀ y ∈ x.f2, ((Lit.int .u16 y.f0).wf = true ∧ (y.f1.length ≤ maxLen ∧ y.f1.length * 1 ≤ 140737488351232 ∧ ∀ z ∈ y.f1, (Lit.int .u8 z).wf = true))) ∧ (x.f3.length ≤ maxLen ∧ x.f3.length * 4 ≤ 140737488351232 ∧ ∀ y ∈ x.f3, ((Lit.int .u8 y.f0).wf = true ∧ (Lit.int .u16 y.f1).wf = true)) ∧ (x.f4.length ≤ maxLen ∧ x.f4.length * 2 ≤ 140737488351232 ∧ ∀ y ∈ x.f4, (Lit.int .u16 y).wf = true) ∧ (x.f5.length ≤ maxLen ∧ x.f5.length * 32 ≤ 140737488351232 ∧ ∀ y ∈ x.f5, ((y.f0.length ≤ maxLen ∧ y.f0.length * 4 ≤ 140737488351232 ∧ ∀ z ∈ y.f0, ((Lit.int .u8 z.f0).wf = true ∧ (Lit.int .u16 z.f1).wf = true)) ∧ ((Lit.int .u8 y.f1.f0).wf = true ∧ (Lit.int .u16 y.f1.f1).wf = true)))) : okC x := by
  obtain ⟨h0, h1, ⟨_, l2, h2⟩, ⟨_, l3, h3⟩, ⟨_, l4, h4⟩, ⟨_, l5, h5⟩⟩ := h
  refine ⟨wf_u8 h0, wf_u16 h1, fun i hi => ⟨wf_u16 (h2 i hi).1, bytes_of_wf (h2 i hi).2.2.2⟩, fun t ht => ⟨(wf_u8 (h3 t ht).1).1, (wf_u8 (h3 t ht).1).2, (wf_u16 (h3 t ht).2).1, (wf_u16 (h3 t ht).2).2⟩, fun n hn => wf_u16 (h4 n hn), fun s hs => ⟨fun t ht => ?_, ?_⟩, by omega⟩
  · have q := (h5 s hs).1.2.2 t ht
    exact ⟨(wf_u8 q.1).1, (wf_u8 q.1).2, (wf_u16 q.2).1, (wf_u16 q.2).2⟩
  · have q := (h5 s hs).2
    exact ⟨(wf_u8 q.1).1, (wf_u8 q.1).2, (wf_u16 q.2).1, (wf_u16 q.2).2⟩
theorem ClassCuts : garderobelaw08_ClassCuts.PureQ := by
  intro l a m ⟨_, hl, hw⟩ ha hm
  have h : ∀ x ∈ l, okC x := fun x hx => okC_ClassCuts (hw x hx)
  have ha := wf_u16 ha
  have hm := wf_u8 hm
  refine ⟨1, ?_⟩
  unfold garderobelaw08_ClassCuts.f
  rw [class_Put_eq l h, Option.bind_some]
  unfold putC
  by_cases c : l.all mayC = true
  · rw [if_pos c]
    by_cases c2 : l.length > 64
    · rw [if_pos c2]
      simp [garderobelaw08_ClassCuts.j0, works_ClassCuts]
    · rw [if_neg c2]
      have hp := put_hb h c (by omega)
      have hlen := rowB_len bytesC l
      obtain ⟨B, hB⟩ : ∃ B_ : List Int, B_ = rowB bytesC l := ⟨_, rfl⟩
      have gm := get_more 0 h c (by omega) m hm
      have gc := get_cut 0 h c (by omega)
      rw [← hB] at hp hlen gm gc ⊢
      simp only
      rw [if_pos trivial, show ((B.length : Int) == 0) = false from by rw [beq_eq_false_iff_ne]; omega]
      simp only [garderobelaw08_ClassCuts.j0]
      have hwr : wrap64 a = a := wrap_id (by omega) (by omega)
      have ht : Int.tmod (wrap64 a) (B.length : Int) = a % (B.length : Int) := by rw [hwr, Int.tmod_eq_emod_of_nonneg ha.1]
      have h0 := Int.emod_nonneg a (b := (B.length : Int)) (by omega)
      have h1 := Int.emod_lt_of_pos a (b := (B.length : Int)) (by omega)
      rw [ht, if_neg (by decide), if_neg (by omega), if_pos h0, if_pos (by omega), gc (a % (B.length : Int)).toNat (by omega)]
      simp only [Option.bind_some]
      rw [if_pos (by omega), gm]
      simp [works_ClassCuts]
  · rw [if_neg c]
    simp [garderobelaw08_ClassCuts.j0, works_ClassCuts]

end Go.Proofs.Ytjbpdmkalegacaa.Pure
