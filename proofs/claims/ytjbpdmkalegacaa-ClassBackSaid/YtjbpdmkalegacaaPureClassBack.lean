/- What is put is got, what is got is put as the same bytes: for all classes and bytes. -/
import Derived.Test.YtjbpdmkalegacaaEClassBack
import Derived.Test.YtjbpdmkalegacaaQClassBack
set_option linter.unusedSimpArgs false
set_option linter.unusedVariables false
namespace Go.Proofs.Ytjbpdmkalegacaa.Pure
open Go Go.RowKit Go.Proofs.YtjbpdmkalegacaaW.Mine Go.Proofs.Ytjbpdmkalegacaa.PClassBack Go.Proofs.YtjbpdmkalegacaaW.PrintWords Go.Proofs.YtjbpdmkalegacaaW.PrintLast Go.Proofs.YtjbpdmkalegacaaW.Spec Go.Proofs.Ytjbpdmkalegacaa.EClassBack

theorem works_ClassBack (k : Nat) : garderobelaw08_works.f k = some true := by
  show garderobelaw08_works.f 0 = some true
  decide +kernel
theorem okC_ClassBack {x : S38} (h : (Lit.int .u8 x.f0).wf = true ∧ (Lit.int .u16 x.f1).wf = true ∧ (x.f2.length ≤ maxLen ∧ x.f2.length * 32 ≤ 140737488351232 ∧ ∀ y ∈ x.f2, ((Lit.int .u16 y.f0).wf = true ∧ (y.f1.length ≤ maxLen ∧ y.f1.length * 1 ≤ 140737488351232 ∧ ∀ z ∈ y.f1, (Lit.int .u8 z).wf = true))) ∧ (x.f3.length ≤ maxLen ∧ x.f3.length * 4 ≤ 140737488351232 ∧ ∀ y ∈ x.f3, ((Lit.int .u8 y.f0).wf = true ∧ (Lit.int .u16 y.f1).wf = true)) ∧ (x.f4.length ≤ maxLen ∧ x.f4.length * 2 ≤ 140737488351232 ∧ ∀ y ∈ x.f4, (Lit.int .u16 y).wf = true) ∧ (x.f5.length ≤ maxLen ∧ x.f5.length * 32 ≤ 140737488351232 ∧ ∀ y ∈ x.f5, ((y.f0.length ≤ maxLen ∧ y.f0.length * 4 ≤ 140737488351232 ∧ ∀ z ∈ y.f0, ((Lit.int .u8 z.f0).wf = true ∧ (Lit.int .u16 z.f1).wf = true)) ∧ ((Lit.int .u8 y.f1.f0).wf = true ∧ (Lit.int .u16 y.f1.f1).wf = true)))) : okC x := by
  obtain ⟨h0, h1, ⟨_, l2, h2⟩, ⟨_, l3, h3⟩, ⟨_, l4, h4⟩, ⟨_, l5, h5⟩⟩ := h
  refine ⟨wf_u8 h0, wf_u16 h1, fun i hi => ⟨wf_u16 (h2 i hi).1, bytes_of_wf (h2 i hi).2.2.2⟩, fun t ht => ⟨(wf_u8 (h3 t ht).1).1, (wf_u8 (h3 t ht).1).2, (wf_u16 (h3 t ht).2).1, (wf_u16 (h3 t ht).2).2⟩, fun n hn => wf_u16 (h4 n hn), fun s hs => ⟨fun t ht => ?_, ?_⟩, by omega⟩
  · have q := (h5 s hs).1.2.2 t ht
    exact ⟨(wf_u8 q.1).1, (wf_u8 q.1).2, (wf_u16 q.2).1, (wf_u16 q.2).2⟩
  · have q := (h5 s hs).2
    exact ⟨(wf_u8 q.1).1, (wf_u8 q.1).2, (wf_u16 q.2).1, (wf_u16 q.2).2⟩
theorem bytes_ClassBack (b : List Int) (hb : Hb b) (k : Nat) (hk : b.length + 10 ≤ k) : garderobelaw08_ClassBack.j0 k b = some true := by
  obtain ⟨k, rfl⟩ : ∃ m, k = m + 1 := ⟨k - 1, by omega⟩
  have hl := hb.2
  simp only [garderobelaw08_ClassBack.j0]
  obtain ⟨m, f, q, h0, h1⟩ := get_back k b hb
  rw [q, Option.bind_some]
  by_cases c : f = 0
  · obtain ⟨ho, hp⟩ := h0 c
    rw [if_pos c, class_Put_eq m ho, hp, Option.bind_some, if_pos rfl, Same_refl k b (by omega) (by omega), Option.bind_some, if_pos rfl, works_ClassBack]
    rfl
  · rw [if_neg c, h1 c]
    simp [works_ClassBack]
theorem ClassBack : garderobelaw08_ClassBack.PureQ := by
  intro l b ⟨_, hl, hw⟩ ⟨_, hbl, hbw⟩
  have h : ∀ x ∈ l, okC x := fun x hx => okC_ClassBack (hw x hx)
  have hb : Hb b := ⟨bytes_of_wf hbw, by omega⟩
  refine ⟨2000 + b.length, ?_⟩
  have hj := bytes_ClassBack b hb (2000 + b.length) (by omega)
  unfold garderobelaw08_ClassBack.f
  rw [class_Put_eq l h, Option.bind_some]
  unfold putC
  by_cases c : l.all mayC = true
  · rw [if_pos c]
    by_cases c2 : l.length > 64
    · rw [if_pos c2, if_neg (by decide)]
      exact hj
    · rw [if_neg c2, if_pos rfl, get_put _ h c (by omega), Option.bind_some, if_pos rfl, ref8_Same_eq _ (by omega) l (by omega) h c, Option.bind_some, if_pos rfl]
      exact hj
  · rw [if_neg c, if_neg (by decide)]
    exact hj

end Go.Proofs.Ytjbpdmkalegacaa.Pure
