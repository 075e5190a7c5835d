/- Which may be, and the bytes of whatever classes, are the document's, or its error: for all classes. -/
import Derived.Test.YtjbpdmkalegacaaEClassPuts
import Derived.Test.YtjbpdmkalegacaaQClassPuts
set_option linter.unusedSimpArgs false
set_option linter.unusedVariables false
namespace Go.Proofs.Ytjbpdmkalegacaa.Pure
open Go Go.RowKit Go.Proofs.YtjbpdmkalegacaaW.Mine Go.Proofs.Ytjbpdmkalegacaa.PClassPuts Go.Proofs.YtjbpdmkalegacaaW.PrintWords Go.Proofs.YtjbpdmkalegacaaW.PrintLast Go.Proofs.YtjbpdmkalegacaaW.Spec Go.Proofs.Ytjbpdmkalegacaa.EClassPuts

theorem works_ClassPuts (k : Nat) : garderobelaw08_works.f k = some true := by
  show garderobelaw08_works.f 0 = some true
  decide +kernel
theorem okC_ClassPuts {x : S38} (h : (Lit.int .u8 x.f0).wf = true ∧ (Lit.int .u16 x.f1).wf = true ∧ (x.f2.length ≤ maxLen ∧ x.f2.length * 32 ≤ 140737488351232 ∧ ∀ y ∈ x.f2, ((Lit.int .u16 y.f0).wf = true ∧ (y.f1.length ≤ maxLen ∧ y.f1.length * 1 ≤ 140737488351232 ∧ ∀ z ∈ y.f1, (Lit.int .u8 z).wf = true))) ∧ (x.f3.length ≤ maxLen ∧ x.f3.length * 4 ≤ 140737488351232 ∧ ∀ y ∈ x.f3, ((Lit.int .u8 y.f0).wf = true ∧ (Lit.int .u16 y.f1).wf = true)) ∧ (x.f4.length ≤ maxLen ∧ x.f4.length * 2 ≤ 140737488351232 ∧ ∀ y ∈ x.f4, (Lit.int .u16 y).wf = true) ∧ (x.f5.length ≤ maxLen ∧ x.f5.length * 32 ≤ 140737488351232 ∧ ∀ y ∈ x.f5, ((y.f0.length ≤ maxLen ∧ y.f0.length * 4 ≤ 140737488351232 ∧ ∀ z ∈ y.f0, ((Lit.int .u8 z.f0).wf = true ∧ (Lit.int .u16 z.f1).wf = true)) ∧ ((Lit.int .u8 y.f1.f0).wf = true ∧ (Lit.int .u16 y.f1.f1).wf = true)))) : okC x := by
  obtain ⟨h0, h1, ⟨_, l2, h2⟩, ⟨_, l3, h3⟩, ⟨_, l4, h4⟩, ⟨_, l5, h5⟩⟩ := h
  refine ⟨wf_u8 h0, wf_u16 h1, fun i hi => ⟨wf_u16 (h2 i hi).1, bytes_of_wf (h2 i hi).2.2.2⟩, fun t ht => ⟨(wf_u8 (h3 t ht).1).1, (wf_u8 (h3 t ht).1).2, (wf_u16 (h3 t ht).2).1, (wf_u16 (h3 t ht).2).2⟩, fun n hn => wf_u16 (h4 n hn), fun s hs => ⟨fun t ht => ?_, ?_⟩, by omega⟩
  · have q := (h5 s hs).1.2.2 t ht
    exact ⟨(wf_u8 q.1).1, (wf_u8 q.1).2, (wf_u16 q.2).1, (wf_u16 q.2).2⟩
  · have q := (h5 s hs).2
    exact ⟨(wf_u8 q.1).1, (wf_u8 q.1).2, (wf_u16 q.2).1, (wf_u16 q.2).2⟩
theorem loop_ClassPuts (l : List S38) (h : ∀ x ∈ l, okC x) (hl : l.length ≤ 140737488355328) : ∀ (d k i : Nat), i + d = l.length → 1500000 + l.length + d ≤ k → garderobelaw08_ClassPuts.l0 k l (i : Int) = some true
  | 0, k, i, hi, hk => by
    obtain ⟨k, rfl⟩ : ∃ m, k = m + 1 := ⟨k - 1, by omega⟩
    have hlen : (putC l).1.length ≤ 1280001 := by
      unfold putC
      by_cases c : l.all mayC = true
      · rw [if_pos c]
        by_cases c2 : l.length > 64
        · rw [if_pos c2]; simp
        · rw [if_neg c2]; exact (put_hb h c (by omega)).2
      · rw [if_neg c]; simp
    simp only [garderobelaw08_ClassPuts.l0]
    rw [if_neg (by omega), class_Put_eq l h, Option.bind_some, ref8_Put_eq k l (by omega) h (by omega), Option.bind_some, Same_refl k (putC l).1 (by omega) (by omega), Option.bind_some, if_pos rfl, if_pos rfl, works_ClassPuts]
    rfl
  | d + 1, k, i, hi, hk => by
    obtain ⟨k, rfl⟩ : ∃ m, k = m + 1 := ⟨k - 1, by omega⟩
    have h1 : i < l.length := by omega
    have hx := h _ (List.getElem_mem h1)
    simp only [garderobelaw08_ClassPuts.l0]
    rw [if_pos (by omega), if_pos (by omega), rd38_eq h1, class_May_eq l[i] hx, Option.bind_some, ref8_May_eq k (by omega) l[i] hx, Option.bind_some, if_neg (by simp), wrap_id (by omega) (by omega), show ((i : Int) + 1) = ((i + 1 : Nat) : Int) from by omega]
    exact loop_ClassPuts l h hl d k (i + 1) (by omega) (by omega)
theorem ClassPuts : garderobelaw08_ClassPuts.PureQ := by
  intro l ⟨_, hl, hw⟩
  refine ⟨1500000 + 2 * l.length, ?_⟩
  unfold garderobelaw08_ClassPuts.f
  exact loop_ClassPuts l (fun x hx => okC_ClassPuts (hw x hx)) (by omega) l.length _ 0 (by omega) (by omega)

end Go.Proofs.Ytjbpdmkalegacaa.Pure
