/- What is handed in stays, the room behind it, too; what is answered is new memory: for all bytes of classes. -/
import Derived.Test.YtjbpdmkalegacaaVEClassFresh
import Derived.Test.YtjbpdmkalegacaaVPClassFreshx12
set_option linter.unusedSimpArgs false
set_option linter.unusedVariables false
namespace Go.Proofs.Ytjbpdmkalegacaa.Pure
open Go Go.RowKit Go.Proofs.YtjbpdmkalegacaaW.Mine Go.Proofs.Ytjbpdmkalegacaa.PClassFresh Go.Proofs.YtjbpdmkalegacaaW.PrintWords Go.Proofs.YtjbpdmkalegacaaW.PrintLast Go.Proofs.YtjbpdmkalegacaaW.Spec Go.Proofs.Ytjbpdmkalegacaa.EClassFresh
theorem works_ClassFresh (k : Nat) : garderobelaw08_works.f k = some true := by
  show garderobelaw08_works.f 0 = some true
  decide +kernel
theorem ClassFresh : garderobelaw08_ClassFresh.Pure := by
  intro b hm hl hw
  have hb : Hb b := ⟨bytes_of_wf hw, by omega⟩
  obtain ⟨l, e, h1, h2⟩ := get_agree (2000 + b.length) may8 (fun x hx => ref8_May_eq 2000 (by omega) x hx) b hb
  obtain ⟨m, f, q, h0, h3⟩ := get_back (2000 + b.length) b hb
  rw [h1] at q
  cases q
  refine ⟨2000 + b.length, ?_⟩
  have hs : garderoberef08_Same.f (2000 + b.length) l l = some true := by
    by_cases c : e = 0
    · obtain ⟨ho, hp⟩ := h0 c
      unfold putC at hp
      by_cases c1 : l.all mayC = true
      · rw [if_pos c1] at hp
        by_cases c2 : l.length > 64
        · rw [if_pos c2] at hp
          cases hp
        · exact ref8_Same_eq _ (by omega) l (by omega) ho c1
      · rw [if_neg c1] at hp
        cases hp
    · rw [h3 c]
      exact ref8_Same_eq _ (by omega) [] (by simp) (by simp) rfl
  unfold garderobelaw08_ClassFresh.f garderoberef08_Get.f
  rw [Wide_eq _ b (by omega), Option.bind_some, h1, Option.bind_some, h2, Option.bind_some, Left_eq _ b (by omega), Option.bind_some, if_pos rfl, if_pos rfl, hs, Option.bind_some, if_pos rfl, works_ClassFresh]
end Go.Proofs.Ytjbpdmkalegacaa.Pure
