/- Words of this session's own, over any program: which cells there are, a store leaves. -/
import Derived.Test.YtjbpdmkalegacaaVMine
namespace Go.Proofs.YtjbpdmkalegacaaW.Mine
open Go.RowKit Go.Proofs.YtjbpdmkalegacaaW.PrintWords
/-- Which cells there are, a store leaves. -/
theorem isSome_set (w : World) (p : Addr) (u : Value) (a : Addr) : ((w.setCell p u).cell? a).isSome = (w.cell? a).isSome := by
  simp only [World.setCell, World.cell?, Array.getElem?_modify]
  by_cases hb : p.block = a.block
  · simp only [hb, if_true]
    cases hh : w.heap[a.block]? with
    | none => rfl
    | some o =>
      cases o with
      | cells c e f =>
        simp only [Option.map_some]
        cases a.spot <;> cases p.spot <;> simp [Array.getElem?_setIfInBounds] <;> (try split) <;> (try split) <;> simp_all
      | _ => rfl
  · rw [if_neg hb]
end Go.Proofs.YtjbpdmkalegacaaW.Mine
