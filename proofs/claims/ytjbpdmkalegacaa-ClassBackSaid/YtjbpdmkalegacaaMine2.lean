/- Words of this session's own, over any program: which cells there are, a store leaves. -/
import Derived.Test.YtjbpdmkalegacaaMine
namespace Go.Proofs.YtjbpdmkalegacaaW.Mine
open Go.RowKit Go.Proofs.YtjbpdmkalegacaaW.PrintWords

/-- Which cells there are, a store leaves. -/
theorem isSome_set (w : World) (p : Addr) (u : Value) (a : Addr) : ((w.setCell p u).cell? a).isSome = (w.cell? a).isSome := by
  simp only [World.setCell, World.cell?, Array.getElem?_modify]
  by_cases hb : p.block = a.block
  · simp only [hb, if_true]
    cases hh : w.heap[a.block]? with
    | none => rfl
    | some o =>
      cases o with
      | cells c e f =>
        simp only [Option.map_some]
        cases a.spot <;> cases p.spot <;> simp [Array.getElem?_setIfInBounds] <;> (try split) <;> (try split) <;> simp_all
      | _ => rfl
  · rw [if_neg hb]
/-- 'xs[:j:j]'. -/
theorem take3_of {α : Type} {P : Program} (enc : α → Value) (d : α) (t e : TypeId) (kl km : IntKind) {i : TypeInfo} (ht : P.underlying t = some (.slice e)) (hi : P.info? e = some i) (hsz : i.size = 1) (A : Option Addr) (c : Nat) (xs : List α) (j : Int) (h0 : 0 ≤ j) (hm : j ≤ xs.length) (hc : xs.length ≤ c) :
    (∀ W : World, (Instr.slice t (.slice A xs.length c) none (some (.int kl j)) (some (.int km j))).run P W = .ok (.slice A (xs.take j.toNat).length (xs.take j.toNat).length) W) ∧
      (∀ w : World, ReadsOf enc d w A xs.length xs → ReadsOf enc d w A (xs.take j.toNat).length (xs.take j.toNat)) ∧ (xs.take j.toNat).length ≤ (xs.take j.toNat).length := by
  have hl : (xs.take j.toNat).length = j.toNat := by rw [List.length_take]; omega
  refine ⟨fun W => ?_, fun w h => by rw [hl]; exact h.take_ j.toNat (by omega), Nat.le_refl _⟩
  have hel : P.elem t = e := by simp [Program.elem, ht]
  have hu : P.underlying t = some (.slice (P.elem t)) := by rw [hel]; exact ht
  have ha : (A.map fun x => x.add 0) = A := by cases A <;> simp [Addr.add]
  rw [run_slice_hm W t A xs.length c hu kl km j j h0 (by omega) (by omega), hel, hl]
  simp [sizeOf, typeInfo, hi, hsz, sliced, Result.andThen, ha]
end Go.Proofs.YtjbpdmkalegacaaW.Mine
