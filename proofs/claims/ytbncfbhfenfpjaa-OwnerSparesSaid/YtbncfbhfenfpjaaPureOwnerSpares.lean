/- What is spared, stored and passed, of any instruction and guess, is the document's answer: for all bytes. -/
import Derived.Test.YtbncfbhfenfpjaaPOwnerSparesx3
namespace Go.Proofs.Ytbncfbhfenfpjaa.Pure
open Go.RowKit Go.Proofs.Ytbncfbhfenfpjaa.POwnerSpares Go.Proofs.YtbncfbhfenfpjaaW.PrintWords Go.Proofs.YtbncfbhfenfpjaaW.PrintLast

theorem byte_OwnerSpares {a : Int} (h : (Lit.int .u8 a).wf = true) : ∃ n : Nat, n < 256 ∧ a = (n : Int) := by
  simp [Lit.wf, IntKind.min, IntKind.max, IntKind.signed, IntKind.bits] at h
  exact ⟨a.toNat, by omega, by omega⟩

set_option maxRecDepth 100000 in
theorem all_OwnerSpares : ((List.range 256).all fun (i : Nat) => (List.range 256).all fun (j : Nat) => garderobelaw19_OwnerSpares.f 12 (i : Int) (j : Int) == some true) = true := by decide +kernel

theorem OwnerSpares : garderobelaw19_OwnerSpares.Pure := by
  intro a b ha hb
  obtain ⟨i, hi, rfl⟩ := byte_OwnerSpares ha
  obtain ⟨j, hj, rfl⟩ := byte_OwnerSpares hb
  have h := List.all_eq_true.1 (List.all_eq_true.1 all_OwnerSpares i (List.mem_range.2 hi)) j (List.mem_range.2 hj)
  exact ⟨12, eq_of_beq h⟩

end Go.Proofs.Ytbncfbhfenfpjaa.Pure
