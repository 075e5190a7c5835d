/- What is spared of a guess is spared of each one below it; Passed is below the guess and rises with it; what was looked at is spared behind it: for all bytes. -/
import Derived.Test.YtbncfbhfenfpjaaPOwnerDownx2
namespace Go.Proofs.Ytbncfbhfenfpjaa.Pure
open Go.RowKit Go.Proofs.Ytbncfbhfenfpjaa.POwnerDown Go.Proofs.YtbncfbhfenfpjaaW.PrintWords Go.Proofs.YtbncfbhfenfpjaaW.PrintLast

theorem byte_OwnerDown {a : Int} (h : (Lit.int .u8 a).wf = true) : ∃ n : Nat, n < 256 ∧ a = (n : Int) := by
  simp [Lit.wf, IntKind.min, IntKind.max, IntKind.signed, IntKind.bits] at h
  exact ⟨a.toNat, by omega, by omega⟩

theorem mod_OwnerDown (n : Nat) : (1 + Int.tmod (n : Int) 5) % 256 = (((1 + n % 5 : Nat)) : Int) := by
  rw [Int.tmod_eq_emod_of_nonneg (by omega)]
  omega

set_option maxRecDepth 100000 in
theorem all_OwnerDown : ((List.range 256).all fun (o : Nat) => (List.range 5).all fun (j : Nat) => (List.range 5).all fun (l : Nat) => garderobelaw19_OwnerDown.f 12 (o : Int) (j : Int) (l : Int) == some true) = true := by decide +kernel

theorem OwnerDown : garderobelaw19_OwnerDown.Pure := by
  intro o b c ho hb hc
  obtain ⟨i, hi, rfl⟩ := byte_OwnerDown ho
  obtain ⟨j, hj, rfl⟩ := byte_OwnerDown hb
  obtain ⟨l, hl, rfl⟩ := byte_OwnerDown hc
  have hj5 : j % 5 < 5 := Nat.mod_lt _ (by omega)
  have hl5 : l % 5 < 5 := Nat.mod_lt _ (by omega)
  have h := List.all_eq_true.1 (List.all_eq_true.1 (List.all_eq_true.1 all_OwnerDown i (List.mem_range.2 hi)) (j % 5) (List.mem_range.2 hj5)) (l % 5) (List.mem_range.2 hl5)
  have h2 := eq_of_beq h
  refine ⟨12, ?_⟩
  unfold garderobelaw19_OwnerDown.f at h2 ⊢
  simp only [mod_OwnerDown, Nat.mod_mod] at h2 ⊢
  exact h2

end Go.Proofs.Ytbncfbhfenfpjaa.Pure
