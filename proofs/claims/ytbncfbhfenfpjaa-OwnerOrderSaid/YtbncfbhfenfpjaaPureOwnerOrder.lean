/- Join is the same in both orders, of three in each, and of one with itself; it is the lowest above both: for all bytes. -/
import Derived.Test.YtbncfbhfenfpjaaPOwnerOrderx2
namespace Go.Proofs.Ytbncfbhfenfpjaa.Pure
open Go.RowKit Go.Proofs.Ytbncfbhfenfpjaa.POwnerOrder Go.Proofs.YtbncfbhfenfpjaaW.PrintWords Go.Proofs.YtbncfbhfenfpjaaW.PrintLast

theorem byte_OwnerOrder {a : Int} (h : (Lit.int .u8 a).wf = true) : ∃ n : Nat, n < 256 ∧ a = (n : Int) := by
  simp [Lit.wf, IntKind.min, IntKind.max, IntKind.signed, IntKind.bits] at h
  exact ⟨a.toNat, by omega, by omega⟩

theorem mod_OwnerOrder (n : Nat) : (1 + Int.tmod (n : Int) 5) % 256 = (((1 + n % 5 : Nat)) : Int) := by
  rw [Int.tmod_eq_emod_of_nonneg (by omega)]
  omega

set_option maxRecDepth 100000 in
theorem all_OwnerOrder : ((List.range 5).all fun (i : Nat) => (List.range 5).all fun (j : Nat) => (List.range 5).all fun (l : Nat) => garderobelaw19_OwnerOrder.f 12 (i : Int) (j : Int) (l : Int) == some true) = true := by decide +kernel

theorem OwnerOrder : garderobelaw19_OwnerOrder.Pure := by
  intro a b c ha hb hc
  obtain ⟨i, hi, rfl⟩ := byte_OwnerOrder ha
  obtain ⟨j, hj, rfl⟩ := byte_OwnerOrder hb
  obtain ⟨l, hl, rfl⟩ := byte_OwnerOrder hc
  have hi5 : i % 5 < 5 := Nat.mod_lt _ (by omega)
  have hj5 : j % 5 < 5 := Nat.mod_lt _ (by omega)
  have hl5 : l % 5 < 5 := Nat.mod_lt _ (by omega)
  have h := List.all_eq_true.1 (List.all_eq_true.1 (List.all_eq_true.1 all_OwnerOrder (i % 5) (List.mem_range.2 hi5)) (j % 5) (List.mem_range.2 hj5)) (l % 5) (List.mem_range.2 hl5)
  have h2 := eq_of_beq h
  refine ⟨12, ?_⟩
  unfold garderobelaw19_OwnerOrder.f at h2 ⊢
  simp only [mod_OwnerOrder, Nat.mod_mod] at h2 ⊢
  exact h2

end Go.Proofs.Ytbncfbhfenfpjaa.Pure
