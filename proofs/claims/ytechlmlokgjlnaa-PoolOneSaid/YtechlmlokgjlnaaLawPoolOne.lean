/- The row of the law PoolOne: for every input it returns true, and its arguments read as before. -/
import Derived.Test.YtechlmlokgjlnaaRows
import Derived.Test.YtechlmlokgjlnaaPPoolOnex2
import Derived.Test.YtechlmlokgjlnaaReads
import Derived.Test.YtechlmlokgjlnaaPurePoolOne
import Derived.WalkKit
import Derived.ProofKit
import Derived.OpenShut
import Derived.ShutString
import Derived.ChangeOld
import Derived.Below
import Derived.Carry
import Derived.SizedLaws
namespace Go.Proofs.Ytechlmlokgjlnaa.poolOne
open Go.ChangeShapes Go.WideShapes Go.ChangeAt Go.RowKit Go.Proofs.Ytechlmlokgjlnaa.PPoolOne Go.Proofs.YtechlmlokgjlnaaW.PrintWords Go.Proofs.YtechlmlokgjlnaaW.Reads
open Go.ChangeMaps (open_string shut_string)
set_option linter.unusedVariables false
set_option linter.unusedSimpArgs false
theorem own : ownKnob Try.prog.godebug = none := by kernel_rfl
theorem laidOut : laidOutB Try.prog = true := by kernel_rfl
set_option maxRecDepth 100000 in
theorem lifted (os : Os) (started : os.Started) (H : Type) (enc : TypeId × Value → H) :
    ReturnsInHanded {} Try.checked os 6 .any (Rows.poolOneSpec.pre6 enc Try.prog Try.f6 Rows.poolOneRow.domain false) (Rows.poolOneSpec.post enc Try.prog Try.f6 false true false false) := by
  refine returnsInHanded_of_change_sized (C := Try.checked) own started (by kernel_rfl) Try.func6
    (ChangeSpec.witness6 (enc := enc) (C := Try.checked) false ⟨#[], #[.slice none 0 0], []⟩ 8 (by kernel_rfl) (by kernel_rfl) (by kernel_rfl) (by kernel_rfl)) ?_
  intro W base args ds gs before hval0 hW hcnd hsz0 _
  have hsz : (DataW.weightsEach Try.prog (Try.f6.params.toList ++ Rows.poolOneSpec.plain.varTypes Try.prog) (ds ++ gs)).all (· ≤ reachBytes) = true := hsz0
  have hval : ∀ (j : Nat) t v, Try.f6.params[j]? = some t → args[j]? = some v → Value.okWide Try.prog W .any base t v := hval0
  have hW' := hW
  obtain ⟨p, q, hA0, hV, rfl, hfz, hnd⟩ := hW
  have hA : DataW.TrodAll enc Try.prog W 0 (fun _ => true) true Try.f6.params.toList args.toList ds p := hA0
  rw [Try.params6] at hA hval hsz
  obtain ⟨v0, vs0, d0, ds0, p0, q0, hargs, rfl, rfl, h0, r0⟩ := trodAll_cons hA
  obtain ⟨rfl, rfl, rfl⟩ := trodAll_nil r0
  obtain rfl : args = #[v0] := by cases args; simp_all
  obtain ⟨rfl, rfl⟩ := trodVars_none hV
  have k0 := h0
  have lt0 : ∀ x ∈ p0, x.block < W.heap.size := by obtain ⟨m, hm⟩ := k0; exact DataW.trod_lt m _ _ _ hm
  obtain ⟨a0, hK0, g0⟩ := rd_arg (d := (Kd.slice 43 k43)) (rd_slice (d := k43) (B := 10) Try.underlying30 (by kernel_rfl) (by kernel_rfl) (rd_iso (fun a => (⟨a.1, a.2.1, a.2.2.1, a.2.2.2.1, a.2.2.2.2.1, a.2.2.2.2.2.1, a.2.2.2.2.2.2⟩ : S43)) (fun _ => rfl) (rd_struct Try.underlying43 (by kernel_rfl) (rdfs_cons (d := (Kd.int .u8)) rfl (by kernel_rfl) (rd_int Try.underlying41) (rdfs_cons (d := (Kd.int .u16)) rfl (by kernel_rfl) (rd_int Try.underlying22) (rdfs_cons (d := (Kd.int .u8)) rfl (by kernel_rfl) (rd_int Try.underlying5) (rdfs_cons (d := Kd.bool) rfl (by kernel_rfl) (rd_bool Try.underlying4) (rdfs_cons (d := (Kd.int .u16)) rfl (by kernel_rfl) (rd_int Try.underlying22) (rdfs_cons (d := (Kd.int .u8)) rfl (by kernel_rfl) (rd_int Try.underlying5) (rdfs_one (d := (Kd.int .u8)) rfl (by kernel_rfl) (rd_int Try.underlying5))))))))))) hsz (j := 0) (t := 30) rfl rfl h0
  obtain ⟨A0, len0, c0, rfl⟩ := okWide_slice Try.underlying30 (hval 0 30 v0 rfl rfl)
  obtain ⟨A_, c_, he, hc0, hr0⟩ := hK0
  simp only [Value.cells, List.cons.injEq, Value.slice.injEq, and_true] at he
  obtain ⟨rfl, rfl, rfl⟩ := he
  clear hA0 hval0 hsz0 hsz
  obtain ⟨k_, hp⟩ := Pure.PoolOne (a0) (by first | exact g0 | (simp only [and_assoc] at *; exact g0) | simp_all)
  refine (garderobelaw07_PoolOne.calls k_ A0 c0 (a0) true W hr0 hc0 hp).mono fun e W' ⟨he, bel⟩ => ?_
  subst he
  exact ⟨_, rfl, _, _, _, [], _, [], hW', trodAll_mk1 (shut_bool Try.underlying4 _), (trodAll_cons_mk (Below.trod laidOut (by kernel_rfl) (of_decide_eq_true (by kernel_rfl)) k0 bel lt0) trodAll_mk0), rfl, bel.frame _, fun h => by cases h⟩
theorem over : Rows.poolOneRow.holds Try.pinned (OpenSpec.ofChange Rows.poolOneSpec) :=
  OpenClaim.holds_of_wide 6 Try.f6 rfl rfl rfl rfl rfl rfl rfl ⟨rfl, rfl, rfl, rfl, rfl⟩ rfl rfl rfl rfl rfl (by kernel_rfl) Try.func6 (by kernel_rfl)
    (of_decide_eq_true (by kernel_rfl)) (by unfold Func.isWrapper; first | (rw [if_pos (by decide +kernel)]; kernel_rfl) | (rw [if_neg (by decide +kernel)]; exact ⟨rfl, rfl⟩))
    (fun os started H enc _ => lifted os started H enc)
theorem proved : Rows.PoolOneSaid := over
end Go.Proofs.Ytechlmlokgjlnaa.poolOne
namespace Go.Proofs.Ytechlmlokgjlnaa
/-- The row, under a short name, for the claim. -/
theorem poolOne_holds : Rows.PoolOneSaid := poolOne.proved
end Go.Proofs.Ytechlmlokgjlnaa
