/- The row of the law ChansOne: for every input it returns true, and its arguments read as before. -/
import Derived.Test.YtkfaimhjdfpjhaaRows
import Derived.Test.YtkfaimhjdfpjhaaPChansOnex1
import Derived.Test.YtkfaimhjdfpjhaaReads
import Derived.Test.YtkfaimhjdfpjhaaPureChansOne
import Derived.WalkKit
import Derived.ProofKit
import Derived.OpenShut
import Derived.ShutString
import Derived.ChangeOld
import Derived.Below
import Derived.Carry
import Derived.SizedLaws
namespace Go.Proofs.Ytkfaimhjdfpjhaa.chansOne
open Go.ChangeShapes Go.WideShapes Go.ChangeAt Go.RowKit Go.Proofs.Ytkfaimhjdfpjhaa.PChansOne Go.Proofs.YtkfaimhjdfpjhaaW.PrintWords Go.Proofs.YtkfaimhjdfpjhaaW.Reads
open Go.ChangeMaps (open_string shut_string)
set_option linter.unusedVariables false
set_option linter.unusedSimpArgs false
theorem own : ownKnob Try.prog.godebug = none := by kernel_rfl
theorem laidOut : laidOutB Try.prog = true := by kernel_rfl
set_option maxRecDepth 100000 in
theorem lifted (os : Os) (started : os.Started) (H : Type) (enc : TypeId × Value → H) :
    ReturnsInHanded {} Try.checked os 4 .any (Rows.chansOneSpec.pre6 enc Try.prog Try.f4 Rows.chansOneRow.domain false) (Rows.chansOneSpec.post enc Try.prog Try.f4 false true false false) := by
  refine returnsInHanded_of_change_sized (C := Try.checked) own started (by kernel_rfl) Try.func4
    (ChangeSpec.witness6 (enc := enc) (C := Try.checked) false ⟨#[], #[.slice none 0 0], []⟩ 8 (by kernel_rfl) (by kernel_rfl) (by kernel_rfl) (by kernel_rfl)) ?_
  intro W base args ds gs before hval0 hW hcnd hsz0 _
  have hsz : (DataW.weightsEach Try.prog (Try.f4.params.toList ++ Rows.chansOneSpec.plain.varTypes Try.prog) (ds ++ gs)).all (· ≤ reachBytes) = true := hsz0
  have hval : ∀ (j : Nat) t v, Try.f4.params[j]? = some t → args[j]? = some v → Value.okWide Try.prog W .any base t v := hval0
  have hW' := hW
  obtain ⟨p, q, hA0, hV, rfl, hfz, hnd⟩ := hW
  have hA : DataW.TrodAll enc Try.prog W 0 (fun _ => true) true Try.f4.params.toList args.toList ds p := hA0
  rw [Try.params4] at hA hval hsz
  obtain ⟨v0, vs0, d0, ds0, p0, q0, hargs, rfl, rfl, h0, r0⟩ := trodAll_cons hA
  obtain ⟨rfl, rfl, rfl⟩ := trodAll_nil r0
  obtain rfl : args = #[v0] := by cases args; simp_all
  obtain ⟨rfl, rfl⟩ := trodVars_none hV
  have k0 := h0
  have lt0 : ∀ x ∈ p0, x.block < W.heap.size := by obtain ⟨m, hm⟩ := k0; exact DataW.trod_lt m _ _ _ hm
  obtain ⟨a0, hK0, g0⟩ := rd_arg (d := (Kd.slice 49 k49)) (rd_slice (d := k49) (B := 24) Try.underlying22 (by kernel_rfl) (by kernel_rfl) (rd_iso (fun a => (⟨a.1, a.2.1, a.2.2⟩ : S49)) (fun _ => rfl) (rd_struct Try.underlying49 (by kernel_rfl) (rdfs_cons (d := (Kd.int .i64)) rfl (by kernel_rfl) (rd_int Try.underlying3) (rdfs_cons (d := (Kd.int .i64)) rfl (by kernel_rfl) (rd_int Try.underlying3) (rdfs_one (d := (Kd.int .i64)) rfl (by kernel_rfl) (rd_int Try.underlying3))))))) hsz (j := 0) (t := 22) rfl rfl h0
  obtain ⟨A0, len0, c0, rfl⟩ := okWide_slice Try.underlying22 (hval 0 22 v0 rfl rfl)
  obtain ⟨A_, c_, he, hc0, hr0⟩ := hK0
  simp only [Value.cells, List.cons.injEq, Value.slice.injEq, and_true] at he
  obtain ⟨rfl, rfl, rfl⟩ := he
  clear hA0 hval0 hsz0 hsz
  have hp := Pure.ChansOne (a0) g0
  refine (garderobelaw29_ChansOne.calls A0 c0 (a0) true W hr0 hc0 hp).mono fun e W' ⟨he, bel⟩ => ?_
  subst he
  exact ⟨_, rfl, _, _, _, [], _, [], hW', trodAll_mk1 (shut_bool Try.underlying4 _), (trodAll_cons_mk (Below.trod laidOut (by kernel_rfl) (of_decide_eq_true (by kernel_rfl)) k0 bel lt0) trodAll_mk0), rfl, bel.frame _, fun h => by cases h⟩
theorem over : Rows.chansOneRow.holds Try.pinned (OpenSpec.ofChange Rows.chansOneSpec) :=
  OpenClaim.holds_of_wide 4 Try.f4 rfl rfl rfl rfl rfl rfl rfl ⟨rfl, rfl, rfl, rfl, rfl⟩ rfl rfl rfl rfl rfl (by kernel_rfl) Try.func4 (by kernel_rfl)
    (of_decide_eq_true (by kernel_rfl)) (by unfold Func.isWrapper; first | (rw [if_pos (by decide +kernel)]; kernel_rfl) | (rw [if_neg (by decide +kernel)]; exact ⟨rfl, rfl⟩))
    (fun os started H enc _ => lifted os started H enc)
theorem proved : Rows.ChansOneSaid := over
end Go.Proofs.Ytkfaimhjdfpjhaa.chansOne
namespace Go.Proofs.Ytkfaimhjdfpjhaa
/-- The row, under a short name, for the claim. -/
theorem chansOne_holds : Rows.ChansOneSaid := chansOne.proved
end Go.Proofs.Ytkfaimhjdfpjhaa
