/- The row of the law AidServes: for every input it returns true, and its arguments read as before. -/
import Derived.Test.YtdplpkngacfacaaRows
import Derived.Test.YtdplpkngacfacaaPAidServesx3
import Derived.Test.YtdplpkngacfacaaReads
import Derived.Test.YtdplpkngacfacaaPureAidServes
import Derived.WalkKit
import Derived.ProofKit
import Derived.OpenShut
import Derived.ShutString
import Derived.ChangeOld
import Derived.Below
import Derived.Carry
import Derived.SizedLaws
namespace Go.Proofs.Ytdplpkngacfacaa.aidServes
open Go.ChangeShapes Go.WideShapes Go.ChangeAt Go.RowKit Go.Proofs.Ytdplpkngacfacaa.PAidServes Go.Proofs.YtdplpkngacfacaaW.PrintWords Go.Proofs.YtdplpkngacfacaaW.Reads
open Go.ChangeMaps (open_string shut_string)
set_option linter.unusedVariables false
set_option linter.unusedSimpArgs false
theorem own : ownKnob Try.prog.godebug = none := by kernel_rfl
theorem laidOut : laidOutB Try.prog = true := by kernel_rfl
set_option maxRecDepth 100000 in
theorem lifted (os : Os) (started : os.Started) (H : Type) (enc : TypeId × Value → H) :
    ReturnsInHanded {} Try.checked os 3 .any (Rows.aidServesSpec.pre6 enc Try.prog Try.f3 Rows.aidServesRow.domain false) (Rows.aidServesSpec.post enc Try.prog Try.f3 false true false false) := by
  refine returnsInHanded_of_change_sized (C := Try.checked) own started (by kernel_rfl) Try.func3
    (ChangeSpec.witness6 (enc := enc) (C := Try.checked) false ⟨#[], #[.agg #[.int .u8 0, .int .u8 0], .agg #[.int .u8 0, .int .u8 0], .int .u8 0], []⟩ 8 (by kernel_rfl) (by kernel_rfl) (by kernel_rfl) (by kernel_rfl)) ?_
  intro W base args ds gs before hval0 hW hcnd hsz0 _
  have hsz : (DataW.weightsEach Try.prog (Try.f3.params.toList ++ Rows.aidServesSpec.plain.varTypes Try.prog) (ds ++ gs)).all (· ≤ reachBytes) = true := hsz0
  have hval : ∀ (j : Nat) t v, Try.f3.params[j]? = some t → args[j]? = some v → Value.okWide Try.prog W .any base t v := hval0
  have hW' := hW
  obtain ⟨p, q, hA0, hV, rfl, hfz, hnd⟩ := hW
  have hA : DataW.TrodAll enc Try.prog W 0 (fun _ => true) true Try.f3.params.toList args.toList ds p := hA0
  rw [Try.params3] at hA hval hsz
  obtain ⟨v0, vs0, d0, ds0, p0, q0, hargs, rfl, rfl, h0, r0⟩ := trodAll_cons hA
  obtain ⟨v1, vs1, d1, ds1, p1, q1, rfl, rfl, rfl, h1, r1⟩ := trodAll_cons r0
  obtain ⟨v2, vs2, d2, ds2, p2, q2, rfl, rfl, rfl, h2, r2⟩ := trodAll_cons r1
  obtain ⟨rfl, rfl, rfl⟩ := trodAll_nil r2
  obtain rfl : args = #[v0, v1, v2] := by cases args; simp_all
  obtain ⟨rfl, rfl⟩ := trodVars_none hV
  have k0 := h0
  have lt0 : ∀ x ∈ p0, x.block < W.heap.size := by obtain ⟨m, hm⟩ := k0; exact DataW.trod_lt m _ _ _ hm
  obtain ⟨a0, hK0, g0⟩ := rd_arg (d := (Kd.pair (Kd.int .u8) (Kd.int .u8))) (rd_struct Try.underlying23 (by kernel_rfl) (rdfs_cons (d := (Kd.int .u8)) rfl (by kernel_rfl) (rd_int Try.underlying5) (rdfs_one (d := (Kd.int .u8)) rfl (by kernel_rfl) (rd_int Try.underlying5)))) hsz (j := 0) (t := 23) rfl rfl h0
  obtain ⟨cs0, rfl, hcs0⟩ := okWide_struct Try.underlying23 (hval 0 23 v0 rfl rfl)
  obtain ⟨_, _, he, rfl, rfl⟩ := hK0
  obtain rfl : cs0 = #[.int .u8 a0.1, .int .u8 a0.2] := by apply Array.ext'; exact he
  clear he
  have k1 := h1
  have lt1 : ∀ x ∈ p1, x.block < W.heap.size := by obtain ⟨m, hm⟩ := k1; exact DataW.trod_lt m _ _ _ hm
  obtain ⟨a1, hK1, g1⟩ := rd_arg (d := (Kd.pair (Kd.int .u8) (Kd.int .u8))) (rd_struct Try.underlying23 (by kernel_rfl) (rdfs_cons (d := (Kd.int .u8)) rfl (by kernel_rfl) (rd_int Try.underlying5) (rdfs_one (d := (Kd.int .u8)) rfl (by kernel_rfl) (rd_int Try.underlying5)))) hsz (j := 1) (t := 23) rfl rfl h1
  obtain ⟨cs1, rfl, hcs1⟩ := okWide_struct Try.underlying23 (hval 1 23 v1 rfl rfl)
  obtain ⟨_, _, he, rfl, rfl⟩ := hK1
  obtain rfl : cs1 = #[.int .u8 a1.1, .int .u8 a1.2] := by apply Array.ext'; exact he
  clear he
  obtain ⟨a2, rfl, rfl, rfl, w2⟩ := open_int Try.underlying5 (hval 2 5 v2 rfl rfl) h2
  clear hA0 hval0 hsz0 hsz
  obtain ⟨k_, hp⟩ := Pure.AidServes (a0.1) (a0.2) (a1.1) (a1.2) (a2) (by first | exact g0.1 | (simp only [and_assoc] at *; exact g0.1) | simp_all) (by first | exact g0.2 | (simp only [and_assoc] at *; exact g0.2) | simp_all) (by first | exact g1.1 | (simp only [and_assoc] at *; exact g1.1) | simp_all) (by first | exact g1.2 | (simp only [and_assoc] at *; exact g1.2) | simp_all) (by first | exact w2 | (simp only [and_assoc] at *; exact w2) | simp_all)
  refine (garderobelaw03_AidServes.calls k_ (a0.1) (a0.2) (a1.1) (a1.2) (a2) true W hp).mono fun e W' ⟨he, bel⟩ => ?_
  subst he
  exact ⟨_, rfl, _, _, _, [], _, [], hW', trodAll_mk1 (shut_bool Try.underlying4 _), (trodAll_cons_mk (Below.trod laidOut (by kernel_rfl) (of_decide_eq_true (by kernel_rfl)) k0 bel lt0) (trodAll_cons_mk (Below.trod laidOut (by kernel_rfl) (of_decide_eq_true (by kernel_rfl)) k1 bel lt1) (trodAll_cons_mk (shut_int Try.underlying5 w2) trodAll_mk0))), rfl, bel.frame _, fun h => by cases h⟩
theorem over : Rows.aidServesRow.holds Try.pinned (OpenSpec.ofChange Rows.aidServesSpec) :=
  OpenClaim.holds_of_wide 3 Try.f3 rfl rfl rfl rfl rfl rfl rfl ⟨rfl, rfl, rfl, rfl, rfl⟩ rfl rfl rfl rfl rfl (by kernel_rfl) Try.func3 (by kernel_rfl)
    (of_decide_eq_true (by kernel_rfl)) (by unfold Func.isWrapper; first | (rw [if_pos (by decide +kernel)]; kernel_rfl) | (rw [if_neg (by decide +kernel)]; exact ⟨rfl, rfl⟩))
    (fun os started H enc _ => lifted os started H enc)
theorem proved : Rows.AidServesSaid := over
end Go.Proofs.Ytdplpkngacfacaa.aidServes
namespace Go.Proofs.Ytdplpkngacfacaa
/-- The row, under a short name, for the claim. -/
theorem aidServes_holds : Rows.AidServesSaid := aidServes.proved
end Go.Proofs.Ytdplpkngacfacaa
