/- The row of the law ApduFresh: for every input it returns true, and its arguments read as before. -/
import Derived.Test.YtfloeenjkjimmaaRows
import Derived.Test.YtfloeenjkjimmaaPApduFreshx6
import Derived.Test.YtfloeenjkjimmaaReads
import Derived.Test.YtfloeenjkjimmaaPureApduFresh
import Derived.WalkKit
import Derived.ProofKit
import Derived.OpenShut
import Derived.ShutString
import Derived.ChangeOld
import Derived.Below
import Derived.Carry
import Derived.SizedLaws
namespace Go.Proofs.Ytfloeenjkjimmaa.apduFresh
open Go.ChangeShapes Go.WideShapes Go.ChangeAt Go.RowKit Go.Proofs.Ytfloeenjkjimmaa.PApduFresh Go.Proofs.YtfloeenjkjimmaaW.PrintWords Go.Proofs.YtfloeenjkjimmaaW.Reads
open Go.ChangeMaps (open_string shut_string)
set_option linter.unusedVariables false
set_option linter.unusedSimpArgs false
theorem own : ownKnob Try.prog.godebug = none := by kernel_rfl
theorem laidOut : laidOutB Try.prog = true := by kernel_rfl
set_option maxRecDepth 100000 in
theorem lifted (os : Os) (started : os.Started) (H : Type) (enc : TypeId × Value → H) :
    ReturnsInHanded {} Try.checked os 5 .any (Rows.apduFreshSpec.pre6 enc Try.prog Try.f5 Rows.apduFreshRow.domain false) (Rows.apduFreshSpec.post enc Try.prog Try.f5 false true false false) := by
  refine returnsInHanded_of_change_sized (C := Try.checked) own started (by kernel_rfl) Try.func5
    (ChangeSpec.witness6 (enc := enc) (C := Try.checked) false ⟨#[], #[.slice none 0 0, .agg #[.int .i64 0, .int .u8 0, .int .u8 0, .int .u8 0, .int .u8 0, .slice none 0 0, .int .i64 0]], []⟩ 8 (by kernel_rfl) (by kernel_rfl) (by kernel_rfl) (by kernel_rfl)) ?_
  intro W base args ds gs before hval0 hW hcnd hsz0 _
  have hsz : (DataW.weightsEach Try.prog (Try.f5.params.toList ++ Rows.apduFreshSpec.plain.varTypes Try.prog) (ds ++ gs)).all (· ≤ reachBytes) = true := hsz0
  have hval : ∀ (j : Nat) t v, Try.f5.params[j]? = some t → args[j]? = some v → Value.okWide Try.prog W .any base t v := hval0
  have hW' := hW
  obtain ⟨p, q, hA0, hV, rfl, hfz, hnd⟩ := hW
  have hA : DataW.TrodAll enc Try.prog W 0 (fun _ => true) true Try.f5.params.toList args.toList ds p := hA0
  rw [Try.params5] at hA hval hsz
  obtain ⟨v0, vs0, d0, ds0, p0, q0, hargs, rfl, rfl, h0, r0⟩ := trodAll_cons hA
  obtain ⟨v1, vs1, d1, ds1, p1, q1, rfl, rfl, rfl, h1, r1⟩ := trodAll_cons r0
  obtain ⟨rfl, rfl, rfl⟩ := trodAll_nil r1
  obtain rfl : args = #[v0, v1] := by cases args; simp_all
  obtain ⟨rfl, rfl⟩ := trodVars_none hV
  have k0 := h0
  have lt0 : ∀ x ∈ p0, x.block < W.heap.size := by obtain ⟨m, hm⟩ := k0; exact DataW.trod_lt m _ _ _ hm
  obtain ⟨a0, hK0, g0⟩ := rd_arg (d := (Kd.slice 5 (Kd.int .u8))) (rd_slice (d := (Kd.int .u8)) (B := 1) Try.underlying22 (by kernel_rfl) (by kernel_rfl) (rd_int Try.underlying5)) hsz (j := 0) (t := 22) rfl rfl h0
  obtain ⟨A0, len0, c0, rfl⟩ := okWide_slice Try.underlying22 (hval 0 22 v0 rfl rfl)
  obtain ⟨A_, c_, he, hc0, hr0⟩ := hK0
  simp only [Value.cells, List.cons.injEq, Value.slice.injEq, and_true] at he
  obtain ⟨rfl, rfl, rfl⟩ := he
  have k1 := h1
  have lt1 : ∀ x ∈ p1, x.block < W.heap.size := by obtain ⟨m, hm⟩ := k1; exact DataW.trod_lt m _ _ _ hm
  obtain ⟨a1, hK1, g1⟩ := rd_arg (d := (Kd.pair (Kd.int .i64) (Kd.pair (Kd.int .u8) (Kd.pair (Kd.int .u8) (Kd.pair (Kd.int .u8) (Kd.pair (Kd.int .u8) (Kd.pair (Kd.slice 5 (Kd.int .u8)) (Kd.int .i64)))))))) (rd_struct Try.underlying25 (by kernel_rfl) (rdfs_cons (d := (Kd.int .i64)) rfl (by kernel_rfl) (rd_int Try.underlying3) (rdfs_cons (d := (Kd.int .u8)) rfl (by kernel_rfl) (rd_int Try.underlying5) (rdfs_cons (d := (Kd.int .u8)) rfl (by kernel_rfl) (rd_int Try.underlying5) (rdfs_cons (d := (Kd.int .u8)) rfl (by kernel_rfl) (rd_int Try.underlying5) (rdfs_cons (d := (Kd.int .u8)) rfl (by kernel_rfl) (rd_int Try.underlying5) (rdfs_cons (d := (Kd.slice 5 (Kd.int .u8))) rfl (by kernel_rfl) (rd_slice (d := (Kd.int .u8)) (B := 1) Try.underlying22 (by kernel_rfl) (by kernel_rfl) (rd_int Try.underlying5)) (rdfs_one (d := (Kd.int .i64)) rfl (by kernel_rfl) (rd_int Try.underlying3))))))))) hsz (j := 1) (t := 25) rfl rfl h1
  obtain ⟨cs1, rfl, hcs1⟩ := okWide_struct Try.underlying25 (hval 1 25 v1 rfl rfl)
  obtain ⟨_, _, he, rfl, ⟨_, _, rfl, rfl, ⟨_, _, rfl, rfl, ⟨_, _, rfl, rfl, ⟨_, _, rfl, rfl, ⟨_, _, rfl, ⟨A1_5, c1_5, rfl, hc1_5, hr1_5⟩, rfl⟩⟩⟩⟩⟩⟩ := hK1
  obtain rfl : cs1 = #[.int .i64 a1.1, .int .u8 a1.2.1, .int .u8 a1.2.2.1, .int .u8 a1.2.2.2.1, .int .u8 a1.2.2.2.2.1, .slice A1_5 a1.2.2.2.2.2.1.length c1_5, .int .i64 a1.2.2.2.2.2.2] := by apply Array.ext'; exact he
  clear he
  clear hA0 hval0 hsz0 hsz
  obtain ⟨k_, hp⟩ := Pure.ApduFresh (a0) (a1.1) (a1.2.1) (a1.2.2.1) (a1.2.2.2.1) (a1.2.2.2.2.1) (a1.2.2.2.2.2.1) (a1.2.2.2.2.2.2) (by first | exact g0 | (simp only [and_assoc] at *; exact g0) | simp_all) (by first | exact g1.1 | (simp only [and_assoc] at *; exact g1.1) | simp_all) (by first | exact g1.2.1 | (simp only [and_assoc] at *; exact g1.2.1) | simp_all) (by first | exact g1.2.2.1 | (simp only [and_assoc] at *; exact g1.2.2.1) | simp_all) (by first | exact g1.2.2.2.1 | (simp only [and_assoc] at *; exact g1.2.2.2.1) | simp_all) (by first | exact g1.2.2.2.2.1 | (simp only [and_assoc] at *; exact g1.2.2.2.2.1) | simp_all) (by first | exact g1.2.2.2.2.2.1 | (simp only [and_assoc] at *; exact g1.2.2.2.2.2.1) | simp_all) (by first | exact g1.2.2.2.2.2.2 | (simp only [and_assoc] at *; exact g1.2.2.2.2.2.2) | simp_all)
  refine (garderobelaw28_ApduFresh.calls k_ A0 c0 (a0) (a1.1) (a1.2.1) (a1.2.2.1) (a1.2.2.2.1) (a1.2.2.2.2.1) A1_5 c1_5 (a1.2.2.2.2.2.1) (a1.2.2.2.2.2.2) true W hr0 hc0 hr1_5 hc1_5 hp).mono fun e W' ⟨he, bel⟩ => ?_
  subst he
  exact ⟨_, rfl, _, _, _, [], _, [], hW', trodAll_mk1 (shut_bool Try.underlying4 _), (trodAll_cons_mk (Below.trod laidOut (by kernel_rfl) (of_decide_eq_true (by kernel_rfl)) k0 bel lt0) (trodAll_cons_mk (Below.trod laidOut (by kernel_rfl) (of_decide_eq_true (by kernel_rfl)) k1 bel lt1) trodAll_mk0)), rfl, bel.frame _, fun h => by cases h⟩
theorem over : Rows.apduFreshRow.holds Try.pinned (OpenSpec.ofChange Rows.apduFreshSpec) :=
  OpenClaim.holds_of_wide 5 Try.f5 rfl rfl rfl rfl rfl rfl rfl ⟨rfl, rfl, rfl, rfl, rfl⟩ rfl rfl rfl rfl rfl (by kernel_rfl) Try.func5 (by kernel_rfl)
    (of_decide_eq_true (by kernel_rfl)) (by unfold Func.isWrapper; first | (rw [if_pos (by decide +kernel)]; kernel_rfl) | (rw [if_neg (by decide +kernel)]; exact ⟨rfl, rfl⟩))
    (fun os started H enc _ => lifted os started H enc)
theorem proved : Rows.ApduFreshSaid := over
end Go.Proofs.Ytfloeenjkjimmaa.apduFresh
namespace Go.Proofs.Ytfloeenjkjimmaa
/-- The row, under a short name, for the claim. -/
theorem apduFresh_holds : Rows.ApduFreshSaid := apduFresh.proved
end Go.Proofs.Ytfloeenjkjimmaa
