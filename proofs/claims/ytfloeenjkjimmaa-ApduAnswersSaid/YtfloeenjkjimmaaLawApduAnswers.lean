/- The row of the law ApduAnswers: for every input it returns true, and its arguments read as before. -/
import Derived.Test.YtfloeenjkjimmaaRows
import Derived.Test.YtfloeenjkjimmaaPApduAnswersx4
import Derived.Test.YtfloeenjkjimmaaReads
import Derived.Test.YtfloeenjkjimmaaPureApduAnswers
import Derived.WalkKit
import Derived.ProofKit
import Derived.OpenShut
import Derived.ShutString
import Derived.ChangeOld
import Derived.Below
import Derived.Carry
import Derived.SizedLaws
namespace Go.Proofs.Ytfloeenjkjimmaa.apduAnswers
open Go.ChangeShapes Go.WideShapes Go.ChangeAt Go.RowKit Go.Proofs.Ytfloeenjkjimmaa.PApduAnswers Go.Proofs.YtfloeenjkjimmaaW.PrintWords Go.Proofs.YtfloeenjkjimmaaW.Reads
open Go.ChangeMaps (open_string shut_string)
set_option linter.unusedVariables false
set_option linter.unusedSimpArgs false
theorem own : ownKnob Try.prog.godebug = none := by kernel_rfl
theorem laidOut : laidOutB Try.prog = true := by kernel_rfl
set_option maxRecDepth 100000 in
theorem lifted (os : Os) (started : os.Started) (H : Type) (enc : TypeId × Value → H) :
    ReturnsInHanded {} Try.checked os 3 .any (Rows.apduAnswersSpec.pre6 enc Try.prog Try.f3 Rows.apduAnswersRow.domain false) (Rows.apduAnswersSpec.post enc Try.prog Try.f3 false true false false) := by
  refine returnsInHanded_of_change_sized (C := Try.checked) own started (by kernel_rfl) Try.func3
    (ChangeSpec.witness6 (enc := enc) (C := Try.checked) false ⟨#[], #[.slice none 0 0, .int .u16 0, .slice none 0 0, .agg #[.int .i64 0, .int .u8 0, .int .u8 0, .int .u8 0, .int .u8 0, .slice none 0 0, .int .i64 0]], []⟩ 8 (by kernel_rfl) (by kernel_rfl) (by kernel_rfl) (by kernel_rfl)) ?_
  intro W base args ds gs before hval0 hW hcnd hsz0 _
  have hsz : (DataW.weightsEach Try.prog (Try.f3.params.toList ++ Rows.apduAnswersSpec.plain.varTypes Try.prog) (ds ++ gs)).all (· ≤ reachBytes) = true := hsz0
  have hval : ∀ (j : Nat) t v, Try.f3.params[j]? = some t → args[j]? = some v → Value.okWide Try.prog W .any base t v := hval0
  have hW' := hW
  obtain ⟨p, q, hA0, hV, rfl, hfz, hnd⟩ := hW
  have hA : DataW.TrodAll enc Try.prog W 0 (fun _ => true) true Try.f3.params.toList args.toList ds p := hA0
  rw [Try.params3] at hA hval hsz
  obtain ⟨v0, vs0, d0, ds0, p0, q0, hargs, rfl, rfl, h0, r0⟩ := trodAll_cons hA
  obtain ⟨v1, vs1, d1, ds1, p1, q1, rfl, rfl, rfl, h1, r1⟩ := trodAll_cons r0
  obtain ⟨v2, vs2, d2, ds2, p2, q2, rfl, rfl, rfl, h2, r2⟩ := trodAll_cons r1
  obtain ⟨v3, vs3, d3, ds3, p3, q3, rfl, rfl, rfl, h3, r3⟩ := trodAll_cons r2
  obtain ⟨rfl, rfl, rfl⟩ := trodAll_nil r3
  obtain rfl : args = #[v0, v1, v2, v3] := by cases args; simp_all
  obtain ⟨rfl, rfl⟩ := trodVars_none hV
  have k0 := h0
  have lt0 : ∀ x ∈ p0, x.block < W.heap.size := by obtain ⟨m, hm⟩ := k0; exact DataW.trod_lt m _ _ _ hm
  obtain ⟨a0, hK0, g0⟩ := rd_arg (d := (Kd.slice 5 (Kd.int .u8))) (rd_slice (d := (Kd.int .u8)) (B := 1) Try.underlying22 (by kernel_rfl) (by kernel_rfl) (rd_int Try.underlying5)) hsz (j := 0) (t := 22) rfl rfl h0
  obtain ⟨A0, len0, c0, rfl⟩ := okWide_slice Try.underlying22 (hval 0 22 v0 rfl rfl)
  obtain ⟨A_, c_, he, hc0, hr0⟩ := hK0
  simp only [Value.cells, List.cons.injEq, Value.slice.injEq, and_true] at he
  obtain ⟨rfl, rfl, rfl⟩ := he
  obtain ⟨a1, rfl, rfl, rfl, w1⟩ := open_int Try.underlying23 (hval 1 23 v1 rfl rfl) h1
  have k2 := h2
  have lt2 : ∀ x ∈ p2, x.block < W.heap.size := by obtain ⟨m, hm⟩ := k2; exact DataW.trod_lt m _ _ _ hm
  obtain ⟨a2, hK2, g2⟩ := rd_arg (d := (Kd.slice 5 (Kd.int .u8))) (rd_slice (d := (Kd.int .u8)) (B := 1) Try.underlying22 (by kernel_rfl) (by kernel_rfl) (rd_int Try.underlying5)) hsz (j := 2) (t := 22) rfl rfl h2
  obtain ⟨A2, len2, c2, rfl⟩ := okWide_slice Try.underlying22 (hval 2 22 v2 rfl rfl)
  obtain ⟨A_, c_, he, hc2, hr2⟩ := hK2
  simp only [Value.cells, List.cons.injEq, Value.slice.injEq, and_true] at he
  obtain ⟨rfl, rfl, rfl⟩ := he
  have k3 := h3
  have lt3 : ∀ x ∈ p3, x.block < W.heap.size := by obtain ⟨m, hm⟩ := k3; exact DataW.trod_lt m _ _ _ hm
  obtain ⟨a3, hK3, g3⟩ := rd_arg (d := (Kd.pair (Kd.int .i64) (Kd.pair (Kd.int .u8) (Kd.pair (Kd.int .u8) (Kd.pair (Kd.int .u8) (Kd.pair (Kd.int .u8) (Kd.pair (Kd.slice 5 (Kd.int .u8)) (Kd.int .i64)))))))) (rd_struct Try.underlying25 (by kernel_rfl) (rdfs_cons (d := (Kd.int .i64)) rfl (by kernel_rfl) (rd_int Try.underlying3) (rdfs_cons (d := (Kd.int .u8)) rfl (by kernel_rfl) (rd_int Try.underlying5) (rdfs_cons (d := (Kd.int .u8)) rfl (by kernel_rfl) (rd_int Try.underlying5) (rdfs_cons (d := (Kd.int .u8)) rfl (by kernel_rfl) (rd_int Try.underlying5) (rdfs_cons (d := (Kd.int .u8)) rfl (by kernel_rfl) (rd_int Try.underlying5) (rdfs_cons (d := (Kd.slice 5 (Kd.int .u8))) rfl (by kernel_rfl) (rd_slice (d := (Kd.int .u8)) (B := 1) Try.underlying22 (by kernel_rfl) (by kernel_rfl) (rd_int Try.underlying5)) (rdfs_one (d := (Kd.int .i64)) rfl (by kernel_rfl) (rd_int Try.underlying3))))))))) hsz (j := 3) (t := 25) rfl rfl h3
  obtain ⟨cs3, rfl, hcs3⟩ := okWide_struct Try.underlying25 (hval 3 25 v3 rfl rfl)
  obtain ⟨_, _, he, rfl, ⟨_, _, rfl, rfl, ⟨_, _, rfl, rfl, ⟨_, _, rfl, rfl, ⟨_, _, rfl, rfl, ⟨_, _, rfl, ⟨A3_5, c3_5, rfl, hc3_5, hr3_5⟩, rfl⟩⟩⟩⟩⟩⟩ := hK3
  obtain rfl : cs3 = #[.int .i64 a3.1, .int .u8 a3.2.1, .int .u8 a3.2.2.1, .int .u8 a3.2.2.2.1, .int .u8 a3.2.2.2.2.1, .slice A3_5 a3.2.2.2.2.2.1.length c3_5, .int .i64 a3.2.2.2.2.2.2] := by apply Array.ext'; exact he
  clear he
  clear hA0 hval0 hsz0 hsz
  obtain ⟨k_, hp⟩ := Pure.ApduAnswers (a0) (a1) (a2) (a3.1) (a3.2.1) (a3.2.2.1) (a3.2.2.2.1) (a3.2.2.2.2.1) (a3.2.2.2.2.2.1) (a3.2.2.2.2.2.2) (by first | exact g0 | (simp only [and_assoc] at *; exact g0) | simp_all) (by first | exact w1 | (simp only [and_assoc] at *; exact w1) | simp_all) (by first | exact g2 | (simp only [and_assoc] at *; exact g2) | simp_all) (by first | exact g3.1 | (simp only [and_assoc] at *; exact g3.1) | simp_all) (by first | exact g3.2.1 | (simp only [and_assoc] at *; exact g3.2.1) | simp_all) (by first | exact g3.2.2.1 | (simp only [and_assoc] at *; exact g3.2.2.1) | simp_all) (by first | exact g3.2.2.2.1 | (simp only [and_assoc] at *; exact g3.2.2.2.1) | simp_all) (by first | exact g3.2.2.2.2.1 | (simp only [and_assoc] at *; exact g3.2.2.2.2.1) | simp_all) (by first | exact g3.2.2.2.2.2.1 | (simp only [and_assoc] at *; exact g3.2.2.2.2.2.1) | simp_all) (by first | exact g3.2.2.2.2.2.2 | (simp only [and_assoc] at *; exact g3.2.2.2.2.2.2) | simp_all)
  refine (garderobelaw28_ApduAnswers.calls k_ A0 c0 (a0) (a1) A2 c2 (a2) (a3.1) (a3.2.1) (a3.2.2.1) (a3.2.2.2.1) (a3.2.2.2.2.1) A3_5 c3_5 (a3.2.2.2.2.2.1) (a3.2.2.2.2.2.2) true W hr0 hc0 hr2 hc2 hr3_5 hc3_5 hp).mono fun e W' ⟨he, bel⟩ => ?_
  subst he
  exact ⟨_, rfl, _, _, _, [], _, [], hW', trodAll_mk1 (shut_bool Try.underlying4 _), (trodAll_cons_mk (Below.trod laidOut (by kernel_rfl) (of_decide_eq_true (by kernel_rfl)) k0 bel lt0) (trodAll_cons_mk (shut_int Try.underlying23 w1) (trodAll_cons_mk (Below.trod laidOut (by kernel_rfl) (of_decide_eq_true (by kernel_rfl)) k2 bel lt2) (trodAll_cons_mk (Below.trod laidOut (by kernel_rfl) (of_decide_eq_true (by kernel_rfl)) k3 bel lt3) trodAll_mk0)))), rfl, bel.frame _, fun h => by cases h⟩
theorem over : Rows.apduAnswersRow.holds Try.pinned (OpenSpec.ofChange Rows.apduAnswersSpec) :=
  OpenClaim.holds_of_wide 3 Try.f3 rfl rfl rfl rfl rfl rfl rfl ⟨rfl, rfl, rfl, rfl, rfl⟩ rfl rfl rfl rfl rfl (by kernel_rfl) Try.func3 (by kernel_rfl)
    (of_decide_eq_true (by kernel_rfl)) (by unfold Func.isWrapper; first | (rw [if_pos (by decide +kernel)]; kernel_rfl) | (rw [if_neg (by decide +kernel)]; exact ⟨rfl, rfl⟩))
    (fun os started H enc _ => lifted os started H enc)
theorem proved : Rows.ApduAnswersSaid := over
end Go.Proofs.Ytfloeenjkjimmaa.apduAnswers
namespace Go.Proofs.Ytfloeenjkjimmaa
/-- The row, under a short name, for the claim. -/
theorem apduAnswers_holds : Rows.ApduAnswersSaid := apduAnswers.proved
end Go.Proofs.Ytfloeenjkjimmaa
