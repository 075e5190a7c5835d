/- The row of the law ClassBack: for every input it returns true, and its arguments read as before. -/
import Derived.Test.YtjbpdmkalegacaaRows
import Derived.Test.YtjbpdmkalegacaaPClassBackx10
import Derived.Test.YtjbpdmkalegacaaReads
import Derived.Test.YtjbpdmkalegacaaPureClassBack
import Derived.WalkKit
import Derived.ProofKit
import Derived.OpenShut
import Derived.ShutString
import Derived.ChangeOld
import Derived.Below
import Derived.Carry
import Derived.SizedLaws
namespace Go.Proofs.Ytjbpdmkalegacaa.classBack
open Go.ChangeShapes Go.WideShapes Go.ChangeAt Go.RowKit Go.Proofs.Ytjbpdmkalegacaa.PClassBack Go.Proofs.YtjbpdmkalegacaaW.PrintWords Go.Proofs.YtjbpdmkalegacaaW.Reads
open Go.ChangeMaps (open_string shut_string)
set_option linter.unusedVariables false
set_option linter.unusedSimpArgs false
theorem own : ownKnob Try.prog.godebug = none := by kernel_rfl
theorem laidOut : laidOutB Try.prog = true := by kernel_rfl
set_option maxRecDepth 100000 in
theorem lifted (os : Os) (started : os.Started) (H : Type) (enc : TypeId × Value → H) :
    ReturnsInHanded {} Try.checked os 6 .any (Rows.classBackSpec.pre6 enc Try.prog Try.f6 Rows.classBackRow.domain false) (Rows.classBackSpec.post enc Try.prog Try.f6 false true false false) := by
  refine returnsInHanded_of_change_sized (C := Try.checked) own started (by kernel_rfl) Try.func6
    (ChangeSpec.witness6 (enc := enc) (C := Try.checked) false ⟨#[], #[.slice none 0 0, .slice none 0 0], []⟩ 8 (by kernel_rfl) (by kernel_rfl) (by kernel_rfl) (by kernel_rfl)) ?_
  intro W base args ds gs before hval0 hW hcnd hsz0 _
  have hsz : (DataW.weightsEach Try.prog (Try.f6.params.toList ++ Rows.classBackSpec.plain.varTypes Try.prog) (ds ++ gs)).all (· ≤ reachBytes) = true := hsz0
  have hval : ∀ (j : Nat) t v, Try.f6.params[j]? = some t → args[j]? = some v → Value.okWide Try.prog W .any base t v := hval0
  have hW' := hW
  obtain ⟨p, q, hA0, hV, rfl, hfz, hnd⟩ := hW
  have hA : DataW.TrodAll enc Try.prog W 0 (fun _ => true) true Try.f6.params.toList args.toList ds p := hA0
  rw [Try.params6] at hA hval hsz
  obtain ⟨v0, vs0, d0, ds0, p0, q0, hargs, rfl, rfl, h0, r0⟩ := trodAll_cons hA
  obtain ⟨v1, vs1, d1, ds1, p1, q1, rfl, rfl, rfl, h1, r1⟩ := trodAll_cons r0
  obtain ⟨rfl, rfl, rfl⟩ := trodAll_nil r1
  obtain rfl : args = #[v0, v1] := by cases args; simp_all
  obtain ⟨rfl, rfl⟩ := trodVars_none hV
  have k0 := h0
  have lt0 : ∀ x ∈ p0, x.block < W.heap.size := by obtain ⟨m, hm⟩ := k0; exact DataW.trod_lt m _ _ _ hm
  obtain ⟨a0, hK0, g0⟩ := rd_arg (d := (Kd.slice 38 k38)) (rd_slice (d := k38) (B := 104) Try.underlying22 (by kernel_rfl) (by kernel_rfl) (rd_iso (fun a => (⟨a.1, a.2.1, a.2.2.1, a.2.2.2.1, a.2.2.2.2.1, a.2.2.2.2.2⟩ : S38)) (fun _ => rfl) (rd_struct Try.underlying38 (by kernel_rfl) (rdfs_cons (d := (Kd.int .u8)) rfl (by kernel_rfl) (rd_int Try.underlying5) (rdfs_cons (d := (Kd.int .u16)) rfl (by kernel_rfl) (rd_int Try.underlying23) (rdfs_cons (d := (Kd.slice 41 k41)) rfl (by kernel_rfl) (rd_slice (d := k41) (B := 32) Try.underlying33 (by kernel_rfl) (by kernel_rfl) (rd_iso (fun a => (⟨a.1, a.2⟩ : S41)) (fun _ => rfl) (rd_struct Try.underlying41 (by kernel_rfl) (rdfs_cons (d := (Kd.int .u16)) rfl (by kernel_rfl) (rd_int Try.underlying23) (rdfs_one (d := (Kd.slice 5 (Kd.int .u8))) rfl (by kernel_rfl) (rd_slice (d := (Kd.int .u8)) (B := 1) Try.underlying24 (by kernel_rfl) (by kernel_rfl) (rd_int Try.underlying5))))))) (rdfs_cons (d := (Kd.slice 44 k44)) rfl (by kernel_rfl) (rd_slice (d := k44) (B := 4) Try.underlying34 (by kernel_rfl) (by kernel_rfl) (rd_iso (fun a => (⟨a.1, a.2⟩ : S44)) (fun _ => rfl) (rd_struct Try.underlying44 (by kernel_rfl) (rdfs_cons (d := (Kd.int .u8)) rfl (by kernel_rfl) (rd_int Try.underlying42) (rdfs_one (d := (Kd.int .u16)) rfl (by kernel_rfl) (rd_int Try.underlying23)))))) (rdfs_cons (d := (Kd.slice 23 (Kd.int .u16))) rfl (by kernel_rfl) (rd_slice (d := (Kd.int .u16)) (B := 2) Try.underlying35 (by kernel_rfl) (by kernel_rfl) (rd_int Try.underlying23)) (rdfs_one (d := (Kd.slice 66 k66)) rfl (by kernel_rfl) (rd_slice (d := k66) (B := 32) Try.underlying36 (by kernel_rfl) (by kernel_rfl) (rd_iso (fun a => (⟨a.1, a.2⟩ : S66)) (fun _ => rfl) (rd_struct Try.underlying66 (by kernel_rfl) (rdfs_cons (d := (Kd.slice 44 k44)) rfl (by kernel_rfl) (rd_slice (d := k44) (B := 4) Try.underlying34 (by kernel_rfl) (by kernel_rfl) (rd_iso (fun a => (⟨a.1, a.2⟩ : S44)) (fun _ => rfl) (rd_struct Try.underlying44 (by kernel_rfl) (rdfs_cons (d := (Kd.int .u8)) rfl (by kernel_rfl) (rd_int Try.underlying42) (rdfs_one (d := (Kd.int .u16)) rfl (by kernel_rfl) (rd_int Try.underlying23)))))) (rdfs_one (d := k44) rfl (by kernel_rfl) (rd_iso (fun a => (⟨a.1, a.2⟩ : S44)) (fun _ => rfl) (rd_struct Try.underlying44 (by kernel_rfl) (rdfs_cons (d := (Kd.int .u8)) rfl (by kernel_rfl) (rd_int Try.underlying42) (rdfs_one (d := (Kd.int .u16)) rfl (by kernel_rfl) (rd_int Try.underlying23))))))))))))))))))) hsz (j := 0) (t := 22) rfl rfl h0
  obtain ⟨A0, len0, c0, rfl⟩ := okWide_slice Try.underlying22 (hval 0 22 v0 rfl rfl)
  obtain ⟨A_, c_, he, hc0, hr0⟩ := hK0
  simp only [Value.cells, List.cons.injEq, Value.slice.injEq, and_true] at he
  obtain ⟨rfl, rfl, rfl⟩ := he
  have k1 := h1
  have lt1 : ∀ x ∈ p1, x.block < W.heap.size := by obtain ⟨m, hm⟩ := k1; exact DataW.trod_lt m _ _ _ hm
  obtain ⟨a1, hK1, g1⟩ := rd_arg (d := (Kd.slice 5 (Kd.int .u8))) (rd_slice (d := (Kd.int .u8)) (B := 1) Try.underlying24 (by kernel_rfl) (by kernel_rfl) (rd_int Try.underlying5)) hsz (j := 1) (t := 24) rfl rfl h1
  obtain ⟨A1, len1, c1, rfl⟩ := okWide_slice Try.underlying24 (hval 1 24 v1 rfl rfl)
  obtain ⟨A_, c_, he, hc1, hr1⟩ := hK1
  simp only [Value.cells, List.cons.injEq, Value.slice.injEq, and_true] at he
  obtain ⟨rfl, rfl, rfl⟩ := he
  clear hA0 hval0 hsz0 hsz
  obtain ⟨k_, hp⟩ := Pure.ClassBack (a0) (a1) (by first | exact g0 | (simp only [and_assoc] at *; exact g0) | simp_all) (by first | exact g1 | (simp only [and_assoc] at *; exact g1) | simp_all)
  refine (garderobelaw08_ClassBack.calls k_ A0 c0 (a0) A1 c1 (a1) true W hr0 hc0 hr1 hc1 hp).mono fun e W' ⟨he, bel⟩ => ?_
  subst he
  exact ⟨_, rfl, _, _, _, [], _, [], hW', trodAll_mk1 (shut_bool Try.underlying4 _), (trodAll_cons_mk (Below.trod laidOut (by kernel_rfl) (of_decide_eq_true (by kernel_rfl)) k0 bel lt0) (trodAll_cons_mk (Below.trod laidOut (by kernel_rfl) (of_decide_eq_true (by kernel_rfl)) k1 bel lt1) trodAll_mk0)), rfl, bel.frame _, fun h => by cases h⟩
theorem over : Rows.classBackRow.holds Try.pinned (OpenSpec.ofChange Rows.classBackSpec) :=
  OpenClaim.holds_of_wide 6 Try.f6 rfl rfl rfl rfl rfl rfl rfl ⟨rfl, rfl, rfl, rfl, rfl⟩ rfl rfl rfl rfl rfl (by kernel_rfl) Try.func6 (by kernel_rfl)
    (of_decide_eq_true (by kernel_rfl)) (by unfold Func.isWrapper; first | (rw [if_pos (by decide +kernel)]; kernel_rfl) | (rw [if_neg (by decide +kernel)]; exact ⟨rfl, rfl⟩))
    (fun os started H enc _ => lifted os started H enc)
theorem proved : Rows.ClassBackSaid := over
end Go.Proofs.Ytjbpdmkalegacaa.classBack
namespace Go.Proofs.Ytjbpdmkalegacaa
/-- The row, under a short name, for the claim. -/
theorem classBack_holds : Rows.ClassBackSaid := classBack.proved
end Go.Proofs.Ytjbpdmkalegacaa
