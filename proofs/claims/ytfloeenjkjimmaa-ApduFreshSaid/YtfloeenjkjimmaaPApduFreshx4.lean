-- laid by fake.py, a program of this session's, over the kit's print
import Derived.Test.YtfloeenjkjimmaaPApduFreshx0
import Derived.Test.YtfloeenjkjimmaaPApduFreshx1
import Derived.Test.YtfloeenjkjimmaaPApduFreshx2
import Derived.Test.YtfloeenjkjimmaaPApduFreshx3
namespace Go.Proofs.Ytfloeenjkjimmaa.PApduFresh
open Go.RowKit Go.Proofs.YtfloeenjkjimmaaW.PrintWords Go.Proofs.YtfloeenjkjimmaaW.PrintLast Go.Proofs.YtfloeenjkjimmaaW.PrintMore Go.Proofs.YtfloeenjkjimmaaW.Mine
attribute [local go_sem] Go.Proofs.YtfloeenjkjimmaaW.Mine.isSome_set max2_int min2_int max_two min_two max_three min_three max_four min_four   -- for this text's walks alone
set_option linter.unusedVariables false
set_option linter.unusedSimpArgs false

/-! ### garderobelaw28_works: function 14 -/
def garderobelaw28_works.f (k : Nat)  : Option (Bool) := (apdu_Read.f k (([0, 164, 4, 0] : List Int))).bind fun bt167 => ((apdu_Read.f k (([0, 164, 4, 0, 0] : List Int))).bind fun bt181 => ((apdu_Read.f k (([0, 164, 4, 0, 1, 2, 3, 4] : List Int))).bind fun bt195 => ((apdu_Read.f k (([0, 164, 4, 0, 2, 1, 2, 7] : List Int))).bind fun bt209 => (if bt167.2.2.2.2.2.2.2 = 0 then (if bt167.1 = 1 then (if bt181.2.2.2.2.2.2.2 = 0 then (if bt181.1 = 2 then (if bt181.2.2.2.2.2.2.1 = 256 then (if bt195.2.2.2.2.2.2.2 = 5 then (if bt209.2.2.2.2.2.2.2 = 0 then (if bt209.1 = 4 then (if bt209.2.2.2.2.2.2.1 = 7 then ((garderoberef00_Same.f k bt209.2.2.2.2.2.1 (([1, 2] : List Int))).bind fun t223 => (some t223)) else (none)) else (none)) else (none)) else (none)) else (none)) else (none)) else (none)) else (none)) else (none)))))
theorem garderobelaw28_works.mono : ∀ k, LeO (garderobelaw28_works.f k ) (garderobelaw28_works.f (k + 1) ) := by
  intro  k
  unfold garderobelaw28_works.f
  repeat' first
      | (with_reducible exact apdu_Read.mono _ _)
      | (with_reducible exact garderoberef00_Same.mono _ _ _)
      | (with_reducible exact LeO.refl _)
      | (with_reducible exact LeO.none _)
      | (with_reducible refine LeO.ite ?_ ?_)
      | (with_reducible refine LeO.bind ?_ (fun _ => ?_))
      | exact apdu_Read.mono _ _
      | exact garderoberef00_Same.mono _ _ _
      | exact LeO.none _
      | refine LeO.ite ?_ ?_
      | refine LeO.bind ?_ (fun _ => ?_)
set_option maxHeartbeats 8000000 in
set_option maxRecDepth 100000 in
theorem garderobelaw28_works.calls (k : Nat)  (r : Bool) (w : World) (h : garderobelaw28_works.f k  = some r) :
    Calls Try.prog 14 #[] w fun e w' => e = .returned (.bool r) ∧ Below w.heap.size w w' := by
  have hu25 := Try.underlying25
  have HB := Aside0.mk (Below.refl w.heap.size w)
  have H : ((apdu_Read.f k (([0, 164, 4, 0] : List Int))).bind fun bt167 => ((apdu_Read.f k (([0, 164, 4, 0, 0] : List Int))).bind fun bt181 => ((apdu_Read.f k (([0, 164, 4, 0, 1, 2, 3, 4] : List Int))).bind fun bt195 => ((apdu_Read.f k (([0, 164, 4, 0, 2, 1, 2, 7] : List Int))).bind fun bt209 => (if bt167.2.2.2.2.2.2.2 = 0 then (if bt167.1 = 1 then (if bt181.2.2.2.2.2.2.2 = 0 then (if bt181.1 = 2 then (if bt181.2.2.2.2.2.2.1 = 256 then (if bt195.2.2.2.2.2.2.2 = 5 then (if bt209.2.2.2.2.2.2.2 = 0 then (if bt209.1 = 4 then (if bt209.2.2.2.2.2.2.1 = 7 then ((garderoberef00_Same.f k bt209.2.2.2.2.2.1 (([1, 2] : List Int))).bind fun t223 => (some t223)) else (none)) else (none)) else (none)) else (none)) else (none)) else (none)) else (none)) else (none)) else (none)))))) = some r := h
  clear h
  obtain ⟨y164, hy164⟩ : ∃ y_ : List Int, y_ = (([0, 164, 4, 0] : List Int)) := ⟨_, rfl⟩
  replace H : ((apdu_Read.f k y164).bind fun bt167 => ((apdu_Read.f k (([0, 164, 4, 0, 0] : List Int))).bind fun bt181 => ((apdu_Read.f k (([0, 164, 4, 0, 1, 2, 3, 4] : List Int))).bind fun bt195 => ((apdu_Read.f k (([0, 164, 4, 0, 2, 1, 2, 7] : List Int))).bind fun bt209 => (if bt167.2.2.2.2.2.2.2 = 0 then (if bt167.1 = 1 then (if bt181.2.2.2.2.2.2.2 = 0 then (if bt181.1 = 2 then (if bt181.2.2.2.2.2.2.1 = 256 then (if bt195.2.2.2.2.2.2.2 = 5 then (if bt209.2.2.2.2.2.2.2 = 0 then (if bt209.1 = 4 then (if bt209.2.2.2.2.2.2.1 = 7 then ((garderoberef00_Same.f k bt209.2.2.2.2.2.1 (([1, 2] : List Int))).bind fun t223 => (some t223)) else (none)) else (none)) else (none)) else (none)) else (none)) else (none)) else (none)) else (none)) else (none)))))) = some r := by first | (rw [hy164]; with_reducible exact H) | (have H2_ := (Option.bind_some _ _).symm.trans H; rw [hy164]; with_reducible exact H2_) | (have H2_ := (Option.bind_some _ _).symm.trans H; with_reducible exact H2_) | with_reducible exact H | (rw [hy164]; exact H) | exact H
  have Ny164 := Aside0.mk hy164
  clear hy164
  replace H := Option.bind_eq_some_iff.mp H
  obtain ⟨⟨t167, t168, t169, t170, t171, t172, t175, t176⟩, A10, H⟩ := H
  replace H : ((apdu_Read.f k (([0, 164, 4, 0, 0] : List Int))).bind fun bt181 => ((apdu_Read.f k (([0, 164, 4, 0, 1, 2, 3, 4] : List Int))).bind fun bt195 => ((apdu_Read.f k (([0, 164, 4, 0, 2, 1, 2, 7] : List Int))).bind fun bt209 => (if t176 = 0 then (if t167 = 1 then (if bt181.2.2.2.2.2.2.2 = 0 then (if bt181.1 = 2 then (if bt181.2.2.2.2.2.2.1 = 256 then (if bt195.2.2.2.2.2.2.2 = 5 then (if bt209.2.2.2.2.2.2.2 = 0 then (if bt209.1 = 4 then (if bt209.2.2.2.2.2.2.1 = 7 then ((garderoberef00_Same.f k bt209.2.2.2.2.2.1 (([1, 2] : List Int))).bind fun t223 => (some t223)) else (none)) else (none)) else (none)) else (none)) else (none)) else (none)) else (none)) else (none)) else (none))))) = some r := H
  have A1 := Aside0.mk A10
  clear A10
  obtain ⟨y178, hy178⟩ : ∃ y_ : List Int, y_ = (([0, 164, 4, 0, 0] : List Int)) := ⟨_, rfl⟩
  replace H : ((apdu_Read.f k y178).bind fun bt181 => ((apdu_Read.f k (([0, 164, 4, 0, 1, 2, 3, 4] : List Int))).bind fun bt195 => ((apdu_Read.f k (([0, 164, 4, 0, 2, 1, 2, 7] : List Int))).bind fun bt209 => (if t176 = 0 then (if t167 = 1 then (if bt181.2.2.2.2.2.2.2 = 0 then (if bt181.1 = 2 then (if bt181.2.2.2.2.2.2.1 = 256 then (if bt195.2.2.2.2.2.2.2 = 5 then (if bt209.2.2.2.2.2.2.2 = 0 then (if bt209.1 = 4 then (if bt209.2.2.2.2.2.2.1 = 7 then ((garderoberef00_Same.f k bt209.2.2.2.2.2.1 (([1, 2] : List Int))).bind fun t223 => (some t223)) else (none)) else (none)) else (none)) else (none)) else (none)) else (none)) else (none)) else (none)) else (none))))) = some r := by first | (rw [hy178]; with_reducible exact H) | (have H2_ := (Option.bind_some _ _).symm.trans H; rw [hy178]; with_reducible exact H2_) | (have H2_ := (Option.bind_some _ _).symm.trans H; with_reducible exact H2_) | with_reducible exact H | (rw [hy178]; exact H) | exact H
  have Ny178 := Aside0.mk hy178
  clear hy178
  replace H := Option.bind_eq_some_iff.mp H
  obtain ⟨⟨t181, t182, t183, t184, t185, t186, t189, t190⟩, A20, H⟩ := H
  replace H : ((apdu_Read.f k (([0, 164, 4, 0, 1, 2, 3, 4] : List Int))).bind fun bt195 => ((apdu_Read.f k (([0, 164, 4, 0, 2, 1, 2, 7] : List Int))).bind fun bt209 => (if t176 = 0 then (if t167 = 1 then (if t190 = 0 then (if t181 = 2 then (if t189 = 256 then (if bt195.2.2.2.2.2.2.2 = 5 then (if bt209.2.2.2.2.2.2.2 = 0 then (if bt209.1 = 4 then (if bt209.2.2.2.2.2.2.1 = 7 then ((garderoberef00_Same.f k bt209.2.2.2.2.2.1 (([1, 2] : List Int))).bind fun t223 => (some t223)) else (none)) else (none)) else (none)) else (none)) else (none)) else (none)) else (none)) else (none)) else (none)))) = some r := H
  have A2 := Aside0.mk A20
  clear A20
  obtain ⟨y192, hy192⟩ : ∃ y_ : List Int, y_ = (([0, 164, 4, 0, 1, 2, 3, 4] : List Int)) := ⟨_, rfl⟩
  replace H : ((apdu_Read.f k y192).bind fun bt195 => ((apdu_Read.f k (([0, 164, 4, 0, 2, 1, 2, 7] : List Int))).bind fun bt209 => (if t176 = 0 then (if t167 = 1 then (if t190 = 0 then (if t181 = 2 then (if t189 = 256 then (if bt195.2.2.2.2.2.2.2 = 5 then (if bt209.2.2.2.2.2.2.2 = 0 then (if bt209.1 = 4 then (if bt209.2.2.2.2.2.2.1 = 7 then ((garderoberef00_Same.f k bt209.2.2.2.2.2.1 (([1, 2] : List Int))).bind fun t223 => (some t223)) else (none)) else (none)) else (none)) else (none)) else (none)) else (none)) else (none)) else (none)) else (none)))) = some r := by first | (rw [hy192]; with_reducible exact H) | (have H2_ := (Option.bind_some _ _).symm.trans H; rw [hy192]; with_reducible exact H2_) | (have H2_ := (Option.bind_some _ _).symm.trans H; with_reducible exact H2_) | with_reducible exact H | (rw [hy192]; exact H) | exact H
  have Ny192 := Aside0.mk hy192
  clear hy192
  replace H := Option.bind_eq_some_iff.mp H
  obtain ⟨⟨t195, t196, t197, t198, t199, t200, t203, t204⟩, A30, H⟩ := H
  replace H : ((apdu_Read.f k (([0, 164, 4, 0, 2, 1, 2, 7] : List Int))).bind fun bt209 => (if t176 = 0 then (if t167 = 1 then (if t190 = 0 then (if t181 = 2 then (if t189 = 256 then (if t204 = 5 then (if bt209.2.2.2.2.2.2.2 = 0 then (if bt209.1 = 4 then (if bt209.2.2.2.2.2.2.1 = 7 then ((garderoberef00_Same.f k bt209.2.2.2.2.2.1 (([1, 2] : List Int))).bind fun t223 => (some t223)) else (none)) else (none)) else (none)) else (none)) else (none)) else (none)) else (none)) else (none)) else (none))) = some r := H
  have A3 := Aside0.mk A30
  clear A30
  obtain ⟨y206, hy206⟩ : ∃ y_ : List Int, y_ = (([0, 164, 4, 0, 2, 1, 2, 7] : List Int)) := ⟨_, rfl⟩
  replace H : ((apdu_Read.f k y206).bind fun bt209 => (if t176 = 0 then (if t167 = 1 then (if t190 = 0 then (if t181 = 2 then (if t189 = 256 then (if t204 = 5 then (if bt209.2.2.2.2.2.2.2 = 0 then (if bt209.1 = 4 then (if bt209.2.2.2.2.2.2.1 = 7 then ((garderoberef00_Same.f k bt209.2.2.2.2.2.1 (([1, 2] : List Int))).bind fun t223 => (some t223)) else (none)) else (none)) else (none)) else (none)) else (none)) else (none)) else (none)) else (none)) else (none))) = some r := by first | (rw [hy206]; with_reducible exact H) | (have H2_ := (Option.bind_some _ _).symm.trans H; rw [hy206]; with_reducible exact H2_) | (have H2_ := (Option.bind_some _ _).symm.trans H; with_reducible exact H2_) | with_reducible exact H | (rw [hy206]; exact H) | exact H
  have Ny206 := Aside0.mk hy206
  clear hy206
  replace H := Option.bind_eq_some_iff.mp H
  obtain ⟨⟨t209, t210, t211, t212, t213, t214, t217, t218⟩, A40, H⟩ := H
  replace H : (if t176 = 0 then (if t167 = 1 then (if t190 = 0 then (if t181 = 2 then (if t189 = 256 then (if t204 = 5 then (if t218 = 0 then (if t209 = 4 then (if t217 = 7 then ((garderoberef00_Same.f k t214 (([1, 2] : List Int))).bind fun t223 => (some t223)) else (none)) else (none)) else (none)) else (none)) else (none)) else (none)) else (none)) else (none)) else (none)) = some r := H
  have A4 := Aside0.mk A40
  clear A40
  by_cases c5 : t176 = 0
  · rw [if_pos c5] at H
    have c5b0 : (t176 == 0) = true := beq_iff_eq.mpr c5
    have c5b1 : (t176 != 0) = false := bne_eq_false_iff_eq.mpr c5
    clear c5
    by_cases c6 : t167 = 1
    · rw [if_pos c6] at H
      have c6b0 : (t167 == 1) = true := beq_iff_eq.mpr c6
      have c6b1 : (t167 != 1) = false := bne_eq_false_iff_eq.mpr c6
      clear c6
      by_cases c7 : t190 = 0
      · rw [if_pos c7] at H
        have c7b0 : (t190 == 0) = true := beq_iff_eq.mpr c7
        have c7b1 : (t190 != 0) = false := bne_eq_false_iff_eq.mpr c7
        clear c7
        by_cases c8 : t181 = 2
        · rw [if_pos c8] at H
          have c8b0 : (t181 == 2) = true := beq_iff_eq.mpr c8
          have c8b1 : (t181 != 2) = false := bne_eq_false_iff_eq.mpr c8
          clear c8
          by_cases c9 : t189 = 256
          · rw [if_pos c9] at H
            have c9b0 : (t189 == 256) = true := beq_iff_eq.mpr c9
            have c9b1 : (t189 != 256) = false := bne_eq_false_iff_eq.mpr c9
            clear c9
            by_cases c10 : t204 = 5
            · rw [if_pos c10] at H
              have c10b0 : (t204 == 5) = true := beq_iff_eq.mpr c10
              have c10b1 : (t204 != 5) = false := bne_eq_false_iff_eq.mpr c10
              clear c10
              by_cases c11 : t218 = 0
              · rw [if_pos c11] at H
                have c11b0 : (t218 == 0) = true := beq_iff_eq.mpr c11
                have c11b1 : (t218 != 0) = false := bne_eq_false_iff_eq.mpr c11
                clear c11
                by_cases c12 : t209 = 4
                · rw [if_pos c12] at H
                  have c12b0 : (t209 == 4) = true := beq_iff_eq.mpr c12
                  have c12b1 : (t209 != 4) = false := bne_eq_false_iff_eq.mpr c12
                  clear c12
                  by_cases c13 : t217 = 7
                  · rw [if_pos c13] at H
                    have c13b0 : (t217 == 7) = true := beq_iff_eq.mpr c13
                    have c13b1 : (t217 != 7) = false := bne_eq_false_iff_eq.mpr c13
                    clear c13
                    obtain ⟨y220, hy220⟩ : ∃ y_ : List Int, y_ = (([1, 2] : List Int)) := ⟨_, rfl⟩
                    replace H : ((garderoberef00_Same.f k t214 y220).bind fun t223 => (some t223)) = some r := by first | (rw [hy220]; with_reducible exact H) | (have H2_ := (Option.bind_some _ _).symm.trans H; rw [hy220]; with_reducible exact H2_) | (have H2_ := (Option.bind_some _ _).symm.trans H; with_reducible exact H2_) | with_reducible exact H | (rw [hy220]; exact H) | exact H
                    have Ny220 := Aside0.mk hy220
                    clear hy220
                    replace H := Option.bind_eq_some_iff.mp H
                    obtain ⟨t223, A140, H⟩ := H
                    replace H : (some t223) = some r := H
                    have A14 := Aside0.mk A140
                    clear A140
                    obtain rfl := Option.some.inj H
                    go_enter Try.func14, Try.ntmps14
                    go_wp2_with (first | ((with_reducible refine gate_dst (N := 10) rfl ?_); (try (refine gate_guard (by rfl) ?_; dsimp only)); refine Kr.R_lit (Kd.int .u8) _ 5 ?hg (N := 10) ?hd (xs := ([0, 164, 4, 0] : List Int)) (inner := [.int .u8 0, .int .u8 164, .int .u8 4, .int .u8 0]) (ok := fun _ => True) (okp := fun _ => True) ?hr ?hp (fun _ hk => hk) trivial (Below.refl _ _) (Nat.le_refl _) (by simp) ?_; (case hd => rfl); (case hg => rfl); (case hr => first | (go_simp; done) | (go_simp; rfl)); (case hp => exact (Reps.one (show Kd.M (Kd.int .u8) _ _ _ 0 [.int .u8 0] from rfl) (Reps.one (show Kd.M (Kd.int .u8) _ _ _ 164 [.int .u8 164] from rfl) (Reps.one (show Kd.M (Kd.int .u8) _ _ _ 4 [.int .u8 4] from rfl) (Reps.one (show Kd.M (Kd.int .u8) _ _ _ 0 [.int .u8 0] from rfl) (Reps.none _ _)))))); intro v165 w15 ho16 hb hg_ hnew_; clear hg_ hnew_; (first | rw [← Ny164.out] at ho16 | (simp only [Int.reduceToNat] at ho16; rw [← Ny164.out] at ho16)); have n0_ := Aside0.mk (Kr.R_lower ho16 (below_size (by repeat (first | (with_reducible first | exact HB.out | apply below_alloc | apply pw_below_drewN | apply below_drew1) | exact HB.out)))); have n1_ := Aside0.mk (below_step (by repeat (first | (with_reducible first | exact HB.out | apply below_alloc | apply pw_below_drewN | apply below_drew1) | exact HB.out)) hb); clear HB; have HO166 := n0_; have HB := n1_; clear n0_ n1_; clear hb ho16; obtain ⟨Ao17, co17, eo17⟩ := Kr.R_slice HO166.out; subst eo17) | ((with_reducible refine gate_callee (f := 16) rfl ?_); refine goesL_ (some 11) rfl rfl Try.func16 (by kernel_rfl) rfl #[.slice Ao17 y164.length co17] rfl (by (try simp only [List.map_toArray, List.map_cons, List.map_nil]); first | done | rfl | (simp only [List.length_drop, List.length_take]; rfl)) ?_; (with_reducible refine (apdu_Read.calls k _ _ y164 t167 t168 t169 t170 t171 t172 t175 t176 _ ?side1 ?side2 A1.out).mono ?_); (case side1 => repeat (first | exact (Kr.R_reads' HO166.out).2.2 | (with_reducible refine Kd.C_alloc ?_ _) | (with_reducible refine Kd.C_drewN ?_ _) | (with_reducible refine Kd.C_drew ?_))); (case side2 => exact (Kr.R_reads' HO166.out).2.1); rintro e w18 ⟨v173, rfl, ho0, hb⟩; refine ⟨_, rfl, ?_⟩; have n0_ := Aside0.mk (Kr.R_elder' (by (with_reducible repeat (first | apply Kr.R_alloc | apply Kr.R_drewN | apply Kr.R_drew)); exact HO166.out) (Kr.R_base ho0) hb); have n1_ := Aside0.mk (Kr.R_lower (Kr.R_new' ho0 (Kr.R_lt (by (with_reducible repeat (first | apply Kr.R_alloc | apply Kr.R_drewN | apply Kr.R_drew)); exact HO166.out))) (below_size (by repeat (first | (with_reducible first | exact HB.out | apply below_alloc | apply pw_below_drewN | apply below_drew1) | exact HB.out)))); have n2_ := Aside0.mk (below_step (by repeat (first | (with_reducible first | exact HB.out | apply below_alloc | apply pw_below_drewN | apply below_drew1) | exact HB.out)) hb); clear HO166; clear HB; have HO166 := n0_; have HO174 := n1_; have HB := n2_; clear n0_ n1_ n2_; (try clear hb); (try clear hb2); (try clear hk); (try clear hi); (try clear ho0)) | ((with_reducible refine gate_dst (N := 1) rfl ?_); (try (refine gate_guard (by rfl) ?_; dsimp only)); refine box_event ?hg (N := 1) ?hd (cs := #[.int .i64 0, .int .u8 0, .int .u8 0, .int .u8 0, .int .u8 0, .slice none 0 0, .int .i64 0]) (t := 25) ?hr ?_; (case hd => rfl); (case hg => rfl); (case hr => first | (go_simp; done) | (go_simp; rfl)); intro gb177 hg w19 hbox hb; have n0_ := Aside0.mk (Kr.R_below (by (with_reducible repeat (first | apply Kr.R_alloc | apply Kr.R_drewN | apply Kr.R_drew)); exact HO166.out) hb); have n1_ := Aside0.mk (Kr.R_below (by (with_reducible repeat (first | apply Kr.R_alloc | apply Kr.R_drewN | apply Kr.R_drew)); exact HO174.out) hb); have n2_ := Aside0.mk (below_step (by repeat (first | (with_reducible first | exact HB.out | apply below_alloc | apply pw_below_drewN | apply below_drew1) | exact HB.out)) hb); have n3_ := Aside0.mk (hbox); have n4_ := Aside0.mk ((by rw [hg]; exact (below_size (by repeat (first | (with_reducible first | exact HB.out | apply below_alloc | apply pw_below_drewN | apply below_drew1) | exact HB.out))) : w.heap.size ≤ gb177)); have n5_ := Aside0.mk ((by rw [hg]; exact (below_size (by repeat (first | (with_reducible first | exact HB.out | apply below_alloc | apply pw_below_drewN | apply below_drew1) | exact HB.out))) : w.heap.size ≤ gb177)); clear HO166; clear HO174; clear HB; have HO166 := n0_; have HO174 := n1_; have HB := n2_; have BK177 := n3_; have GW177 := n4_; have GE177 := n5_; clear n0_ n1_ n2_ n3_ n4_ n5_; clear hb hbox hg; have hcz20_0 : w19.cell? ⟨gb177, 0, none⟩ = some (.int .i64 0) := (blk_cell BK177.out 0).trans rfl; have hcz20_1 : w19.cell? ⟨gb177, 1, none⟩ = some (.int .u8 0) := (blk_cell BK177.out 1).trans rfl; have hcz20_2 : w19.cell? ⟨gb177, 2, none⟩ = some (.int .u8 0) := (blk_cell BK177.out 2).trans rfl; have hcz20_3 : w19.cell? ⟨gb177, 3, none⟩ = some (.int .u8 0) := (blk_cell BK177.out 3).trans rfl; have hcz20_4 : w19.cell? ⟨gb177, 4, none⟩ = some (.int .u8 0) := (blk_cell BK177.out 4).trans rfl; have hcz20_5 : w19.cell? ⟨gb177, 5, none⟩ = some (.slice none 0 0) := (blk_cell BK177.out 5).trans rfl; have hcz20_6 : w19.cell? ⟨gb177, 6, none⟩ = some (.int .i64 0) := (blk_cell BK177.out 6).trans rfl; have hfz20_0 := blk_frozen BK177.out 0; have hfz20_1 := blk_frozen BK177.out 1; have hfz20_2 := blk_frozen BK177.out 2; have hfz20_3 := blk_frozen BK177.out 3; have hfz20_4 := blk_frozen BK177.out 4; have hfz20_5 := blk_frozen BK177.out 5; have hfz20_6 := blk_frozen BK177.out 6; obtain ⟨Ao21, co21, eo21⟩ := Kr.R_slice HO174.out; subst eo21) | ((with_reducible refine gate_dst (N := 15) rfl ?_); (try (refine gate_guard (by rfl) ?_; dsimp only)); refine Kr.R_lit (Kd.int .u8) _ 5 ?hg (N := 15) ?hd (xs := ([0, 164, 4, 0, 0] : List Int)) (inner := [.int .u8 0, .int .u8 164, .int .u8 4, .int .u8 0, .int .u8 0]) (ok := fun _ => True) (okp := fun _ => True) ?hr ?hp (fun _ hk => hk) trivial (Below.refl _ _) (Nat.le_refl _) (by simp) ?_; (case hd => rfl); (case hg => rfl); (case hr => first | (go_simp; done) | (go_simp; rfl)); (case hp => exact (Reps.one (show Kd.M (Kd.int .u8) _ _ _ 0 [.int .u8 0] from rfl) (Reps.one (show Kd.M (Kd.int .u8) _ _ _ 164 [.int .u8 164] from rfl) (Reps.one (show Kd.M (Kd.int .u8) _ _ _ 4 [.int .u8 4] from rfl) (Reps.one (show Kd.M (Kd.int .u8) _ _ _ 0 [.int .u8 0] from rfl) (Reps.one (show Kd.M (Kd.int .u8) _ _ _ 0 [.int .u8 0] from rfl) (Reps.none _ _))))))); intro v179 w22 ho23 hb hg_ hnew_; clear hg_ hnew_; (first | rw [← Ny178.out] at ho23 | (simp only [Int.reduceToNat] at ho23; rw [← Ny178.out] at ho23)); have n0_ := Aside0.mk (Kr.R_elder' (by (with_reducible repeat (first | apply Kr.R_alloc | apply Kr.R_drewN | apply Kr.R_drew)); exact (Kr.R_mono (Kr.R_far (p := ⟨gb177, 6, none⟩) (Kr.R_far (p := ⟨gb177, 5, none⟩) (Kr.R_far (p := ⟨gb177, 4, none⟩) (Kr.R_far (p := ⟨gb177, 3, none⟩) (Kr.R_far (p := ⟨gb177, 2, none⟩) (Kr.R_far (p := ⟨gb177, 1, none⟩) (Kr.R_far (p := ⟨gb177, 0, none⟩) (Kr.R_types HO166.out BK177.out (by decide)) (fun _ hk => hk.2) (.int .i64 t167)) (fun _ hk => hk.2) (.int .u8 t168)) (fun _ hk => hk.2) (.int .u8 t169)) (fun _ hk => hk.2) (.int .u8 t170)) (fun _ hk => hk.2) (.int .u8 t171)) (fun _ hk => hk.2) (.slice Ao21 t172.length co21)) (fun _ hk => hk.2) (.int .i64 t175)) (fun _ h_ => h_.1))) (Kr.R_base ho23) hb); have n1_ := Aside0.mk (Kr.R_elder' (by (with_reducible repeat (first | apply Kr.R_alloc | apply Kr.R_drewN | apply Kr.R_drew)); exact (Kr.R_mono (Kr.R_far (p := ⟨gb177, 6, none⟩) (Kr.R_far (p := ⟨gb177, 5, none⟩) (Kr.R_far (p := ⟨gb177, 4, none⟩) (Kr.R_far (p := ⟨gb177, 3, none⟩) (Kr.R_far (p := ⟨gb177, 2, none⟩) (Kr.R_far (p := ⟨gb177, 1, none⟩) (Kr.R_far (p := ⟨gb177, 0, none⟩) (Kr.R_types HO174.out BK177.out (by decide)) (fun _ hk => hk.2) (.int .i64 t167)) (fun _ hk => hk.2) (.int .u8 t168)) (fun _ hk => hk.2) (.int .u8 t169)) (fun _ hk => hk.2) (.int .u8 t170)) (fun _ hk => hk.2) (.int .u8 t171)) (fun _ hk => hk.2) (.slice Ao21 t172.length co21)) (fun _ hk => hk.2) (.int .i64 t175)) (fun _ h_ => h_.1))) (Kr.R_base ho23) hb); have n2_ := Aside0.mk (Kr.R_lower (Kr.R_new' (Kr.R_new' ho23 (Kr.R_lt (by (with_reducible repeat (first | apply Kr.R_alloc | apply Kr.R_drewN | apply Kr.R_drew)); exact (Kr.R_mono (Kr.R_far (p := ⟨gb177, 6, none⟩) (Kr.R_far (p := ⟨gb177, 5, none⟩) (Kr.R_far (p := ⟨gb177, 4, none⟩) (Kr.R_far (p := ⟨gb177, 3, none⟩) (Kr.R_far (p := ⟨gb177, 2, none⟩) (Kr.R_far (p := ⟨gb177, 1, none⟩) (Kr.R_far (p := ⟨gb177, 0, none⟩) (Kr.R_types HO166.out BK177.out (by decide)) (fun _ hk => hk.2) (.int .i64 t167)) (fun _ hk => hk.2) (.int .u8 t168)) (fun _ hk => hk.2) (.int .u8 t169)) (fun _ hk => hk.2) (.int .u8 t170)) (fun _ hk => hk.2) (.int .u8 t171)) (fun _ hk => hk.2) (.slice Ao21 t172.length co21)) (fun _ hk => hk.2) (.int .i64 t175)) (fun _ h_ => h_.1))))) (Kr.R_lt (by (with_reducible repeat (first | apply Kr.R_alloc | apply Kr.R_drewN | apply Kr.R_drew)); exact (Kr.R_mono (Kr.R_far (p := ⟨gb177, 6, none⟩) (Kr.R_far (p := ⟨gb177, 5, none⟩) (Kr.R_far (p := ⟨gb177, 4, none⟩) (Kr.R_far (p := ⟨gb177, 3, none⟩) (Kr.R_far (p := ⟨gb177, 2, none⟩) (Kr.R_far (p := ⟨gb177, 1, none⟩) (Kr.R_far (p := ⟨gb177, 0, none⟩) (Kr.R_types HO174.out BK177.out (by decide)) (fun _ hk => hk.2) (.int .i64 t167)) (fun _ hk => hk.2) (.int .u8 t168)) (fun _ hk => hk.2) (.int .u8 t169)) (fun _ hk => hk.2) (.int .u8 t170)) (fun _ hk => hk.2) (.int .u8 t171)) (fun _ hk => hk.2) (.slice Ao21 t172.length co21)) (fun _ hk => hk.2) (.int .i64 t175)) (fun _ h_ => h_.1))))) (below_size (by repeat (first | (with_reducible first | exact HB.out | apply below_alloc | apply pw_below_drewN | apply below_drew1 | refine below_set ?_ GE177.out) | exact HB.out)))); have n3_ := Aside0.mk (blk_below (g := gb177) (o := .cells #[.int .i64 t167, .int .u8 t168, .int .u8 t169, .int .u8 t170, .int .u8 t171, .slice Ao21 t172.length co21, .int .i64 t175] 25 (0, 0)) (by (with_reducible repeat (first | refine blk_drewN ?_ _ | refine blk_drew ?_ | refine blk_alloc ?_ _)); refine blk_put (cs := #[.int .i64 t167, .int .u8 t168, .int .u8 t169, .int .u8 t170, .int .u8 t171, .slice Ao21 t172.length co21, .int .i64 0]) ?_ 6 _ rfl; (with_reducible repeat (first | refine blk_drewN ?_ _ | refine blk_drew ?_ | refine blk_alloc ?_ _)); refine blk_put (cs := #[.int .i64 t167, .int .u8 t168, .int .u8 t169, .int .u8 t170, .int .u8 t171, .slice none 0 0, .int .i64 0]) ?_ 5 _ rfl; (with_reducible repeat (first | refine blk_drewN ?_ _ | refine blk_drew ?_ | refine blk_alloc ?_ _)); refine blk_put (cs := #[.int .i64 t167, .int .u8 t168, .int .u8 t169, .int .u8 t170, .int .u8 0, .slice none 0 0, .int .i64 0]) ?_ 4 _ rfl; (with_reducible repeat (first | refine blk_drewN ?_ _ | refine blk_drew ?_ | refine blk_alloc ?_ _)); refine blk_put (cs := #[.int .i64 t167, .int .u8 t168, .int .u8 t169, .int .u8 0, .int .u8 0, .slice none 0 0, .int .i64 0]) ?_ 3 _ rfl; (with_reducible repeat (first | refine blk_drewN ?_ _ | refine blk_drew ?_ | refine blk_alloc ?_ _)); refine blk_put (cs := #[.int .i64 t167, .int .u8 t168, .int .u8 0, .int .u8 0, .int .u8 0, .slice none 0 0, .int .i64 0]) ?_ 2 _ rfl; (with_reducible repeat (first | refine blk_drewN ?_ _ | refine blk_drew ?_ | refine blk_alloc ?_ _)); refine blk_put (cs := #[.int .i64 t167, .int .u8 0, .int .u8 0, .int .u8 0, .int .u8 0, .slice none 0 0, .int .i64 0]) ?_ 1 _ rfl; (with_reducible repeat (first | refine blk_drewN ?_ _ | refine blk_drew ?_ | refine blk_alloc ?_ _)); refine blk_put (cs := #[.int .i64 0, .int .u8 0, .int .u8 0, .int .u8 0, .int .u8 0, .slice none 0 0, .int .i64 0]) ?_ 0 _ rfl; (with_reducible repeat (first | refine blk_drewN ?_ _ | refine blk_drew ?_ | refine blk_alloc ?_ _)); exact BK177.out) hb); have n4_ := Aside0.mk (below_step (by repeat (first | (with_reducible first | exact HB.out | apply below_alloc | apply pw_below_drewN | apply below_drew1 | refine below_set ?_ GE177.out) | exact HB.out)) hb); clear HO166; clear HO174; clear BK177; clear HB; have HO166 := n0_; have HO174 := n1_; have HO180 := n2_; have BK177 := n3_; have HB := n4_; clear n0_ n1_ n2_ n3_ n4_; clear hb ho23; obtain ⟨Ao24, co24, eo24⟩ := Kr.R_slice HO180.out; subst eo24) | ((with_reducible refine gate_callee (f := 16) rfl ?_); refine goesL_ (some 16) rfl rfl Try.func16 (by kernel_rfl) rfl #[.slice Ao24 y178.length co24] rfl (by (try simp only [List.map_toArray, List.map_cons, List.map_nil]); first | done | rfl | (simp only [List.length_drop, List.length_take]; rfl)) ?_; (with_reducible refine (apdu_Read.calls k _ _ y178 t181 t182 t183 t184 t185 t186 t189 t190 _ ?side1 ?side2 A2.out).mono ?_); (case side1 => repeat (first | exact (Kr.R_reads' HO180.out).2.2 | (with_reducible refine Kd.C_alloc ?_ _) | (with_reducible refine Kd.C_drewN ?_ _) | (with_reducible refine Kd.C_drew ?_))); (case side2 => exact (Kr.R_reads' HO180.out).2.1); rintro e w25 ⟨v187, rfl, ho0, hb⟩; refine ⟨_, rfl, ?_⟩; have n0_ := Aside0.mk (Kr.R_elder' (by (with_reducible repeat (first | apply Kr.R_alloc | apply Kr.R_drewN | apply Kr.R_drew)); exact HO166.out) (Kr.R_base ho0) hb); have n1_ := Aside0.mk (Kr.R_elder' (by (with_reducible repeat (first | apply Kr.R_alloc | apply Kr.R_drewN | apply Kr.R_drew)); exact HO174.out) (Kr.R_base ho0) hb); have n2_ := Aside0.mk (Kr.R_elder' (by (with_reducible repeat (first | apply Kr.R_alloc | apply Kr.R_drewN | apply Kr.R_drew)); exact HO180.out) (Kr.R_base ho0) hb); have n3_ := Aside0.mk (Kr.R_lower (Kr.R_new' (Kr.R_new' (Kr.R_new' ho0 (Kr.R_lt (by (with_reducible repeat (first | apply Kr.R_alloc | apply Kr.R_drewN | apply Kr.R_drew)); exact HO166.out))) (Kr.R_lt (by (with_reducible repeat (first | apply Kr.R_alloc | apply Kr.R_drewN | apply Kr.R_drew)); exact HO174.out))) (Kr.R_lt (by (with_reducible repeat (first | apply Kr.R_alloc | apply Kr.R_drewN | apply Kr.R_drew)); exact HO180.out))) (below_size (by repeat (first | (with_reducible first | exact HB.out | apply below_alloc | apply pw_below_drewN | apply below_drew1 | refine below_set ?_ GE177.out) | exact HB.out)))); have n4_ := Aside0.mk (blk_below (g := gb177) (o := .cells #[.int .i64 t167, .int .u8 t168, .int .u8 t169, .int .u8 t170, .int .u8 t171, .slice Ao21 t172.length co21, .int .i64 t175] 25 (0, 0)) (by (with_reducible repeat (first | refine blk_drewN ?_ _ | refine blk_drew ?_ | refine blk_alloc ?_ _)); exact BK177.out) hb); have n5_ := Aside0.mk (below_step (by repeat (first | (with_reducible first | exact HB.out | apply below_alloc | apply pw_below_drewN | apply below_drew1 | refine below_set ?_ GE177.out) | exact HB.out)) hb); clear HO166; clear HO174; clear HO180; clear BK177; clear HB; have HO166 := n0_; have HO174 := n1_; have HO180 := n2_; have HO188 := n3_; have BK177 := n4_; have HB := n5_; clear n0_ n1_ n2_ n3_ n4_ n5_; (try clear hb); (try clear hb2); (try clear hk); (try clear hi); (try clear ho0)) | ((with_reducible refine gate_dst (N := 3) rfl ?_); (try (refine gate_guard (by rfl) ?_; dsimp only)); refine box_event ?hg (N := 3) ?hd (cs := #[.int .i64 0, .int .u8 0, .int .u8 0, .int .u8 0, .int .u8 0, .slice none 0 0, .int .i64 0]) (t := 25) ?hr ?_; (case hd => rfl); (case hg => rfl); (case hr => first | (go_simp; done) | (go_simp; rfl)); intro gb191 hg w26 hbox hb; have n0_ := Aside0.mk (Kr.R_below (by (with_reducible repeat (first | apply Kr.R_alloc | apply Kr.R_drewN | apply Kr.R_drew)); exact HO166.out) hb); have n1_ := Aside0.mk (Kr.R_below (by (with_reducible repeat (first | apply Kr.R_alloc | apply Kr.R_drewN | apply Kr.R_drew)); exact HO174.out) hb); have n2_ := Aside0.mk (Kr.R_below (by (with_reducible repeat (first | apply Kr.R_alloc | apply Kr.R_drewN | apply Kr.R_drew)); exact HO180.out) hb); have n3_ := Aside0.mk (Kr.R_below (by (with_reducible repeat (first | apply Kr.R_alloc | apply Kr.R_drewN | apply Kr.R_drew)); exact HO188.out) hb); have n4_ := Aside0.mk (blk_below (g := gb177) (o := .cells #[.int .i64 t167, .int .u8 t168, .int .u8 t169, .int .u8 t170, .int .u8 t171, .slice Ao21 t172.length co21, .int .i64 t175] 25 (0, 0)) (by (with_reducible repeat (first | refine blk_drewN ?_ _ | refine blk_drew ?_ | refine blk_alloc ?_ _)); exact BK177.out) hb); have n5_ := Aside0.mk (below_step (by repeat (first | (with_reducible first | exact HB.out | apply below_alloc | apply pw_below_drewN | apply below_drew1 | refine below_set ?_ GE177.out) | exact HB.out)) hb); have n6_ := Aside0.mk (hbox); have n7_ := Aside0.mk ((by rw [hg]; exact (below_size (by repeat (first | (with_reducible first | exact HB.out | apply below_alloc | apply pw_below_drewN | apply below_drew1 | refine below_set ?_ GE177.out) | exact HB.out))) : w.heap.size ≤ gb191)); have n8_ := Aside0.mk ((by rw [hg]; exact (below_size (by repeat (first | (with_reducible first | exact HB.out | apply below_alloc | apply pw_below_drewN | apply below_drew1 | refine below_set ?_ GE177.out) | exact HB.out))) : w.heap.size ≤ gb191)); have n9_ := Aside0.mk ((by rw [hg]; exact Nat.ne_of_lt (blk_lt (g := gb177) (o := .cells #[.int .i64 t167, .int .u8 t168, .int .u8 t169, .int .u8 t170, .int .u8 t171, .slice Ao21 t172.length co21, .int .i64 t175] 25 (0, 0)) (by (with_reducible repeat (first | refine blk_drewN ?_ _ | refine blk_drew ?_ | refine blk_alloc ?_ _)); exact BK177.out)) : gb177 ≠ gb191)); have n10_ := Aside0.mk ((by rw [hg]; exact Nat.ne_of_gt (blk_lt (g := gb177) (o := .cells #[.int .i64 t167, .int .u8 t168, .int .u8 t169, .int .u8 t170, .int .u8 t171, .slice Ao21 t172.length co21, .int .i64 t175] 25 (0, 0)) (by (with_reducible repeat (first | refine blk_drewN ?_ _ | refine blk_drew ?_ | refine blk_alloc ?_ _)); exact BK177.out)) : gb191 ≠ gb177)); clear HO166; clear HO174; clear HO180; clear HO188; clear BK177; clear HB; have HO166 := n0_; have HO174 := n1_; have HO180 := n2_; have HO188 := n3_; have BK177 := n4_; have HB := n5_; have BK191 := n6_; have GW191 := n7_; have GE191 := n8_; have NB177_191 := n9_; have NB191_177 := n10_; clear n0_ n1_ n2_ n3_ n4_ n5_ n6_ n7_ n8_ n9_ n10_; clear hb hbox hg; have hnb27 := NB191_177.out; have hnc27 := NB177_191.out; have hcz28_0 : w26.cell? ⟨gb191, 0, none⟩ = some (.int .i64 0) := (blk_cell BK191.out 0).trans rfl; have hcz28_1 : w26.cell? ⟨gb191, 1, none⟩ = some (.int .u8 0) := (blk_cell BK191.out 1).trans rfl; have hcz28_2 : w26.cell? ⟨gb191, 2, none⟩ = some (.int .u8 0) := (blk_cell BK191.out 2).trans rfl; have hcz28_3 : w26.cell? ⟨gb191, 3, none⟩ = some (.int .u8 0) := (blk_cell BK191.out 3).trans rfl; have hcz28_4 : w26.cell? ⟨gb191, 4, none⟩ = some (.int .u8 0) := (blk_cell BK191.out 4).trans rfl; have hcz28_5 : w26.cell? ⟨gb191, 5, none⟩ = some (.slice none 0 0) := (blk_cell BK191.out 5).trans rfl; have hcz28_6 : w26.cell? ⟨gb191, 6, none⟩ = some (.int .i64 0) := (blk_cell BK191.out 6).trans rfl; have hfz28_0 := blk_frozen BK191.out 0; have hfz28_1 := blk_frozen BK191.out 1; have hfz28_2 := blk_frozen BK191.out 2; have hfz28_3 := blk_frozen BK191.out 3; have hfz28_4 := blk_frozen BK191.out 4; have hfz28_5 := blk_frozen BK191.out 5; have hfz28_6 := blk_frozen BK191.out 6; obtain ⟨Ao29, co29, eo29⟩ := Kr.R_slice HO188.out; subst eo29) | ((with_reducible refine gate_dst (N := 20) rfl ?_); (try (refine gate_guard (by rfl) ?_; dsimp only)); refine Kr.R_lit (Kd.int .u8) _ 5 ?hg (N := 20) ?hd (xs := ([0, 164, 4, 0, 1, 2, 3, 4] : List Int)) (inner := [.int .u8 0, .int .u8 164, .int .u8 4, .int .u8 0, .int .u8 1, .int .u8 2, .int .u8 3, .int .u8 4]) (ok := fun _ => True) (okp := fun _ => True) ?hr ?hp (fun _ hk => hk) trivial (Below.refl _ _) (Nat.le_refl _) (by simp) ?_; (case hd => rfl); (case hg => rfl); (case hr => first | (go_simp; done) | (go_simp; rfl)); (case hp => exact (Reps.one (show Kd.M (Kd.int .u8) _ _ _ 0 [.int .u8 0] from rfl) (Reps.one (show Kd.M (Kd.int .u8) _ _ _ 164 [.int .u8 164] from rfl) (Reps.one (show Kd.M (Kd.int .u8) _ _ _ 4 [.int .u8 4] from rfl) (Reps.one (show Kd.M (Kd.int .u8) _ _ _ 0 [.int .u8 0] from rfl) (Reps.one (show Kd.M (Kd.int .u8) _ _ _ 1 [.int .u8 1] from rfl) (Reps.one (show Kd.M (Kd.int .u8) _ _ _ 2 [.int .u8 2] from rfl) (Reps.one (show Kd.M (Kd.int .u8) _ _ _ 3 [.int .u8 3] from rfl) (Reps.one (show Kd.M (Kd.int .u8) _ _ _ 4 [.int .u8 4] from rfl) (Reps.none _ _)))))))))); intro v193 w30 ho31 hb hg_ hnew_; clear hg_ hnew_; (first | rw [← Ny192.out] at ho31 | (simp only [Int.reduceToNat] at ho31; rw [← Ny192.out] at ho31)); have n0_ := Aside0.mk (Kr.R_elder' (by (with_reducible repeat (first | apply Kr.R_alloc | apply Kr.R_drewN | apply Kr.R_drew)); exact (Kr.R_mono (Kr.R_far (p := ⟨gb191, 6, none⟩) (Kr.R_far (p := ⟨gb191, 5, none⟩) (Kr.R_far (p := ⟨gb191, 4, none⟩) (Kr.R_far (p := ⟨gb191, 3, none⟩) (Kr.R_far (p := ⟨gb191, 2, none⟩) (Kr.R_far (p := ⟨gb191, 1, none⟩) (Kr.R_far (p := ⟨gb191, 0, none⟩) (Kr.R_types HO166.out BK191.out (by decide)) (fun _ hk => hk.2) (.int .i64 t181)) (fun _ hk => hk.2) (.int .u8 t182)) (fun _ hk => hk.2) (.int .u8 t183)) (fun _ hk => hk.2) (.int .u8 t184)) (fun _ hk => hk.2) (.int .u8 t185)) (fun _ hk => hk.2) (.slice Ao29 t186.length co29)) (fun _ hk => hk.2) (.int .i64 t189)) (fun _ h_ => h_.1))) (Kr.R_base ho31) hb); have n1_ := Aside0.mk (Kr.R_elder' (by (with_reducible repeat (first | apply Kr.R_alloc | apply Kr.R_drewN | apply Kr.R_drew)); exact (Kr.R_mono (Kr.R_far (p := ⟨gb191, 6, none⟩) (Kr.R_far (p := ⟨gb191, 5, none⟩) (Kr.R_far (p := ⟨gb191, 4, none⟩) (Kr.R_far (p := ⟨gb191, 3, none⟩) (Kr.R_far (p := ⟨gb191, 2, none⟩) (Kr.R_far (p := ⟨gb191, 1, none⟩) (Kr.R_far (p := ⟨gb191, 0, none⟩) (Kr.R_types HO174.out BK191.out (by decide)) (fun _ hk => hk.2) (.int .i64 t181)) (fun _ hk => hk.2) (.int .u8 t182)) (fun _ hk => hk.2) (.int .u8 t183)) (fun _ hk => hk.2) (.int .u8 t184)) (fun _ hk => hk.2) (.int .u8 t185)) (fun _ hk => hk.2) (.slice Ao29 t186.length co29)) (fun _ hk => hk.2) (.int .i64 t189)) (fun _ h_ => h_.1))) (Kr.R_base ho31) hb); have n2_ := Aside0.mk (Kr.R_elder' (by (with_reducible repeat (first | apply Kr.R_alloc | apply Kr.R_drewN | apply Kr.R_drew)); exact (Kr.R_mono (Kr.R_far (p := ⟨gb191, 6, none⟩) (Kr.R_far (p := ⟨gb191, 5, none⟩) (Kr.R_far (p := ⟨gb191, 4, none⟩) (Kr.R_far (p := ⟨gb191, 3, none⟩) (Kr.R_far (p := ⟨gb191, 2, none⟩) (Kr.R_far (p := ⟨gb191, 1, none⟩) (Kr.R_far (p := ⟨gb191, 0, none⟩) (Kr.R_types HO180.out BK191.out (by decide)) (fun _ hk => hk.2) (.int .i64 t181)) (fun _ hk => hk.2) (.int .u8 t182)) (fun _ hk => hk.2) (.int .u8 t183)) (fun _ hk => hk.2) (.int .u8 t184)) (fun _ hk => hk.2) (.int .u8 t185)) (fun _ hk => hk.2) (.slice Ao29 t186.length co29)) (fun _ hk => hk.2) (.int .i64 t189)) (fun _ h_ => h_.1))) (Kr.R_base ho31) hb); have n3_ := Aside0.mk (Kr.R_elder' (by (with_reducible repeat (first | apply Kr.R_alloc | apply Kr.R_drewN | apply Kr.R_drew)); exact (Kr.R_mono (Kr.R_far (p := ⟨gb191, 6, none⟩) (Kr.R_far (p := ⟨gb191, 5, none⟩) (Kr.R_far (p := ⟨gb191, 4, none⟩) (Kr.R_far (p := ⟨gb191, 3, none⟩) (Kr.R_far (p := ⟨gb191, 2, none⟩) (Kr.R_far (p := ⟨gb191, 1, none⟩) (Kr.R_far (p := ⟨gb191, 0, none⟩) (Kr.R_types HO188.out BK191.out (by decide)) (fun _ hk => hk.2) (.int .i64 t181)) (fun _ hk => hk.2) (.int .u8 t182)) (fun _ hk => hk.2) (.int .u8 t183)) (fun _ hk => hk.2) (.int .u8 t184)) (fun _ hk => hk.2) (.int .u8 t185)) (fun _ hk => hk.2) (.slice Ao29 t186.length co29)) (fun _ hk => hk.2) (.int .i64 t189)) (fun _ h_ => h_.1))) (Kr.R_base ho31) hb); have n4_ := Aside0.mk (Kr.R_lower (Kr.R_new' (Kr.R_new' (Kr.R_new' (Kr.R_new' ho31 (Kr.R_lt (by (with_reducible repeat (first | apply Kr.R_alloc | apply Kr.R_drewN | apply Kr.R_drew)); exact (Kr.R_mono (Kr.R_far (p := ⟨gb191, 6, none⟩) (Kr.R_far (p := ⟨gb191, 5, none⟩) (Kr.R_far (p := ⟨gb191, 4, none⟩) (Kr.R_far (p := ⟨gb191, 3, none⟩) (Kr.R_far (p := ⟨gb191, 2, none⟩) (Kr.R_far (p := ⟨gb191, 1, none⟩) (Kr.R_far (p := ⟨gb191, 0, none⟩) (Kr.R_types HO166.out BK191.out (by decide)) (fun _ hk => hk.2) (.int .i64 t181)) (fun _ hk => hk.2) (.int .u8 t182)) (fun _ hk => hk.2) (.int .u8 t183)) (fun _ hk => hk.2) (.int .u8 t184)) (fun _ hk => hk.2) (.int .u8 t185)) (fun _ hk => hk.2) (.slice Ao29 t186.length co29)) (fun _ hk => hk.2) (.int .i64 t189)) (fun _ h_ => h_.1))))) (Kr.R_lt (by (with_reducible repeat (first | apply Kr.R_alloc | apply Kr.R_drewN | apply Kr.R_drew)); exact (Kr.R_mono (Kr.R_far (p := ⟨gb191, 6, none⟩) (Kr.R_far (p := ⟨gb191, 5, none⟩) (Kr.R_far (p := ⟨gb191, 4, none⟩) (Kr.R_far (p := ⟨gb191, 3, none⟩) (Kr.R_far (p := ⟨gb191, 2, none⟩) (Kr.R_far (p := ⟨gb191, 1, none⟩) (Kr.R_far (p := ⟨gb191, 0, none⟩) (Kr.R_types HO174.out BK191.out (by decide)) (fun _ hk => hk.2) (.int .i64 t181)) (fun _ hk => hk.2) (.int .u8 t182)) (fun _ hk => hk.2) (.int .u8 t183)) (fun _ hk => hk.2) (.int .u8 t184)) (fun _ hk => hk.2) (.int .u8 t185)) (fun _ hk => hk.2) (.slice Ao29 t186.length co29)) (fun _ hk => hk.2) (.int .i64 t189)) (fun _ h_ => h_.1))))) (Kr.R_lt (by (with_reducible repeat (first | apply Kr.R_alloc | apply Kr.R_drewN | apply Kr.R_drew)); exact (Kr.R_mono (Kr.R_far (p := ⟨gb191, 6, none⟩) (Kr.R_far (p := ⟨gb191, 5, none⟩) (Kr.R_far (p := ⟨gb191, 4, none⟩) (Kr.R_far (p := ⟨gb191, 3, none⟩) (Kr.R_far (p := ⟨gb191, 2, none⟩) (Kr.R_far (p := ⟨gb191, 1, none⟩) (Kr.R_far (p := ⟨gb191, 0, none⟩) (Kr.R_types HO180.out BK191.out (by decide)) (fun _ hk => hk.2) (.int .i64 t181)) (fun _ hk => hk.2) (.int .u8 t182)) (fun _ hk => hk.2) (.int .u8 t183)) (fun _ hk => hk.2) (.int .u8 t184)) (fun _ hk => hk.2) (.int .u8 t185)) (fun _ hk => hk.2) (.slice Ao29 t186.length co29)) (fun _ hk => hk.2) (.int .i64 t189)) (fun _ h_ => h_.1))))) (Kr.R_lt (by (with_reducible repeat (first | apply Kr.R_alloc | apply Kr.R_drewN | apply Kr.R_drew)); exact (Kr.R_mono (Kr.R_far (p := ⟨gb191, 6, none⟩) (Kr.R_far (p := ⟨gb191, 5, none⟩) (Kr.R_far (p := ⟨gb191, 4, none⟩) (Kr.R_far (p := ⟨gb191, 3, none⟩) (Kr.R_far (p := ⟨gb191, 2, none⟩) (Kr.R_far (p := ⟨gb191, 1, none⟩) (Kr.R_far (p := ⟨gb191, 0, none⟩) (Kr.R_types HO188.out BK191.out (by decide)) (fun _ hk => hk.2) (.int .i64 t181)) (fun _ hk => hk.2) (.int .u8 t182)) (fun _ hk => hk.2) (.int .u8 t183)) (fun _ hk => hk.2) (.int .u8 t184)) (fun _ hk => hk.2) (.int .u8 t185)) (fun _ hk => hk.2) (.slice Ao29 t186.length co29)) (fun _ hk => hk.2) (.int .i64 t189)) (fun _ h_ => h_.1))))) (below_size (by repeat (first | (with_reducible first | exact HB.out | apply below_alloc | apply pw_below_drewN | apply below_drew1 | refine below_set ?_ GE177.out | refine below_set ?_ GE191.out) | exact HB.out)))); have n5_ := Aside0.mk (blk_below (g := gb177) (o := .cells #[.int .i64 t167, .int .u8 t168, .int .u8 t169, .int .u8 t170, .int .u8 t171, .slice Ao21 t172.length co21, .int .i64 t175] 25 (0, 0)) (by (with_reducible repeat (first | refine blk_drewN ?_ _ | refine blk_drew ?_ | refine blk_alloc ?_ _)); refine blk_far ?_ NB177_191.out _; (with_reducible repeat (first | refine blk_drewN ?_ _ | refine blk_drew ?_ | refine blk_alloc ?_ _)); refine blk_far ?_ NB177_191.out _; (with_reducible repeat (first | refine blk_drewN ?_ _ | refine blk_drew ?_ | refine blk_alloc ?_ _)); refine blk_far ?_ NB177_191.out _; (with_reducible repeat (first | refine blk_drewN ?_ _ | refine blk_drew ?_ | refine blk_alloc ?_ _)); refine blk_far ?_ NB177_191.out _; (with_reducible repeat (first | refine blk_drewN ?_ _ | refine blk_drew ?_ | refine blk_alloc ?_ _)); refine blk_far ?_ NB177_191.out _; (with_reducible repeat (first | refine blk_drewN ?_ _ | refine blk_drew ?_ | refine blk_alloc ?_ _)); refine blk_far ?_ NB177_191.out _; (with_reducible repeat (first | refine blk_drewN ?_ _ | refine blk_drew ?_ | refine blk_alloc ?_ _)); refine blk_far ?_ NB177_191.out _; (with_reducible repeat (first | refine blk_drewN ?_ _ | refine blk_drew ?_ | refine blk_alloc ?_ _)); exact BK177.out) hb); have n6_ := Aside0.mk (blk_below (g := gb191) (o := .cells #[.int .i64 t181, .int .u8 t182, .int .u8 t183, .int .u8 t184, .int .u8 t185, .slice Ao29 t186.length co29, .int .i64 t189] 25 (0, 0)) (by (with_reducible repeat (first | refine blk_drewN ?_ _ | refine blk_drew ?_ | refine blk_alloc ?_ _)); refine blk_put (cs := #[.int .i64 t181, .int .u8 t182, .int .u8 t183, .int .u8 t184, .int .u8 t185, .slice Ao29 t186.length co29, .int .i64 0]) ?_ 6 _ rfl; (with_reducible repeat (first | refine blk_drewN ?_ _ | refine blk_drew ?_ | refine blk_alloc ?_ _)); refine blk_put (cs := #[.int .i64 t181, .int .u8 t182, .int .u8 t183, .int .u8 t184, .int .u8 t185, .slice none 0 0, .int .i64 0]) ?_ 5 _ rfl; (with_reducible repeat (first | refine blk_drewN ?_ _ | refine blk_drew ?_ | refine blk_alloc ?_ _)); refine blk_put (cs := #[.int .i64 t181, .int .u8 t182, .int .u8 t183, .int .u8 t184, .int .u8 0, .slice none 0 0, .int .i64 0]) ?_ 4 _ rfl; (with_reducible repeat (first | refine blk_drewN ?_ _ | refine blk_drew ?_ | refine blk_alloc ?_ _)); refine blk_put (cs := #[.int .i64 t181, .int .u8 t182, .int .u8 t183, .int .u8 0, .int .u8 0, .slice none 0 0, .int .i64 0]) ?_ 3 _ rfl; (with_reducible repeat (first | refine blk_drewN ?_ _ | refine blk_drew ?_ | refine blk_alloc ?_ _)); refine blk_put (cs := #[.int .i64 t181, .int .u8 t182, .int .u8 0, .int .u8 0, .int .u8 0, .slice none 0 0, .int .i64 0]) ?_ 2 _ rfl; (with_reducible repeat (first | refine blk_drewN ?_ _ | refine blk_drew ?_ | refine blk_alloc ?_ _)); refine blk_put (cs := #[.int .i64 t181, .int .u8 0, .int .u8 0, .int .u8 0, .int .u8 0, .slice none 0 0, .int .i64 0]) ?_ 1 _ rfl; (with_reducible repeat (first | refine blk_drewN ?_ _ | refine blk_drew ?_ | refine blk_alloc ?_ _)); refine blk_put (cs := #[.int .i64 0, .int .u8 0, .int .u8 0, .int .u8 0, .int .u8 0, .slice none 0 0, .int .i64 0]) ?_ 0 _ rfl; (with_reducible repeat (first | refine blk_drewN ?_ _ | refine blk_drew ?_ | refine blk_alloc ?_ _)); exact BK191.out) hb); have n7_ := Aside0.mk (below_step (by repeat (first | (with_reducible first | exact HB.out | apply below_alloc | apply pw_below_drewN | apply below_drew1 | refine below_set ?_ GE177.out | refine below_set ?_ GE191.out) | exact HB.out)) hb); clear HO166; clear HO174; clear HO180; clear HO188; clear BK177; clear BK191; clear HB; have HO166 := n0_; have HO174 := n1_; have HO180 := n2_; have HO188 := n3_; have HO194 := n4_; have BK177 := n5_; have BK191 := n6_; have HB := n7_; clear n0_ n1_ n2_ n3_ n4_ n5_ n6_ n7_; clear hb ho31; obtain ⟨Ao32, co32, eo32⟩ := Kr.R_slice HO194.out; subst eo32) | ((with_reducible refine gate_callee (f := 16) rfl ?_); refine goesL_ (some 21) rfl rfl Try.func16 (by kernel_rfl) rfl #[.slice Ao32 y192.length co32] rfl (by (try simp only [List.map_toArray, List.map_cons, List.map_nil]); first | done | rfl | (simp only [List.length_drop, List.length_take]; rfl)) ?_; (with_reducible refine (apdu_Read.calls k _ _ y192 t195 t196 t197 t198 t199 t200 t203 t204 _ ?side1 ?side2 A3.out).mono ?_); (case side1 => repeat (first | exact (Kr.R_reads' HO194.out).2.2 | (with_reducible refine Kd.C_alloc ?_ _) | (with_reducible refine Kd.C_drewN ?_ _) | (with_reducible refine Kd.C_drew ?_))); (case side2 => exact (Kr.R_reads' HO194.out).2.1); rintro e w33 ⟨v201, rfl, ho0, hb⟩; refine ⟨_, rfl, ?_⟩; have n0_ := Aside0.mk (Kr.R_elder' (by (with_reducible repeat (first | apply Kr.R_alloc | apply Kr.R_drewN | apply Kr.R_drew)); exact HO166.out) (Kr.R_base ho0) hb); have n1_ := Aside0.mk (Kr.R_elder' (by (with_reducible repeat (first | apply Kr.R_alloc | apply Kr.R_drewN | apply Kr.R_drew)); exact HO174.out) (Kr.R_base ho0) hb); have n2_ := Aside0.mk (Kr.R_elder' (by (with_reducible repeat (first | apply Kr.R_alloc | apply Kr.R_drewN | apply Kr.R_drew)); exact HO180.out) (Kr.R_base ho0) hb); have n3_ := Aside0.mk (Kr.R_elder' (by (with_reducible repeat (first | apply Kr.R_alloc | apply Kr.R_drewN | apply Kr.R_drew)); exact HO188.out) (Kr.R_base ho0) hb); have n4_ := Aside0.mk (Kr.R_elder' (by (with_reducible repeat (first | apply Kr.R_alloc | apply Kr.R_drewN | apply Kr.R_drew)); exact HO194.out) (Kr.R_base ho0) hb); have n5_ := Aside0.mk (Kr.R_lower (Kr.R_new' (Kr.R_new' (Kr.R_new' (Kr.R_new' (Kr.R_new' ho0 (Kr.R_lt (by (with_reducible repeat (first | apply Kr.R_alloc | apply Kr.R_drewN | apply Kr.R_drew)); exact HO166.out))) (Kr.R_lt (by (with_reducible repeat (first | apply Kr.R_alloc | apply Kr.R_drewN | apply Kr.R_drew)); exact HO174.out))) (Kr.R_lt (by (with_reducible repeat (first | apply Kr.R_alloc | apply Kr.R_drewN | apply Kr.R_drew)); exact HO180.out))) (Kr.R_lt (by (with_reducible repeat (first | apply Kr.R_alloc | apply Kr.R_drewN | apply Kr.R_drew)); exact HO188.out))) (Kr.R_lt (by (with_reducible repeat (first | apply Kr.R_alloc | apply Kr.R_drewN | apply Kr.R_drew)); exact HO194.out))) (below_size (by repeat (first | (with_reducible first | exact HB.out | apply below_alloc | apply pw_below_drewN | apply below_drew1 | refine below_set ?_ GE177.out | refine below_set ?_ GE191.out) | exact HB.out)))); have n6_ := Aside0.mk (blk_below (g := gb177) (o := .cells #[.int .i64 t167, .int .u8 t168, .int .u8 t169, .int .u8 t170, .int .u8 t171, .slice Ao21 t172.length co21, .int .i64 t175] 25 (0, 0)) (by (with_reducible repeat (first | refine blk_drewN ?_ _ | refine blk_drew ?_ | refine blk_alloc ?_ _)); exact BK177.out) hb); have n7_ := Aside0.mk (blk_below (g := gb191) (o := .cells #[.int .i64 t181, .int .u8 t182, .int .u8 t183, .int .u8 t184, .int .u8 t185, .slice Ao29 t186.length co29, .int .i64 t189] 25 (0, 0)) (by (with_reducible repeat (first | refine blk_drewN ?_ _ | refine blk_drew ?_ | refine blk_alloc ?_ _)); exact BK191.out) hb); have n8_ := Aside0.mk (below_step (by repeat (first | (with_reducible first | exact HB.out | apply below_alloc | apply pw_below_drewN | apply below_drew1 | refine below_set ?_ GE177.out | refine below_set ?_ GE191.out) | exact HB.out)) hb); clear HO166; clear HO174; clear HO180; clear HO188; clear HO194; clear BK177; clear BK191; clear HB; have HO166 := n0_; have HO174 := n1_; have HO180 := n2_; have HO188 := n3_; have HO194 := n4_; have HO202 := n5_; have BK177 := n6_; have BK191 := n7_; have HB := n8_; clear n0_ n1_ n2_ n3_ n4_ n5_ n6_ n7_ n8_; (try clear hb); (try clear hb2); (try clear hk); (try clear hi); (try clear ho0)) | ((with_reducible refine gate_dst (N := 5) rfl ?_); (try (refine gate_guard (by rfl) ?_; dsimp only)); refine box_event ?hg (N := 5) ?hd (cs := #[.int .i64 0, .int .u8 0, .int .u8 0, .int .u8 0, .int .u8 0, .slice none 0 0, .int .i64 0]) (t := 25) ?hr ?_; (case hd => rfl); (case hg => rfl); (case hr => first | (go_simp; done) | (go_simp; rfl)); intro gb205 hg w34 hbox hb; have n0_ := Aside0.mk (Kr.R_below (by (with_reducible repeat (first | apply Kr.R_alloc | apply Kr.R_drewN | apply Kr.R_drew)); exact HO166.out) hb); have n1_ := Aside0.mk (Kr.R_below (by (with_reducible repeat (first | apply Kr.R_alloc | apply Kr.R_drewN | apply Kr.R_drew)); exact HO174.out) hb); have n2_ := Aside0.mk (Kr.R_below (by (with_reducible repeat (first | apply Kr.R_alloc | apply Kr.R_drewN | apply Kr.R_drew)); exact HO180.out) hb); have n3_ := Aside0.mk (Kr.R_below (by (with_reducible repeat (first | apply Kr.R_alloc | apply Kr.R_drewN | apply Kr.R_drew)); exact HO188.out) hb); have n4_ := Aside0.mk (Kr.R_below (by (with_reducible repeat (first | apply Kr.R_alloc | apply Kr.R_drewN | apply Kr.R_drew)); exact HO194.out) hb); have n5_ := Aside0.mk (Kr.R_below (by (with_reducible repeat (first | apply Kr.R_alloc | apply Kr.R_drewN | apply Kr.R_drew)); exact HO202.out) hb); have n6_ := Aside0.mk (blk_below (g := gb177) (o := .cells #[.int .i64 t167, .int .u8 t168, .int .u8 t169, .int .u8 t170, .int .u8 t171, .slice Ao21 t172.length co21, .int .i64 t175] 25 (0, 0)) (by (with_reducible repeat (first | refine blk_drewN ?_ _ | refine blk_drew ?_ | refine blk_alloc ?_ _)); exact BK177.out) hb); have n7_ := Aside0.mk (blk_below (g := gb191) (o := .cells #[.int .i64 t181, .int .u8 t182, .int .u8 t183, .int .u8 t184, .int .u8 t185, .slice Ao29 t186.length co29, .int .i64 t189] 25 (0, 0)) (by (with_reducible repeat (first | refine blk_drewN ?_ _ | refine blk_drew ?_ | refine blk_alloc ?_ _)); exact BK191.out) hb); have n8_ := Aside0.mk (below_step (by repeat (first | (with_reducible first | exact HB.out | apply below_alloc | apply pw_below_drewN | apply below_drew1 | refine below_set ?_ GE177.out | refine below_set ?_ GE191.out) | exact HB.out)) hb); have n9_ := Aside0.mk (hbox); have n10_ := Aside0.mk ((by rw [hg]; exact (below_size (by repeat (first | (with_reducible first | exact HB.out | apply below_alloc | apply pw_below_drewN | apply below_drew1 | refine below_set ?_ GE177.out | refine below_set ?_ GE191.out) | exact HB.out))) : w.heap.size ≤ gb205)); have n11_ := Aside0.mk ((by rw [hg]; exact (below_size (by repeat (first | (with_reducible first | exact HB.out | apply below_alloc | apply pw_below_drewN | apply below_drew1 | refine below_set ?_ GE177.out | refine below_set ?_ GE191.out) | exact HB.out))) : w.heap.size ≤ gb205)); have n12_ := Aside0.mk ((by rw [hg]; exact Nat.ne_of_lt (blk_lt (g := gb177) (o := .cells #[.int .i64 t167, .int .u8 t168, .int .u8 t169, .int .u8 t170, .int .u8 t171, .slice Ao21 t172.length co21, .int .i64 t175] 25 (0, 0)) (by (with_reducible repeat (first | refine blk_drewN ?_ _ | refine blk_drew ?_ | refine blk_alloc ?_ _)); exact BK177.out)) : gb177 ≠ gb205)); have n13_ := Aside0.mk ((by rw [hg]; exact Nat.ne_of_gt (blk_lt (g := gb177) (o := .cells #[.int .i64 t167, .int .u8 t168, .int .u8 t169, .int .u8 t170, .int .u8 t171, .slice Ao21 t172.length co21, .int .i64 t175] 25 (0, 0)) (by (with_reducible repeat (first | refine blk_drewN ?_ _ | refine blk_drew ?_ | refine blk_alloc ?_ _)); exact BK177.out)) : gb205 ≠ gb177)); have n14_ := Aside0.mk ((by rw [hg]; exact Nat.ne_of_lt (blk_lt (g := gb191) (o := .cells #[.int .i64 t181, .int .u8 t182, .int .u8 t183, .int .u8 t184, .int .u8 t185, .slice Ao29 t186.length co29, .int .i64 t189] 25 (0, 0)) (by (with_reducible repeat (first | refine blk_drewN ?_ _ | refine blk_drew ?_ | refine blk_alloc ?_ _)); exact BK191.out)) : gb191 ≠ gb205)); have n15_ := Aside0.mk ((by rw [hg]; exact Nat.ne_of_gt (blk_lt (g := gb191) (o := .cells #[.int .i64 t181, .int .u8 t182, .int .u8 t183, .int .u8 t184, .int .u8 t185, .slice Ao29 t186.length co29, .int .i64 t189] 25 (0, 0)) (by (with_reducible repeat (first | refine blk_drewN ?_ _ | refine blk_drew ?_ | refine blk_alloc ?_ _)); exact BK191.out)) : gb205 ≠ gb191)); clear HO166; clear HO174; clear HO180; clear HO188; clear HO194; clear HO202; clear BK177; clear BK191; clear HB; have HO166 := n0_; have HO174 := n1_; have HO180 := n2_; have HO188 := n3_; have HO194 := n4_; have HO202 := n5_; have BK177 := n6_; have BK191 := n7_; have HB := n8_; have BK205 := n9_; have GW205 := n10_; have GE205 := n11_; have NB177_205 := n12_; have NB205_177 := n13_; have NB191_205 := n14_; have NB205_191 := n15_; clear n0_ n1_ n2_ n3_ n4_ n5_ n6_ n7_ n8_ n9_ n10_ n11_ n12_ n13_ n14_ n15_; clear hb hbox hg; have hnb35 := NB205_177.out; have hnc35 := NB177_205.out; have hnb36 := NB205_191.out; have hnc36 := NB191_205.out; have hcz37_0 : w34.cell? ⟨gb205, 0, none⟩ = some (.int .i64 0) := (blk_cell BK205.out 0).trans rfl; have hcz37_1 : w34.cell? ⟨gb205, 1, none⟩ = some (.int .u8 0) := (blk_cell BK205.out 1).trans rfl; have hcz37_2 : w34.cell? ⟨gb205, 2, none⟩ = some (.int .u8 0) := (blk_cell BK205.out 2).trans rfl; have hcz37_3 : w34.cell? ⟨gb205, 3, none⟩ = some (.int .u8 0) := (blk_cell BK205.out 3).trans rfl; have hcz37_4 : w34.cell? ⟨gb205, 4, none⟩ = some (.int .u8 0) := (blk_cell BK205.out 4).trans rfl; have hcz37_5 : w34.cell? ⟨gb205, 5, none⟩ = some (.slice none 0 0) := (blk_cell BK205.out 5).trans rfl; have hcz37_6 : w34.cell? ⟨gb205, 6, none⟩ = some (.int .i64 0) := (blk_cell BK205.out 6).trans rfl; have hfz37_0 := blk_frozen BK205.out 0; have hfz37_1 := blk_frozen BK205.out 1; have hfz37_2 := blk_frozen BK205.out 2; have hfz37_3 := blk_frozen BK205.out 3; have hfz37_4 := blk_frozen BK205.out 4; have hfz37_5 := blk_frozen BK205.out 5; have hfz37_6 := blk_frozen BK205.out 6; obtain ⟨Ao38, co38, eo38⟩ := Kr.R_slice HO202.out; subst eo38) | ((with_reducible refine gate_dst (N := 25) rfl ?_); (try (refine gate_guard (by rfl) ?_; dsimp only)); refine Kr.R_lit (Kd.int .u8) _ 5 ?hg (N := 25) ?hd (xs := ([0, 164, 4, 0, 2, 1, 2, 7] : List Int)) (inner := [.int .u8 0, .int .u8 164, .int .u8 4, .int .u8 0, .int .u8 2, .int .u8 1, .int .u8 2, .int .u8 7]) (ok := fun _ => True) (okp := fun _ => True) ?hr ?hp (fun _ hk => hk) trivial (Below.refl _ _) (Nat.le_refl _) (by simp) ?_; (case hd => rfl); (case hg => rfl); (case hr => first | (go_simp; done) | (go_simp; rfl)); (case hp => exact (Reps.one (show Kd.M (Kd.int .u8) _ _ _ 0 [.int .u8 0] from rfl) (Reps.one (show Kd.M (Kd.int .u8) _ _ _ 164 [.int .u8 164] from rfl) (Reps.one (show Kd.M (Kd.int .u8) _ _ _ 4 [.int .u8 4] from rfl) (Reps.one (show Kd.M (Kd.int .u8) _ _ _ 0 [.int .u8 0] from rfl) (Reps.one (show Kd.M (Kd.int .u8) _ _ _ 2 [.int .u8 2] from rfl) (Reps.one (show Kd.M (Kd.int .u8) _ _ _ 1 [.int .u8 1] from rfl) (Reps.one (show Kd.M (Kd.int .u8) _ _ _ 2 [.int .u8 2] from rfl) (Reps.one (show Kd.M (Kd.int .u8) _ _ _ 7 [.int .u8 7] from rfl) (Reps.none _ _)))))))))); intro v207 w39 ho40 hb hg_ hnew_; clear hg_ hnew_; (first | rw [← Ny206.out] at ho40 | (simp only [Int.reduceToNat] at ho40; rw [← Ny206.out] at ho40)); have n0_ := Aside0.mk (Kr.R_elder' (by (with_reducible repeat (first | apply Kr.R_alloc | apply Kr.R_drewN | apply Kr.R_drew)); exact (Kr.R_mono (Kr.R_far (p := ⟨gb205, 6, none⟩) (Kr.R_far (p := ⟨gb205, 5, none⟩) (Kr.R_far (p := ⟨gb205, 4, none⟩) (Kr.R_far (p := ⟨gb205, 3, none⟩) (Kr.R_far (p := ⟨gb205, 2, none⟩) (Kr.R_far (p := ⟨gb205, 1, none⟩) (Kr.R_far (p := ⟨gb205, 0, none⟩) (Kr.R_types HO166.out BK205.out (by decide)) (fun _ hk => hk.2) (.int .i64 t195)) (fun _ hk => hk.2) (.int .u8 t196)) (fun _ hk => hk.2) (.int .u8 t197)) (fun _ hk => hk.2) (.int .u8 t198)) (fun _ hk => hk.2) (.int .u8 t199)) (fun _ hk => hk.2) (.slice Ao38 t200.length co38)) (fun _ hk => hk.2) (.int .i64 t203)) (fun _ h_ => h_.1))) (Kr.R_base ho40) hb); have n1_ := Aside0.mk (Kr.R_elder' (by (with_reducible repeat (first | apply Kr.R_alloc | apply Kr.R_drewN | apply Kr.R_drew)); exact (Kr.R_mono (Kr.R_far (p := ⟨gb205, 6, none⟩) (Kr.R_far (p := ⟨gb205, 5, none⟩) (Kr.R_far (p := ⟨gb205, 4, none⟩) (Kr.R_far (p := ⟨gb205, 3, none⟩) (Kr.R_far (p := ⟨gb205, 2, none⟩) (Kr.R_far (p := ⟨gb205, 1, none⟩) (Kr.R_far (p := ⟨gb205, 0, none⟩) (Kr.R_types HO174.out BK205.out (by decide)) (fun _ hk => hk.2) (.int .i64 t195)) (fun _ hk => hk.2) (.int .u8 t196)) (fun _ hk => hk.2) (.int .u8 t197)) (fun _ hk => hk.2) (.int .u8 t198)) (fun _ hk => hk.2) (.int .u8 t199)) (fun _ hk => hk.2) (.slice Ao38 t200.length co38)) (fun _ hk => hk.2) (.int .i64 t203)) (fun _ h_ => h_.1))) (Kr.R_base ho40) hb); have n2_ := Aside0.mk (Kr.R_elder' (by (with_reducible repeat (first | apply Kr.R_alloc | apply Kr.R_drewN | apply Kr.R_drew)); exact (Kr.R_mono (Kr.R_far (p := ⟨gb205, 6, none⟩) (Kr.R_far (p := ⟨gb205, 5, none⟩) (Kr.R_far (p := ⟨gb205, 4, none⟩) (Kr.R_far (p := ⟨gb205, 3, none⟩) (Kr.R_far (p := ⟨gb205, 2, none⟩) (Kr.R_far (p := ⟨gb205, 1, none⟩) (Kr.R_far (p := ⟨gb205, 0, none⟩) (Kr.R_types HO180.out BK205.out (by decide)) (fun _ hk => hk.2) (.int .i64 t195)) (fun _ hk => hk.2) (.int .u8 t196)) (fun _ hk => hk.2) (.int .u8 t197)) (fun _ hk => hk.2) (.int .u8 t198)) (fun _ hk => hk.2) (.int .u8 t199)) (fun _ hk => hk.2) (.slice Ao38 t200.length co38)) (fun _ hk => hk.2) (.int .i64 t203)) (fun _ h_ => h_.1))) (Kr.R_base ho40) hb); have n3_ := Aside0.mk (Kr.R_elder' (by (with_reducible repeat (first | apply Kr.R_alloc | apply Kr.R_drewN | apply Kr.R_drew)); exact (Kr.R_mono (Kr.R_far (p := ⟨gb205, 6, none⟩) (Kr.R_far (p := ⟨gb205, 5, none⟩) (Kr.R_far (p := ⟨gb205, 4, none⟩) (Kr.R_far (p := ⟨gb205, 3, none⟩) (Kr.R_far (p := ⟨gb205, 2, none⟩) (Kr.R_far (p := ⟨gb205, 1, none⟩) (Kr.R_far (p := ⟨gb205, 0, none⟩) (Kr.R_types HO188.out BK205.out (by decide)) (fun _ hk => hk.2) (.int .i64 t195)) (fun _ hk => hk.2) (.int .u8 t196)) (fun _ hk => hk.2) (.int .u8 t197)) (fun _ hk => hk.2) (.int .u8 t198)) (fun _ hk => hk.2) (.int .u8 t199)) (fun _ hk => hk.2) (.slice Ao38 t200.length co38)) (fun _ hk => hk.2) (.int .i64 t203)) (fun _ h_ => h_.1))) (Kr.R_base ho40) hb); have n4_ := Aside0.mk (Kr.R_elder' (by (with_reducible repeat (first | apply Kr.R_alloc | apply Kr.R_drewN | apply Kr.R_drew)); exact (Kr.R_mono (Kr.R_far (p := ⟨gb205, 6, none⟩) (Kr.R_far (p := ⟨gb205, 5, none⟩) (Kr.R_far (p := ⟨gb205, 4, none⟩) (Kr.R_far (p := ⟨gb205, 3, none⟩) (Kr.R_far (p := ⟨gb205, 2, none⟩) (Kr.R_far (p := ⟨gb205, 1, none⟩) (Kr.R_far (p := ⟨gb205, 0, none⟩) (Kr.R_types HO194.out BK205.out (by decide)) (fun _ hk => hk.2) (.int .i64 t195)) (fun _ hk => hk.2) (.int .u8 t196)) (fun _ hk => hk.2) (.int .u8 t197)) (fun _ hk => hk.2) (.int .u8 t198)) (fun _ hk => hk.2) (.int .u8 t199)) (fun _ hk => hk.2) (.slice Ao38 t200.length co38)) (fun _ hk => hk.2) (.int .i64 t203)) (fun _ h_ => h_.1))) (Kr.R_base ho40) hb); have n5_ := Aside0.mk (Kr.R_elder' (by (with_reducible repeat (first | apply Kr.R_alloc | apply Kr.R_drewN | apply Kr.R_drew)); exact (Kr.R_mono (Kr.R_far (p := ⟨gb205, 6, none⟩) (Kr.R_far (p := ⟨gb205, 5, none⟩) (Kr.R_far (p := ⟨gb205, 4, none⟩) (Kr.R_far (p := ⟨gb205, 3, none⟩) (Kr.R_far (p := ⟨gb205, 2, none⟩) (Kr.R_far (p := ⟨gb205, 1, none⟩) (Kr.R_far (p := ⟨gb205, 0, none⟩) (Kr.R_types HO202.out BK205.out (by decide)) (fun _ hk => hk.2) (.int .i64 t195)) (fun _ hk => hk.2) (.int .u8 t196)) (fun _ hk => hk.2) (.int .u8 t197)) (fun _ hk => hk.2) (.int .u8 t198)) (fun _ hk => hk.2) (.int .u8 t199)) (fun _ hk => hk.2) (.slice Ao38 t200.length co38)) (fun _ hk => hk.2) (.int .i64 t203)) (fun _ h_ => h_.1))) (Kr.R_base ho40) hb); have n6_ := Aside0.mk (Kr.R_lower (Kr.R_new' (Kr.R_new' (Kr.R_new' (Kr.R_new' (Kr.R_new' (Kr.R_new' ho40 (Kr.R_lt (by (with_reducible repeat (first | apply Kr.R_alloc | apply Kr.R_drewN | apply Kr.R_drew)); exact (Kr.R_mono (Kr.R_far (p := ⟨gb205, 6, none⟩) (Kr.R_far (p := ⟨gb205, 5, none⟩) (Kr.R_far (p := ⟨gb205, 4, none⟩) (Kr.R_far (p := ⟨gb205, 3, none⟩) (Kr.R_far (p := ⟨gb205, 2, none⟩) (Kr.R_far (p := ⟨gb205, 1, none⟩) (Kr.R_far (p := ⟨gb205, 0, none⟩) (Kr.R_types HO166.out BK205.out (by decide)) (fun _ hk => hk.2) (.int .i64 t195)) (fun _ hk => hk.2) (.int .u8 t196)) (fun _ hk => hk.2) (.int .u8 t197)) (fun _ hk => hk.2) (.int .u8 t198)) (fun _ hk => hk.2) (.int .u8 t199)) (fun _ hk => hk.2) (.slice Ao38 t200.length co38)) (fun _ hk => hk.2) (.int .i64 t203)) (fun _ h_ => h_.1))))) (Kr.R_lt (by (with_reducible repeat (first | apply Kr.R_alloc | apply Kr.R_drewN | apply Kr.R_drew)); exact (Kr.R_mono (Kr.R_far (p := ⟨gb205, 6, none⟩) (Kr.R_far (p := ⟨gb205, 5, none⟩) (Kr.R_far (p := ⟨gb205, 4, none⟩) (Kr.R_far (p := ⟨gb205, 3, none⟩) (Kr.R_far (p := ⟨gb205, 2, none⟩) (Kr.R_far (p := ⟨gb205, 1, none⟩) (Kr.R_far (p := ⟨gb205, 0, none⟩) (Kr.R_types HO174.out BK205.out (by decide)) (fun _ hk => hk.2) (.int .i64 t195)) (fun _ hk => hk.2) (.int .u8 t196)) (fun _ hk => hk.2) (.int .u8 t197)) (fun _ hk => hk.2) (.int .u8 t198)) (fun _ hk => hk.2) (.int .u8 t199)) (fun _ hk => hk.2) (.slice Ao38 t200.length co38)) (fun _ hk => hk.2) (.int .i64 t203)) (fun _ h_ => h_.1))))) (Kr.R_lt (by (with_reducible repeat (first | apply Kr.R_alloc | apply Kr.R_drewN | apply Kr.R_drew)); exact (Kr.R_mono (Kr.R_far (p := ⟨gb205, 6, none⟩) (Kr.R_far (p := ⟨gb205, 5, none⟩) (Kr.R_far (p := ⟨gb205, 4, none⟩) (Kr.R_far (p := ⟨gb205, 3, none⟩) (Kr.R_far (p := ⟨gb205, 2, none⟩) (Kr.R_far (p := ⟨gb205, 1, none⟩) (Kr.R_far (p := ⟨gb205, 0, none⟩) (Kr.R_types HO180.out BK205.out (by decide)) (fun _ hk => hk.2) (.int .i64 t195)) (fun _ hk => hk.2) (.int .u8 t196)) (fun _ hk => hk.2) (.int .u8 t197)) (fun _ hk => hk.2) (.int .u8 t198)) (fun _ hk => hk.2) (.int .u8 t199)) (fun _ hk => hk.2) (.slice Ao38 t200.length co38)) (fun _ hk => hk.2) (.int .i64 t203)) (fun _ h_ => h_.1))))) (Kr.R_lt (by (with_reducible repeat (first | apply Kr.R_alloc | apply Kr.R_drewN | apply Kr.R_drew)); exact (Kr.R_mono (Kr.R_far (p := ⟨gb205, 6, none⟩) (Kr.R_far (p := ⟨gb205, 5, none⟩) (Kr.R_far (p := ⟨gb205, 4, none⟩) (Kr.R_far (p := ⟨gb205, 3, none⟩) (Kr.R_far (p := ⟨gb205, 2, none⟩) (Kr.R_far (p := ⟨gb205, 1, none⟩) (Kr.R_far (p := ⟨gb205, 0, none⟩) (Kr.R_types HO188.out BK205.out (by decide)) (fun _ hk => hk.2) (.int .i64 t195)) (fun _ hk => hk.2) (.int .u8 t196)) (fun _ hk => hk.2) (.int .u8 t197)) (fun _ hk => hk.2) (.int .u8 t198)) (fun _ hk => hk.2) (.int .u8 t199)) (fun _ hk => hk.2) (.slice Ao38 t200.length co38)) (fun _ hk => hk.2) (.int .i64 t203)) (fun _ h_ => h_.1))))) (Kr.R_lt (by (with_reducible repeat (first | apply Kr.R_alloc | apply Kr.R_drewN | apply Kr.R_drew)); exact (Kr.R_mono (Kr.R_far (p := ⟨gb205, 6, none⟩) (Kr.R_far (p := ⟨gb205, 5, none⟩) (Kr.R_far (p := ⟨gb205, 4, none⟩) (Kr.R_far (p := ⟨gb205, 3, none⟩) (Kr.R_far (p := ⟨gb205, 2, none⟩) (Kr.R_far (p := ⟨gb205, 1, none⟩) (Kr.R_far (p := ⟨gb205, 0, none⟩) (Kr.R_types HO194.out BK205.out (by decide)) (fun _ hk => hk.2) (.int .i64 t195)) (fun _ hk => hk.2) (.int .u8 t196)) (fun _ hk => hk.2) (.int .u8 t197)) (fun _ hk => hk.2) (.int .u8 t198)) (fun _ hk => hk.2) (.int .u8 t199)) (fun _ hk => hk.2) (.slice Ao38 t200.length co38)) (fun _ hk => hk.2) (.int .i64 t203)) (fun _ h_ => h_.1))))) (Kr.R_lt (by (with_reducible repeat (first | apply Kr.R_alloc | apply Kr.R_drewN | apply Kr.R_drew)); exact (Kr.R_mono (Kr.R_far (p := ⟨gb205, 6, none⟩) (Kr.R_far (p := ⟨gb205, 5, none⟩) (Kr.R_far (p := ⟨gb205, 4, none⟩) (Kr.R_far (p := ⟨gb205, 3, none⟩) (Kr.R_far (p := ⟨gb205, 2, none⟩) (Kr.R_far (p := ⟨gb205, 1, none⟩) (Kr.R_far (p := ⟨gb205, 0, none⟩) (Kr.R_types HO202.out BK205.out (by decide)) (fun _ hk => hk.2) (.int .i64 t195)) (fun _ hk => hk.2) (.int .u8 t196)) (fun _ hk => hk.2) (.int .u8 t197)) (fun _ hk => hk.2) (.int .u8 t198)) (fun _ hk => hk.2) (.int .u8 t199)) (fun _ hk => hk.2) (.slice Ao38 t200.length co38)) (fun _ hk => hk.2) (.int .i64 t203)) (fun _ h_ => h_.1))))) (below_size (by repeat (first | (with_reducible first | exact HB.out | apply below_alloc | apply pw_below_drewN | apply below_drew1 | refine below_set ?_ GE177.out | refine below_set ?_ GE191.out | refine below_set ?_ GE205.out) | exact HB.out)))); have n7_ := Aside0.mk (blk_below (g := gb177) (o := .cells #[.int .i64 t167, .int .u8 t168, .int .u8 t169, .int .u8 t170, .int .u8 t171, .slice Ao21 t172.length co21, .int .i64 t175] 25 (0, 0)) (by (with_reducible repeat (first | refine blk_drewN ?_ _ | refine blk_drew ?_ | refine blk_alloc ?_ _)); refine blk_far ?_ NB177_205.out _; (with_reducible repeat (first | refine blk_drewN ?_ _ | refine blk_drew ?_ | refine blk_alloc ?_ _)); refine blk_far ?_ NB177_205.out _; (with_reducible repeat (first | refine blk_drewN ?_ _ | refine blk_drew ?_ | refine blk_alloc ?_ _)); refine blk_far ?_ NB177_205.out _; (with_reducible repeat (first | refine blk_drewN ?_ _ | refine blk_drew ?_ | refine blk_alloc ?_ _)); refine blk_far ?_ NB177_205.out _; (with_reducible repeat (first | refine blk_drewN ?_ _ | refine blk_drew ?_ | refine blk_alloc ?_ _)); refine blk_far ?_ NB177_205.out _; (with_reducible repeat (first | refine blk_drewN ?_ _ | refine blk_drew ?_ | refine blk_alloc ?_ _)); refine blk_far ?_ NB177_205.out _; (with_reducible repeat (first | refine blk_drewN ?_ _ | refine blk_drew ?_ | refine blk_alloc ?_ _)); refine blk_far ?_ NB177_205.out _; (with_reducible repeat (first | refine blk_drewN ?_ _ | refine blk_drew ?_ | refine blk_alloc ?_ _)); exact BK177.out) hb); have n8_ := Aside0.mk (blk_below (g := gb191) (o := .cells #[.int .i64 t181, .int .u8 t182, .int .u8 t183, .int .u8 t184, .int .u8 t185, .slice Ao29 t186.length co29, .int .i64 t189] 25 (0, 0)) (by (with_reducible repeat (first | refine blk_drewN ?_ _ | refine blk_drew ?_ | refine blk_alloc ?_ _)); refine blk_far ?_ NB191_205.out _; (with_reducible repeat (first | refine blk_drewN ?_ _ | refine blk_drew ?_ | refine blk_alloc ?_ _)); refine blk_far ?_ NB191_205.out _; (with_reducible repeat (first | refine blk_drewN ?_ _ | refine blk_drew ?_ | refine blk_alloc ?_ _)); refine blk_far ?_ NB191_205.out _; (with_reducible repeat (first | refine blk_drewN ?_ _ | refine blk_drew ?_ | refine blk_alloc ?_ _)); refine blk_far ?_ NB191_205.out _; (with_reducible repeat (first | refine blk_drewN ?_ _ | refine blk_drew ?_ | refine blk_alloc ?_ _)); refine blk_far ?_ NB191_205.out _; (with_reducible repeat (first | refine blk_drewN ?_ _ | refine blk_drew ?_ | refine blk_alloc ?_ _)); refine blk_far ?_ NB191_205.out _; (with_reducible repeat (first | refine blk_drewN ?_ _ | refine blk_drew ?_ | refine blk_alloc ?_ _)); refine blk_far ?_ NB191_205.out _; (with_reducible repeat (first | refine blk_drewN ?_ _ | refine blk_drew ?_ | refine blk_alloc ?_ _)); exact BK191.out) hb); have n9_ := Aside0.mk (blk_below (g := gb205) (o := .cells #[.int .i64 t195, .int .u8 t196, .int .u8 t197, .int .u8 t198, .int .u8 t199, .slice Ao38 t200.length co38, .int .i64 t203] 25 (0, 0)) (by (with_reducible repeat (first | refine blk_drewN ?_ _ | refine blk_drew ?_ | refine blk_alloc ?_ _)); refine blk_put (cs := #[.int .i64 t195, .int .u8 t196, .int .u8 t197, .int .u8 t198, .int .u8 t199, .slice Ao38 t200.length co38, .int .i64 0]) ?_ 6 _ rfl; (with_reducible repeat (first | refine blk_drewN ?_ _ | refine blk_drew ?_ | refine blk_alloc ?_ _)); refine blk_put (cs := #[.int .i64 t195, .int .u8 t196, .int .u8 t197, .int .u8 t198, .int .u8 t199, .slice none 0 0, .int .i64 0]) ?_ 5 _ rfl; (with_reducible repeat (first | refine blk_drewN ?_ _ | refine blk_drew ?_ | refine blk_alloc ?_ _)); refine blk_put (cs := #[.int .i64 t195, .int .u8 t196, .int .u8 t197, .int .u8 t198, .int .u8 0, .slice none 0 0, .int .i64 0]) ?_ 4 _ rfl; (with_reducible repeat (first | refine blk_drewN ?_ _ | refine blk_drew ?_ | refine blk_alloc ?_ _)); refine blk_put (cs := #[.int .i64 t195, .int .u8 t196, .int .u8 t197, .int .u8 0, .int .u8 0, .slice none 0 0, .int .i64 0]) ?_ 3 _ rfl; (with_reducible repeat (first | refine blk_drewN ?_ _ | refine blk_drew ?_ | refine blk_alloc ?_ _)); refine blk_put (cs := #[.int .i64 t195, .int .u8 t196, .int .u8 0, .int .u8 0, .int .u8 0, .slice none 0 0, .int .i64 0]) ?_ 2 _ rfl; (with_reducible repeat (first | refine blk_drewN ?_ _ | refine blk_drew ?_ | refine blk_alloc ?_ _)); refine blk_put (cs := #[.int .i64 t195, .int .u8 0, .int .u8 0, .int .u8 0, .int .u8 0, .slice none 0 0, .int .i64 0]) ?_ 1 _ rfl; (with_reducible repeat (first | refine blk_drewN ?_ _ | refine blk_drew ?_ | refine blk_alloc ?_ _)); refine blk_put (cs := #[.int .i64 0, .int .u8 0, .int .u8 0, .int .u8 0, .int .u8 0, .slice none 0 0, .int .i64 0]) ?_ 0 _ rfl; (with_reducible repeat (first | refine blk_drewN ?_ _ | refine blk_drew ?_ | refine blk_alloc ?_ _)); exact BK205.out) hb); have n10_ := Aside0.mk (below_step (by repeat (first | (with_reducible first | exact HB.out | apply below_alloc | apply pw_below_drewN | apply below_drew1 | refine below_set ?_ GE177.out | refine below_set ?_ GE191.out | refine below_set ?_ GE205.out) | exact HB.out)) hb); clear HO166; clear HO174; clear HO180; clear HO188; clear HO194; clear HO202; clear BK177; clear BK191; clear BK205; clear HB; have HO166 := n0_; have HO174 := n1_; have HO180 := n2_; have HO188 := n3_; have HO194 := n4_; have HO202 := n5_; have HO208 := n6_; have BK177 := n7_; have BK191 := n8_; have BK205 := n9_; have HB := n10_; clear n0_ n1_ n2_ n3_ n4_ n5_ n6_ n7_ n8_ n9_ n10_; clear hb ho40; obtain ⟨Ao41, co41, eo41⟩ := Kr.R_slice HO208.out; subst eo41) | ((with_reducible refine gate_callee (f := 16) rfl ?_); refine goesL_ (some 26) rfl rfl Try.func16 (by kernel_rfl) rfl #[.slice Ao41 y206.length co41] rfl (by (try simp only [List.map_toArray, List.map_cons, List.map_nil]); first | done | rfl | (simp only [List.length_drop, List.length_take]; rfl)) ?_; (with_reducible refine (apdu_Read.calls k _ _ y206 t209 t210 t211 t212 t213 t214 t217 t218 _ ?side1 ?side2 A4.out).mono ?_); (case side1 => repeat (first | exact (Kr.R_reads' HO208.out).2.2 | (with_reducible refine Kd.C_alloc ?_ _) | (with_reducible refine Kd.C_drewN ?_ _) | (with_reducible refine Kd.C_drew ?_))); (case side2 => exact (Kr.R_reads' HO208.out).2.1); rintro e w42 ⟨v215, rfl, ho0, hb⟩; refine ⟨_, rfl, ?_⟩; have n0_ := Aside0.mk (Kr.R_elder' (by (with_reducible repeat (first | apply Kr.R_alloc | apply Kr.R_drewN | apply Kr.R_drew)); exact HO166.out) (Kr.R_base ho0) hb); have n1_ := Aside0.mk (Kr.R_elder' (by (with_reducible repeat (first | apply Kr.R_alloc | apply Kr.R_drewN | apply Kr.R_drew)); exact HO174.out) (Kr.R_base ho0) hb); have n2_ := Aside0.mk (Kr.R_elder' (by (with_reducible repeat (first | apply Kr.R_alloc | apply Kr.R_drewN | apply Kr.R_drew)); exact HO180.out) (Kr.R_base ho0) hb); have n3_ := Aside0.mk (Kr.R_elder' (by (with_reducible repeat (first | apply Kr.R_alloc | apply Kr.R_drewN | apply Kr.R_drew)); exact HO188.out) (Kr.R_base ho0) hb); have n4_ := Aside0.mk (Kr.R_elder' (by (with_reducible repeat (first | apply Kr.R_alloc | apply Kr.R_drewN | apply Kr.R_drew)); exact HO194.out) (Kr.R_base ho0) hb); have n5_ := Aside0.mk (Kr.R_elder' (by (with_reducible repeat (first | apply Kr.R_alloc | apply Kr.R_drewN | apply Kr.R_drew)); exact HO202.out) (Kr.R_base ho0) hb); have n6_ := Aside0.mk (Kr.R_elder' (by (with_reducible repeat (first | apply Kr.R_alloc | apply Kr.R_drewN | apply Kr.R_drew)); exact HO208.out) (Kr.R_base ho0) hb); have n7_ := Aside0.mk (Kr.R_lower (Kr.R_new' (Kr.R_new' (Kr.R_new' (Kr.R_new' (Kr.R_new' (Kr.R_new' (Kr.R_new' ho0 (Kr.R_lt (by (with_reducible repeat (first | apply Kr.R_alloc | apply Kr.R_drewN | apply Kr.R_drew)); exact HO166.out))) (Kr.R_lt (by (with_reducible repeat (first | apply Kr.R_alloc | apply Kr.R_drewN | apply Kr.R_drew)); exact HO174.out))) (Kr.R_lt (by (with_reducible repeat (first | apply Kr.R_alloc | apply Kr.R_drewN | apply Kr.R_drew)); exact HO180.out))) (Kr.R_lt (by (with_reducible repeat (first | apply Kr.R_alloc | apply Kr.R_drewN | apply Kr.R_drew)); exact HO188.out))) (Kr.R_lt (by (with_reducible repeat (first | apply Kr.R_alloc | apply Kr.R_drewN | apply Kr.R_drew)); exact HO194.out))) (Kr.R_lt (by (with_reducible repeat (first | apply Kr.R_alloc | apply Kr.R_drewN | apply Kr.R_drew)); exact HO202.out))) (Kr.R_lt (by (with_reducible repeat (first | apply Kr.R_alloc | apply Kr.R_drewN | apply Kr.R_drew)); exact HO208.out))) (below_size (by repeat (first | (with_reducible first | exact HB.out | apply below_alloc | apply pw_below_drewN | apply below_drew1 | refine below_set ?_ GE177.out | refine below_set ?_ GE191.out | refine below_set ?_ GE205.out) | exact HB.out)))); have n8_ := Aside0.mk (blk_below (g := gb177) (o := .cells #[.int .i64 t167, .int .u8 t168, .int .u8 t169, .int .u8 t170, .int .u8 t171, .slice Ao21 t172.length co21, .int .i64 t175] 25 (0, 0)) (by (with_reducible repeat (first | refine blk_drewN ?_ _ | refine blk_drew ?_ | refine blk_alloc ?_ _)); exact BK177.out) hb); have n9_ := Aside0.mk (blk_below (g := gb191) (o := .cells #[.int .i64 t181, .int .u8 t182, .int .u8 t183, .int .u8 t184, .int .u8 t185, .slice Ao29 t186.length co29, .int .i64 t189] 25 (0, 0)) (by (with_reducible repeat (first | refine blk_drewN ?_ _ | refine blk_drew ?_ | refine blk_alloc ?_ _)); exact BK191.out) hb); have n10_ := Aside0.mk (blk_below (g := gb205) (o := .cells #[.int .i64 t195, .int .u8 t196, .int .u8 t197, .int .u8 t198, .int .u8 t199, .slice Ao38 t200.length co38, .int .i64 t203] 25 (0, 0)) (by (with_reducible repeat (first | refine blk_drewN ?_ _ | refine blk_drew ?_ | refine blk_alloc ?_ _)); exact BK205.out) hb); have n11_ := Aside0.mk (below_step (by repeat (first | (with_reducible first | exact HB.out | apply below_alloc | apply pw_below_drewN | apply below_drew1 | refine below_set ?_ GE177.out | refine below_set ?_ GE191.out | refine below_set ?_ GE205.out) | exact HB.out)) hb); clear HO166; clear HO174; clear HO180; clear HO188; clear HO194; clear HO202; clear HO208; clear BK177; clear BK191; clear BK205; clear HB; have HO166 := n0_; have HO174 := n1_; have HO180 := n2_; have HO188 := n3_; have HO194 := n4_; have HO202 := n5_; have HO208 := n6_; have HO216 := n7_; have BK177 := n8_; have BK191 := n9_; have BK205 := n10_; have HB := n11_; clear n0_ n1_ n2_ n3_ n4_ n5_ n6_ n7_ n8_ n9_ n10_ n11_; (try clear hb); (try clear hb2); (try clear hk); (try clear hi); (try clear ho0)) | ((with_reducible refine gate_dst (N := 7) rfl ?_); (try (refine gate_guard (by rfl) ?_; dsimp only)); refine box_event ?hg (N := 7) ?hd (cs := #[.int .i64 0, .int .u8 0, .int .u8 0, .int .u8 0, .int .u8 0, .slice none 0 0, .int .i64 0]) (t := 25) ?hr ?_; (case hd => rfl); (case hg => rfl); (case hr => first | (go_simp; done) | (go_simp; rfl)); intro gb219 hg w43 hbox hb; have n0_ := Aside0.mk (Kr.R_below (by (with_reducible repeat (first | apply Kr.R_alloc | apply Kr.R_drewN | apply Kr.R_drew)); exact HO166.out) hb); have n1_ := Aside0.mk (Kr.R_below (by (with_reducible repeat (first | apply Kr.R_alloc | apply Kr.R_drewN | apply Kr.R_drew)); exact HO174.out) hb); have n2_ := Aside0.mk (Kr.R_below (by (with_reducible repeat (first | apply Kr.R_alloc | apply Kr.R_drewN | apply Kr.R_drew)); exact HO180.out) hb); have n3_ := Aside0.mk (Kr.R_below (by (with_reducible repeat (first | apply Kr.R_alloc | apply Kr.R_drewN | apply Kr.R_drew)); exact HO188.out) hb); have n4_ := Aside0.mk (Kr.R_below (by (with_reducible repeat (first | apply Kr.R_alloc | apply Kr.R_drewN | apply Kr.R_drew)); exact HO194.out) hb); have n5_ := Aside0.mk (Kr.R_below (by (with_reducible repeat (first | apply Kr.R_alloc | apply Kr.R_drewN | apply Kr.R_drew)); exact HO202.out) hb); have n6_ := Aside0.mk (Kr.R_below (by (with_reducible repeat (first | apply Kr.R_alloc | apply Kr.R_drewN | apply Kr.R_drew)); exact HO208.out) hb); have n7_ := Aside0.mk (Kr.R_below (by (with_reducible repeat (first | apply Kr.R_alloc | apply Kr.R_drewN | apply Kr.R_drew)); exact HO216.out) hb); have n8_ := Aside0.mk (blk_below (g := gb177) (o := .cells #[.int .i64 t167, .int .u8 t168, .int .u8 t169, .int .u8 t170, .int .u8 t171, .slice Ao21 t172.length co21, .int .i64 t175] 25 (0, 0)) (by (with_reducible repeat (first | refine blk_drewN ?_ _ | refine blk_drew ?_ | refine blk_alloc ?_ _)); exact BK177.out) hb); have n9_ := Aside0.mk (blk_below (g := gb191) (o := .cells #[.int .i64 t181, .int .u8 t182, .int .u8 t183, .int .u8 t184, .int .u8 t185, .slice Ao29 t186.length co29, .int .i64 t189] 25 (0, 0)) (by (with_reducible repeat (first | refine blk_drewN ?_ _ | refine blk_drew ?_ | refine blk_alloc ?_ _)); exact BK191.out) hb); have n10_ := Aside0.mk (blk_below (g := gb205) (o := .cells #[.int .i64 t195, .int .u8 t196, .int .u8 t197, .int .u8 t198, .int .u8 t199, .slice Ao38 t200.length co38, .int .i64 t203] 25 (0, 0)) (by (with_reducible repeat (first | refine blk_drewN ?_ _ | refine blk_drew ?_ | refine blk_alloc ?_ _)); exact BK205.out) hb); have n11_ := Aside0.mk (below_step (by repeat (first | (with_reducible first | exact HB.out | apply below_alloc | apply pw_below_drewN | apply below_drew1 | refine below_set ?_ GE177.out | refine below_set ?_ GE191.out | refine below_set ?_ GE205.out) | exact HB.out)) hb); have n12_ := Aside0.mk (hbox); have n13_ := Aside0.mk ((by rw [hg]; exact (below_size (by repeat (first | (with_reducible first | exact HB.out | apply below_alloc | apply pw_below_drewN | apply below_drew1 | refine below_set ?_ GE177.out | refine below_set ?_ GE191.out | refine below_set ?_ GE205.out) | exact HB.out))) : w.heap.size ≤ gb219)); have n14_ := Aside0.mk ((by rw [hg]; exact (below_size (by repeat (first | (with_reducible first | exact HB.out | apply below_alloc | apply pw_below_drewN | apply below_drew1 | refine below_set ?_ GE177.out | refine below_set ?_ GE191.out | refine below_set ?_ GE205.out) | exact HB.out))) : w.heap.size ≤ gb219)); have n15_ := Aside0.mk ((by rw [hg]; exact Nat.ne_of_lt (blk_lt (g := gb177) (o := .cells #[.int .i64 t167, .int .u8 t168, .int .u8 t169, .int .u8 t170, .int .u8 t171, .slice Ao21 t172.length co21, .int .i64 t175] 25 (0, 0)) (by (with_reducible repeat (first | refine blk_drewN ?_ _ | refine blk_drew ?_ | refine blk_alloc ?_ _)); exact BK177.out)) : gb177 ≠ gb219)); have n16_ := Aside0.mk ((by rw [hg]; exact Nat.ne_of_gt (blk_lt (g := gb177) (o := .cells #[.int .i64 t167, .int .u8 t168, .int .u8 t169, .int .u8 t170, .int .u8 t171, .slice Ao21 t172.length co21, .int .i64 t175] 25 (0, 0)) (by (with_reducible repeat (first | refine blk_drewN ?_ _ | refine blk_drew ?_ | refine blk_alloc ?_ _)); exact BK177.out)) : gb219 ≠ gb177)); have n17_ := Aside0.mk ((by rw [hg]; exact Nat.ne_of_lt (blk_lt (g := gb191) (o := .cells #[.int .i64 t181, .int .u8 t182, .int .u8 t183, .int .u8 t184, .int .u8 t185, .slice Ao29 t186.length co29, .int .i64 t189] 25 (0, 0)) (by (with_reducible repeat (first | refine blk_drewN ?_ _ | refine blk_drew ?_ | refine blk_alloc ?_ _)); exact BK191.out)) : gb191 ≠ gb219)); have n18_ := Aside0.mk ((by rw [hg]; exact Nat.ne_of_gt (blk_lt (g := gb191) (o := .cells #[.int .i64 t181, .int .u8 t182, .int .u8 t183, .int .u8 t184, .int .u8 t185, .slice Ao29 t186.length co29, .int .i64 t189] 25 (0, 0)) (by (with_reducible repeat (first | refine blk_drewN ?_ _ | refine blk_drew ?_ | refine blk_alloc ?_ _)); exact BK191.out)) : gb219 ≠ gb191)); have n19_ := Aside0.mk ((by rw [hg]; exact Nat.ne_of_lt (blk_lt (g := gb205) (o := .cells #[.int .i64 t195, .int .u8 t196, .int .u8 t197, .int .u8 t198, .int .u8 t199, .slice Ao38 t200.length co38, .int .i64 t203] 25 (0, 0)) (by (with_reducible repeat (first | refine blk_drewN ?_ _ | refine blk_drew ?_ | refine blk_alloc ?_ _)); exact BK205.out)) : gb205 ≠ gb219)); have n20_ := Aside0.mk ((by rw [hg]; exact Nat.ne_of_gt (blk_lt (g := gb205) (o := .cells #[.int .i64 t195, .int .u8 t196, .int .u8 t197, .int .u8 t198, .int .u8 t199, .slice Ao38 t200.length co38, .int .i64 t203] 25 (0, 0)) (by (with_reducible repeat (first | refine blk_drewN ?_ _ | refine blk_drew ?_ | refine blk_alloc ?_ _)); exact BK205.out)) : gb219 ≠ gb205)); clear HO166; clear HO174; clear HO180; clear HO188; clear HO194; clear HO202; clear HO208; clear HO216; clear BK177; clear BK191; clear BK205; clear HB; have HO166 := n0_; have HO174 := n1_; have HO180 := n2_; have HO188 := n3_; have HO194 := n4_; have HO202 := n5_; have HO208 := n6_; have HO216 := n7_; have BK177 := n8_; have BK191 := n9_; have BK205 := n10_; have HB := n11_; have BK219 := n12_; have GW219 := n13_; have GE219 := n14_; have NB177_219 := n15_; have NB219_177 := n16_; have NB191_219 := n17_; have NB219_191 := n18_; have NB205_219 := n19_; have NB219_205 := n20_; clear n0_ n1_ n2_ n3_ n4_ n5_ n6_ n7_ n8_ n9_ n10_ n11_ n12_ n13_ n14_ n15_ n16_ n17_ n18_ n19_ n20_; clear hb hbox hg; have hnb44 := NB219_177.out; have hnc44 := NB177_219.out; have hnb45 := NB219_191.out; have hnc45 := NB191_219.out; have hnb46 := NB219_205.out; have hnc46 := NB205_219.out; have hcz47_0 : w43.cell? ⟨gb219, 0, none⟩ = some (.int .i64 0) := (blk_cell BK219.out 0).trans rfl; have hcz47_1 : w43.cell? ⟨gb219, 1, none⟩ = some (.int .u8 0) := (blk_cell BK219.out 1).trans rfl; have hcz47_2 : w43.cell? ⟨gb219, 2, none⟩ = some (.int .u8 0) := (blk_cell BK219.out 2).trans rfl; have hcz47_3 : w43.cell? ⟨gb219, 3, none⟩ = some (.int .u8 0) := (blk_cell BK219.out 3).trans rfl; have hcz47_4 : w43.cell? ⟨gb219, 4, none⟩ = some (.int .u8 0) := (blk_cell BK219.out 4).trans rfl; have hcz47_5 : w43.cell? ⟨gb219, 5, none⟩ = some (.slice none 0 0) := (blk_cell BK219.out 5).trans rfl; have hcz47_6 : w43.cell? ⟨gb219, 6, none⟩ = some (.int .i64 0) := (blk_cell BK219.out 6).trans rfl; have hfz47_0 := blk_frozen BK219.out 0; have hfz47_1 := blk_frozen BK219.out 1; have hfz47_2 := blk_frozen BK219.out 2; have hfz47_3 := blk_frozen BK219.out 3; have hfz47_4 := blk_frozen BK219.out 4; have hfz47_5 := blk_frozen BK219.out 5; have hfz47_6 := blk_frozen BK219.out 6; obtain ⟨Ao48, co48, eo48⟩ := Kr.R_slice HO216.out; subst eo48; have hcz49_0 : w43.cell? ⟨gb177, 0, none⟩ = some (.int .i64 t167) := (blk_cell BK177.out 0).trans rfl; have hcz49_1 : w43.cell? ⟨gb177, 1, none⟩ = some (.int .u8 t168) := (blk_cell BK177.out 1).trans rfl; have hcz49_2 : w43.cell? ⟨gb177, 2, none⟩ = some (.int .u8 t169) := (blk_cell BK177.out 2).trans rfl; have hcz49_3 : w43.cell? ⟨gb177, 3, none⟩ = some (.int .u8 t170) := (blk_cell BK177.out 3).trans rfl; have hcz49_4 : w43.cell? ⟨gb177, 4, none⟩ = some (.int .u8 t171) := (blk_cell BK177.out 4).trans rfl; have hcz49_5 : w43.cell? ⟨gb177, 5, none⟩ = some (.slice Ao21 t172.length co21) := (blk_cell BK177.out 5).trans rfl; have hcz49_6 : w43.cell? ⟨gb177, 6, none⟩ = some (.int .i64 t175) := (blk_cell BK177.out 6).trans rfl; have hfz49_0 := blk_frozen BK177.out 0; have hfz49_1 := blk_frozen BK177.out 1; have hfz49_2 := blk_frozen BK177.out 2; have hfz49_3 := blk_frozen BK177.out 3; have hfz49_4 := blk_frozen BK177.out 4; have hfz49_5 := blk_frozen BK177.out 5; have hfz49_6 := blk_frozen BK177.out 6; have hcz50_0 : w43.cell? ⟨gb191, 0, none⟩ = some (.int .i64 t181) := (blk_cell BK191.out 0).trans rfl; have hcz50_1 : w43.cell? ⟨gb191, 1, none⟩ = some (.int .u8 t182) := (blk_cell BK191.out 1).trans rfl; have hcz50_2 : w43.cell? ⟨gb191, 2, none⟩ = some (.int .u8 t183) := (blk_cell BK191.out 2).trans rfl; have hcz50_3 : w43.cell? ⟨gb191, 3, none⟩ = some (.int .u8 t184) := (blk_cell BK191.out 3).trans rfl; have hcz50_4 : w43.cell? ⟨gb191, 4, none⟩ = some (.int .u8 t185) := (blk_cell BK191.out 4).trans rfl; have hcz50_5 : w43.cell? ⟨gb191, 5, none⟩ = some (.slice Ao29 t186.length co29) := (blk_cell BK191.out 5).trans rfl; have hcz50_6 : w43.cell? ⟨gb191, 6, none⟩ = some (.int .i64 t189) := (blk_cell BK191.out 6).trans rfl; have hfz50_0 := blk_frozen BK191.out 0; have hfz50_1 := blk_frozen BK191.out 1; have hfz50_2 := blk_frozen BK191.out 2; have hfz50_3 := blk_frozen BK191.out 3; have hfz50_4 := blk_frozen BK191.out 4; have hfz50_5 := blk_frozen BK191.out 5; have hfz50_6 := blk_frozen BK191.out 6) | ((with_reducible refine gate_dst (N := 71) rfl ?_); (try (refine gate_guard (by rfl) ?_; dsimp only)); refine Kr.R_lit (Kd.int .u8) _ 5 ?hg (N := 71) ?hd (xs := ([1, 2] : List Int)) (inner := [.int .u8 1, .int .u8 2]) (ok := fun _ => True) (okp := fun _ => True) ?hr ?hp (fun _ hk => hk) trivial (Below.refl _ _) (Nat.le_refl _) (by simp) ?_; (case hd => rfl); (case hg => rfl); (case hr => first | (go_simp; done) | (go_simp; rfl)); (case hp => exact (Reps.one (show Kd.M (Kd.int .u8) _ _ _ 1 [.int .u8 1] from rfl) (Reps.one (show Kd.M (Kd.int .u8) _ _ _ 2 [.int .u8 2] from rfl) (Reps.none _ _)))); intro v221 w51 ho52 hb hg_ hnew_; clear hg_ hnew_; (first | rw [← Ny220.out] at ho52 | (simp only [Int.reduceToNat] at ho52; rw [← Ny220.out] at ho52)); have n0_ := Aside0.mk (Kr.R_elder' (by (with_reducible repeat (first | apply Kr.R_alloc | apply Kr.R_drewN | apply Kr.R_drew)); exact (Kr.R_mono (Kr.R_far (p := ⟨gb219, 6, none⟩) (Kr.R_far (p := ⟨gb219, 5, none⟩) (Kr.R_far (p := ⟨gb219, 4, none⟩) (Kr.R_far (p := ⟨gb219, 3, none⟩) (Kr.R_far (p := ⟨gb219, 2, none⟩) (Kr.R_far (p := ⟨gb219, 1, none⟩) (Kr.R_far (p := ⟨gb219, 0, none⟩) (Kr.R_types HO166.out BK219.out (by decide)) (fun _ hk => hk.2) (.int .i64 t209)) (fun _ hk => hk.2) (.int .u8 t210)) (fun _ hk => hk.2) (.int .u8 t211)) (fun _ hk => hk.2) (.int .u8 t212)) (fun _ hk => hk.2) (.int .u8 t213)) (fun _ hk => hk.2) (.slice Ao48 t214.length co48)) (fun _ hk => hk.2) (.int .i64 t217)) (fun _ h_ => h_.1))) (Kr.R_base ho52) hb); have n1_ := Aside0.mk (Kr.R_elder' (by (with_reducible repeat (first | apply Kr.R_alloc | apply Kr.R_drewN | apply Kr.R_drew)); exact (Kr.R_mono (Kr.R_far (p := ⟨gb219, 6, none⟩) (Kr.R_far (p := ⟨gb219, 5, none⟩) (Kr.R_far (p := ⟨gb219, 4, none⟩) (Kr.R_far (p := ⟨gb219, 3, none⟩) (Kr.R_far (p := ⟨gb219, 2, none⟩) (Kr.R_far (p := ⟨gb219, 1, none⟩) (Kr.R_far (p := ⟨gb219, 0, none⟩) (Kr.R_types HO174.out BK219.out (by decide)) (fun _ hk => hk.2) (.int .i64 t209)) (fun _ hk => hk.2) (.int .u8 t210)) (fun _ hk => hk.2) (.int .u8 t211)) (fun _ hk => hk.2) (.int .u8 t212)) (fun _ hk => hk.2) (.int .u8 t213)) (fun _ hk => hk.2) (.slice Ao48 t214.length co48)) (fun _ hk => hk.2) (.int .i64 t217)) (fun _ h_ => h_.1))) (Kr.R_base ho52) hb); have n2_ := Aside0.mk (Kr.R_elder' (by (with_reducible repeat (first | apply Kr.R_alloc | apply Kr.R_drewN | apply Kr.R_drew)); exact (Kr.R_mono (Kr.R_far (p := ⟨gb219, 6, none⟩) (Kr.R_far (p := ⟨gb219, 5, none⟩) (Kr.R_far (p := ⟨gb219, 4, none⟩) (Kr.R_far (p := ⟨gb219, 3, none⟩) (Kr.R_far (p := ⟨gb219, 2, none⟩) (Kr.R_far (p := ⟨gb219, 1, none⟩) (Kr.R_far (p := ⟨gb219, 0, none⟩) (Kr.R_types HO180.out BK219.out (by decide)) (fun _ hk => hk.2) (.int .i64 t209)) (fun _ hk => hk.2) (.int .u8 t210)) (fun _ hk => hk.2) (.int .u8 t211)) (fun _ hk => hk.2) (.int .u8 t212)) (fun _ hk => hk.2) (.int .u8 t213)) (fun _ hk => hk.2) (.slice Ao48 t214.length co48)) (fun _ hk => hk.2) (.int .i64 t217)) (fun _ h_ => h_.1))) (Kr.R_base ho52) hb); have n3_ := Aside0.mk (Kr.R_elder' (by (with_reducible repeat (first | apply Kr.R_alloc | apply Kr.R_drewN | apply Kr.R_drew)); exact (Kr.R_mono (Kr.R_far (p := ⟨gb219, 6, none⟩) (Kr.R_far (p := ⟨gb219, 5, none⟩) (Kr.R_far (p := ⟨gb219, 4, none⟩) (Kr.R_far (p := ⟨gb219, 3, none⟩) (Kr.R_far (p := ⟨gb219, 2, none⟩) (Kr.R_far (p := ⟨gb219, 1, none⟩) (Kr.R_far (p := ⟨gb219, 0, none⟩) (Kr.R_types HO188.out BK219.out (by decide)) (fun _ hk => hk.2) (.int .i64 t209)) (fun _ hk => hk.2) (.int .u8 t210)) (fun _ hk => hk.2) (.int .u8 t211)) (fun _ hk => hk.2) (.int .u8 t212)) (fun _ hk => hk.2) (.int .u8 t213)) (fun _ hk => hk.2) (.slice Ao48 t214.length co48)) (fun _ hk => hk.2) (.int .i64 t217)) (fun _ h_ => h_.1))) (Kr.R_base ho52) hb); have n4_ := Aside0.mk (Kr.R_elder' (by (with_reducible repeat (first | apply Kr.R_alloc | apply Kr.R_drewN | apply Kr.R_drew)); exact (Kr.R_mono (Kr.R_far (p := ⟨gb219, 6, none⟩) (Kr.R_far (p := ⟨gb219, 5, none⟩) (Kr.R_far (p := ⟨gb219, 4, none⟩) (Kr.R_far (p := ⟨gb219, 3, none⟩) (Kr.R_far (p := ⟨gb219, 2, none⟩) (Kr.R_far (p := ⟨gb219, 1, none⟩) (Kr.R_far (p := ⟨gb219, 0, none⟩) (Kr.R_types HO194.out BK219.out (by decide)) (fun _ hk => hk.2) (.int .i64 t209)) (fun _ hk => hk.2) (.int .u8 t210)) (fun _ hk => hk.2) (.int .u8 t211)) (fun _ hk => hk.2) (.int .u8 t212)) (fun _ hk => hk.2) (.int .u8 t213)) (fun _ hk => hk.2) (.slice Ao48 t214.length co48)) (fun _ hk => hk.2) (.int .i64 t217)) (fun _ h_ => h_.1))) (Kr.R_base ho52) hb); have n5_ := Aside0.mk (Kr.R_elder' (by (with_reducible repeat (first | apply Kr.R_alloc | apply Kr.R_drewN | apply Kr.R_drew)); exact (Kr.R_mono (Kr.R_far (p := ⟨gb219, 6, none⟩) (Kr.R_far (p := ⟨gb219, 5, none⟩) (Kr.R_far (p := ⟨gb219, 4, none⟩) (Kr.R_far (p := ⟨gb219, 3, none⟩) (Kr.R_far (p := ⟨gb219, 2, none⟩) (Kr.R_far (p := ⟨gb219, 1, none⟩) (Kr.R_far (p := ⟨gb219, 0, none⟩) (Kr.R_types HO202.out BK219.out (by decide)) (fun _ hk => hk.2) (.int .i64 t209)) (fun _ hk => hk.2) (.int .u8 t210)) (fun _ hk => hk.2) (.int .u8 t211)) (fun _ hk => hk.2) (.int .u8 t212)) (fun _ hk => hk.2) (.int .u8 t213)) (fun _ hk => hk.2) (.slice Ao48 t214.length co48)) (fun _ hk => hk.2) (.int .i64 t217)) (fun _ h_ => h_.1))) (Kr.R_base ho52) hb); have n6_ := Aside0.mk (Kr.R_elder' (by (with_reducible repeat (first | apply Kr.R_alloc | apply Kr.R_drewN | apply Kr.R_drew)); exact (Kr.R_mono (Kr.R_far (p := ⟨gb219, 6, none⟩) (Kr.R_far (p := ⟨gb219, 5, none⟩) (Kr.R_far (p := ⟨gb219, 4, none⟩) (Kr.R_far (p := ⟨gb219, 3, none⟩) (Kr.R_far (p := ⟨gb219, 2, none⟩) (Kr.R_far (p := ⟨gb219, 1, none⟩) (Kr.R_far (p := ⟨gb219, 0, none⟩) (Kr.R_types HO208.out BK219.out (by decide)) (fun _ hk => hk.2) (.int .i64 t209)) (fun _ hk => hk.2) (.int .u8 t210)) (fun _ hk => hk.2) (.int .u8 t211)) (fun _ hk => hk.2) (.int .u8 t212)) (fun _ hk => hk.2) (.int .u8 t213)) (fun _ hk => hk.2) (.slice Ao48 t214.length co48)) (fun _ hk => hk.2) (.int .i64 t217)) (fun _ h_ => h_.1))) (Kr.R_base ho52) hb); have n7_ := Aside0.mk (Kr.R_elder' (by (with_reducible repeat (first | apply Kr.R_alloc | apply Kr.R_drewN | apply Kr.R_drew)); exact (Kr.R_mono (Kr.R_far (p := ⟨gb219, 6, none⟩) (Kr.R_far (p := ⟨gb219, 5, none⟩) (Kr.R_far (p := ⟨gb219, 4, none⟩) (Kr.R_far (p := ⟨gb219, 3, none⟩) (Kr.R_far (p := ⟨gb219, 2, none⟩) (Kr.R_far (p := ⟨gb219, 1, none⟩) (Kr.R_far (p := ⟨gb219, 0, none⟩) (Kr.R_types HO216.out BK219.out (by decide)) (fun _ hk => hk.2) (.int .i64 t209)) (fun _ hk => hk.2) (.int .u8 t210)) (fun _ hk => hk.2) (.int .u8 t211)) (fun _ hk => hk.2) (.int .u8 t212)) (fun _ hk => hk.2) (.int .u8 t213)) (fun _ hk => hk.2) (.slice Ao48 t214.length co48)) (fun _ hk => hk.2) (.int .i64 t217)) (fun _ h_ => h_.1))) (Kr.R_base ho52) hb); have n8_ := Aside0.mk (Kr.R_lower (Kr.R_new' (Kr.R_new' (Kr.R_new' (Kr.R_new' (Kr.R_new' (Kr.R_new' (Kr.R_new' (Kr.R_new' ho52 (Kr.R_lt (by (with_reducible repeat (first | apply Kr.R_alloc | apply Kr.R_drewN | apply Kr.R_drew)); exact (Kr.R_mono (Kr.R_far (p := ⟨gb219, 6, none⟩) (Kr.R_far (p := ⟨gb219, 5, none⟩) (Kr.R_far (p := ⟨gb219, 4, none⟩) (Kr.R_far (p := ⟨gb219, 3, none⟩) (Kr.R_far (p := ⟨gb219, 2, none⟩) (Kr.R_far (p := ⟨gb219, 1, none⟩) (Kr.R_far (p := ⟨gb219, 0, none⟩) (Kr.R_types HO166.out BK219.out (by decide)) (fun _ hk => hk.2) (.int .i64 t209)) (fun _ hk => hk.2) (.int .u8 t210)) (fun _ hk => hk.2) (.int .u8 t211)) (fun _ hk => hk.2) (.int .u8 t212)) (fun _ hk => hk.2) (.int .u8 t213)) (fun _ hk => hk.2) (.slice Ao48 t214.length co48)) (fun _ hk => hk.2) (.int .i64 t217)) (fun _ h_ => h_.1))))) (Kr.R_lt (by (with_reducible repeat (first | apply Kr.R_alloc | apply Kr.R_drewN | apply Kr.R_drew)); exact (Kr.R_mono (Kr.R_far (p := ⟨gb219, 6, none⟩) (Kr.R_far (p := ⟨gb219, 5, none⟩) (Kr.R_far (p := ⟨gb219, 4, none⟩) (Kr.R_far (p := ⟨gb219, 3, none⟩) (Kr.R_far (p := ⟨gb219, 2, none⟩) (Kr.R_far (p := ⟨gb219, 1, none⟩) (Kr.R_far (p := ⟨gb219, 0, none⟩) (Kr.R_types HO174.out BK219.out (by decide)) (fun _ hk => hk.2) (.int .i64 t209)) (fun _ hk => hk.2) (.int .u8 t210)) (fun _ hk => hk.2) (.int .u8 t211)) (fun _ hk => hk.2) (.int .u8 t212)) (fun _ hk => hk.2) (.int .u8 t213)) (fun _ hk => hk.2) (.slice Ao48 t214.length co48)) (fun _ hk => hk.2) (.int .i64 t217)) (fun _ h_ => h_.1))))) (Kr.R_lt (by (with_reducible repeat (first | apply Kr.R_alloc | apply Kr.R_drewN | apply Kr.R_drew)); exact (Kr.R_mono (Kr.R_far (p := ⟨gb219, 6, none⟩) (Kr.R_far (p := ⟨gb219, 5, none⟩) (Kr.R_far (p := ⟨gb219, 4, none⟩) (Kr.R_far (p := ⟨gb219, 3, none⟩) (Kr.R_far (p := ⟨gb219, 2, none⟩) (Kr.R_far (p := ⟨gb219, 1, none⟩) (Kr.R_far (p := ⟨gb219, 0, none⟩) (Kr.R_types HO180.out BK219.out (by decide)) (fun _ hk => hk.2) (.int .i64 t209)) (fun _ hk => hk.2) (.int .u8 t210)) (fun _ hk => hk.2) (.int .u8 t211)) (fun _ hk => hk.2) (.int .u8 t212)) (fun _ hk => hk.2) (.int .u8 t213)) (fun _ hk => hk.2) (.slice Ao48 t214.length co48)) (fun _ hk => hk.2) (.int .i64 t217)) (fun _ h_ => h_.1))))) (Kr.R_lt (by (with_reducible repeat (first | apply Kr.R_alloc | apply Kr.R_drewN | apply Kr.R_drew)); exact (Kr.R_mono (Kr.R_far (p := ⟨gb219, 6, none⟩) (Kr.R_far (p := ⟨gb219, 5, none⟩) (Kr.R_far (p := ⟨gb219, 4, none⟩) (Kr.R_far (p := ⟨gb219, 3, none⟩) (Kr.R_far (p := ⟨gb219, 2, none⟩) (Kr.R_far (p := ⟨gb219, 1, none⟩) (Kr.R_far (p := ⟨gb219, 0, none⟩) (Kr.R_types HO188.out BK219.out (by decide)) (fun _ hk => hk.2) (.int .i64 t209)) (fun _ hk => hk.2) (.int .u8 t210)) (fun _ hk => hk.2) (.int .u8 t211)) (fun _ hk => hk.2) (.int .u8 t212)) (fun _ hk => hk.2) (.int .u8 t213)) (fun _ hk => hk.2) (.slice Ao48 t214.length co48)) (fun _ hk => hk.2) (.int .i64 t217)) (fun _ h_ => h_.1))))) (Kr.R_lt (by (with_reducible repeat (first | apply Kr.R_alloc | apply Kr.R_drewN | apply Kr.R_drew)); exact (Kr.R_mono (Kr.R_far (p := ⟨gb219, 6, none⟩) (Kr.R_far (p := ⟨gb219, 5, none⟩) (Kr.R_far (p := ⟨gb219, 4, none⟩) (Kr.R_far (p := ⟨gb219, 3, none⟩) (Kr.R_far (p := ⟨gb219, 2, none⟩) (Kr.R_far (p := ⟨gb219, 1, none⟩) (Kr.R_far (p := ⟨gb219, 0, none⟩) (Kr.R_types HO194.out BK219.out (by decide)) (fun _ hk => hk.2) (.int .i64 t209)) (fun _ hk => hk.2) (.int .u8 t210)) (fun _ hk => hk.2) (.int .u8 t211)) (fun _ hk => hk.2) (.int .u8 t212)) (fun _ hk => hk.2) (.int .u8 t213)) (fun _ hk => hk.2) (.slice Ao48 t214.length co48)) (fun _ hk => hk.2) (.int .i64 t217)) (fun _ h_ => h_.1))))) (Kr.R_lt (by (with_reducible repeat (first | apply Kr.R_alloc | apply Kr.R_drewN | apply Kr.R_drew)); exact (Kr.R_mono (Kr.R_far (p := ⟨gb219, 6, none⟩) (Kr.R_far (p := ⟨gb219, 5, none⟩) (Kr.R_far (p := ⟨gb219, 4, none⟩) (Kr.R_far (p := ⟨gb219, 3, none⟩) (Kr.R_far (p := ⟨gb219, 2, none⟩) (Kr.R_far (p := ⟨gb219, 1, none⟩) (Kr.R_far (p := ⟨gb219, 0, none⟩) (Kr.R_types HO202.out BK219.out (by decide)) (fun _ hk => hk.2) (.int .i64 t209)) (fun _ hk => hk.2) (.int .u8 t210)) (fun _ hk => hk.2) (.int .u8 t211)) (fun _ hk => hk.2) (.int .u8 t212)) (fun _ hk => hk.2) (.int .u8 t213)) (fun _ hk => hk.2) (.slice Ao48 t214.length co48)) (fun _ hk => hk.2) (.int .i64 t217)) (fun _ h_ => h_.1))))) (Kr.R_lt (by (with_reducible repeat (first | apply Kr.R_alloc | apply Kr.R_drewN | apply Kr.R_drew)); exact (Kr.R_mono (Kr.R_far (p := ⟨gb219, 6, none⟩) (Kr.R_far (p := ⟨gb219, 5, none⟩) (Kr.R_far (p := ⟨gb219, 4, none⟩) (Kr.R_far (p := ⟨gb219, 3, none⟩) (Kr.R_far (p := ⟨gb219, 2, none⟩) (Kr.R_far (p := ⟨gb219, 1, none⟩) (Kr.R_far (p := ⟨gb219, 0, none⟩) (Kr.R_types HO208.out BK219.out (by decide)) (fun _ hk => hk.2) (.int .i64 t209)) (fun _ hk => hk.2) (.int .u8 t210)) (fun _ hk => hk.2) (.int .u8 t211)) (fun _ hk => hk.2) (.int .u8 t212)) (fun _ hk => hk.2) (.int .u8 t213)) (fun _ hk => hk.2) (.slice Ao48 t214.length co48)) (fun _ hk => hk.2) (.int .i64 t217)) (fun _ h_ => h_.1))))) (Kr.R_lt (by (with_reducible repeat (first | apply Kr.R_alloc | apply Kr.R_drewN | apply Kr.R_drew)); exact (Kr.R_mono (Kr.R_far (p := ⟨gb219, 6, none⟩) (Kr.R_far (p := ⟨gb219, 5, none⟩) (Kr.R_far (p := ⟨gb219, 4, none⟩) (Kr.R_far (p := ⟨gb219, 3, none⟩) (Kr.R_far (p := ⟨gb219, 2, none⟩) (Kr.R_far (p := ⟨gb219, 1, none⟩) (Kr.R_far (p := ⟨gb219, 0, none⟩) (Kr.R_types HO216.out BK219.out (by decide)) (fun _ hk => hk.2) (.int .i64 t209)) (fun _ hk => hk.2) (.int .u8 t210)) (fun _ hk => hk.2) (.int .u8 t211)) (fun _ hk => hk.2) (.int .u8 t212)) (fun _ hk => hk.2) (.int .u8 t213)) (fun _ hk => hk.2) (.slice Ao48 t214.length co48)) (fun _ hk => hk.2) (.int .i64 t217)) (fun _ h_ => h_.1))))) (below_size (by repeat (first | (with_reducible first | exact HB.out | apply below_alloc | apply pw_below_drewN | apply below_drew1 | refine below_set ?_ GE177.out | refine below_set ?_ GE191.out | refine below_set ?_ GE205.out | refine below_set ?_ GE219.out) | exact HB.out)))); have n9_ := Aside0.mk (blk_below (g := gb177) (o := .cells #[.int .i64 t167, .int .u8 t168, .int .u8 t169, .int .u8 t170, .int .u8 t171, .slice Ao21 t172.length co21, .int .i64 t175] 25 (0, 0)) (by (with_reducible repeat (first | refine blk_drewN ?_ _ | refine blk_drew ?_ | refine blk_alloc ?_ _)); refine blk_far ?_ NB177_219.out _; (with_reducible repeat (first | refine blk_drewN ?_ _ | refine blk_drew ?_ | refine blk_alloc ?_ _)); refine blk_far ?_ NB177_219.out _; (with_reducible repeat (first | refine blk_drewN ?_ _ | refine blk_drew ?_ | refine blk_alloc ?_ _)); refine blk_far ?_ NB177_219.out _; (with_reducible repeat (first | refine blk_drewN ?_ _ | refine blk_drew ?_ | refine blk_alloc ?_ _)); refine blk_far ?_ NB177_219.out _; (with_reducible repeat (first | refine blk_drewN ?_ _ | refine blk_drew ?_ | refine blk_alloc ?_ _)); refine blk_far ?_ NB177_219.out _; (with_reducible repeat (first | refine blk_drewN ?_ _ | refine blk_drew ?_ | refine blk_alloc ?_ _)); refine blk_far ?_ NB177_219.out _; (with_reducible repeat (first | refine blk_drewN ?_ _ | refine blk_drew ?_ | refine blk_alloc ?_ _)); refine blk_far ?_ NB177_219.out _; (with_reducible repeat (first | refine blk_drewN ?_ _ | refine blk_drew ?_ | refine blk_alloc ?_ _)); exact BK177.out) hb); have n10_ := Aside0.mk (blk_below (g := gb191) (o := .cells #[.int .i64 t181, .int .u8 t182, .int .u8 t183, .int .u8 t184, .int .u8 t185, .slice Ao29 t186.length co29, .int .i64 t189] 25 (0, 0)) (by (with_reducible repeat (first | refine blk_drewN ?_ _ | refine blk_drew ?_ | refine blk_alloc ?_ _)); refine blk_far ?_ NB191_219.out _; (with_reducible repeat (first | refine blk_drewN ?_ _ | refine blk_drew ?_ | refine blk_alloc ?_ _)); refine blk_far ?_ NB191_219.out _; (with_reducible repeat (first | refine blk_drewN ?_ _ | refine blk_drew ?_ | refine blk_alloc ?_ _)); refine blk_far ?_ NB191_219.out _; (with_reducible repeat (first | refine blk_drewN ?_ _ | refine blk_drew ?_ | refine blk_alloc ?_ _)); refine blk_far ?_ NB191_219.out _; (with_reducible repeat (first | refine blk_drewN ?_ _ | refine blk_drew ?_ | refine blk_alloc ?_ _)); refine blk_far ?_ NB191_219.out _; (with_reducible repeat (first | refine blk_drewN ?_ _ | refine blk_drew ?_ | refine blk_alloc ?_ _)); refine blk_far ?_ NB191_219.out _; (with_reducible repeat (first | refine blk_drewN ?_ _ | refine blk_drew ?_ | refine blk_alloc ?_ _)); refine blk_far ?_ NB191_219.out _; (with_reducible repeat (first | refine blk_drewN ?_ _ | refine blk_drew ?_ | refine blk_alloc ?_ _)); exact BK191.out) hb); have n11_ := Aside0.mk (blk_below (g := gb205) (o := .cells #[.int .i64 t195, .int .u8 t196, .int .u8 t197, .int .u8 t198, .int .u8 t199, .slice Ao38 t200.length co38, .int .i64 t203] 25 (0, 0)) (by (with_reducible repeat (first | refine blk_drewN ?_ _ | refine blk_drew ?_ | refine blk_alloc ?_ _)); refine blk_far ?_ NB205_219.out _; (with_reducible repeat (first | refine blk_drewN ?_ _ | refine blk_drew ?_ | refine blk_alloc ?_ _)); refine blk_far ?_ NB205_219.out _; (with_reducible repeat (first | refine blk_drewN ?_ _ | refine blk_drew ?_ | refine blk_alloc ?_ _)); refine blk_far ?_ NB205_219.out _; (with_reducible repeat (first | refine blk_drewN ?_ _ | refine blk_drew ?_ | refine blk_alloc ?_ _)); refine blk_far ?_ NB205_219.out _; (with_reducible repeat (first | refine blk_drewN ?_ _ | refine blk_drew ?_ | refine blk_alloc ?_ _)); refine blk_far ?_ NB205_219.out _; (with_reducible repeat (first | refine blk_drewN ?_ _ | refine blk_drew ?_ | refine blk_alloc ?_ _)); refine blk_far ?_ NB205_219.out _; (with_reducible repeat (first | refine blk_drewN ?_ _ | refine blk_drew ?_ | refine blk_alloc ?_ _)); refine blk_far ?_ NB205_219.out _; (with_reducible repeat (first | refine blk_drewN ?_ _ | refine blk_drew ?_ | refine blk_alloc ?_ _)); exact BK205.out) hb); have n12_ := Aside0.mk (blk_below (g := gb219) (o := .cells #[.int .i64 t209, .int .u8 t210, .int .u8 t211, .int .u8 t212, .int .u8 t213, .slice Ao48 t214.length co48, .int .i64 t217] 25 (0, 0)) (by (with_reducible repeat (first | refine blk_drewN ?_ _ | refine blk_drew ?_ | refine blk_alloc ?_ _)); refine blk_put (cs := #[.int .i64 t209, .int .u8 t210, .int .u8 t211, .int .u8 t212, .int .u8 t213, .slice Ao48 t214.length co48, .int .i64 0]) ?_ 6 _ rfl; (with_reducible repeat (first | refine blk_drewN ?_ _ | refine blk_drew ?_ | refine blk_alloc ?_ _)); refine blk_put (cs := #[.int .i64 t209, .int .u8 t210, .int .u8 t211, .int .u8 t212, .int .u8 t213, .slice none 0 0, .int .i64 0]) ?_ 5 _ rfl; (with_reducible repeat (first | refine blk_drewN ?_ _ | refine blk_drew ?_ | refine blk_alloc ?_ _)); refine blk_put (cs := #[.int .i64 t209, .int .u8 t210, .int .u8 t211, .int .u8 t212, .int .u8 0, .slice none 0 0, .int .i64 0]) ?_ 4 _ rfl; (with_reducible repeat (first | refine blk_drewN ?_ _ | refine blk_drew ?_ | refine blk_alloc ?_ _)); refine blk_put (cs := #[.int .i64 t209, .int .u8 t210, .int .u8 t211, .int .u8 0, .int .u8 0, .slice none 0 0, .int .i64 0]) ?_ 3 _ rfl; (with_reducible repeat (first | refine blk_drewN ?_ _ | refine blk_drew ?_ | refine blk_alloc ?_ _)); refine blk_put (cs := #[.int .i64 t209, .int .u8 t210, .int .u8 0, .int .u8 0, .int .u8 0, .slice none 0 0, .int .i64 0]) ?_ 2 _ rfl; (with_reducible repeat (first | refine blk_drewN ?_ _ | refine blk_drew ?_ | refine blk_alloc ?_ _)); refine blk_put (cs := #[.int .i64 t209, .int .u8 0, .int .u8 0, .int .u8 0, .int .u8 0, .slice none 0 0, .int .i64 0]) ?_ 1 _ rfl; (with_reducible repeat (first | refine blk_drewN ?_ _ | refine blk_drew ?_ | refine blk_alloc ?_ _)); refine blk_put (cs := #[.int .i64 0, .int .u8 0, .int .u8 0, .int .u8 0, .int .u8 0, .slice none 0 0, .int .i64 0]) ?_ 0 _ rfl; (with_reducible repeat (first | refine blk_drewN ?_ _ | refine blk_drew ?_ | refine blk_alloc ?_ _)); exact BK219.out) hb); have n13_ := Aside0.mk (below_step (by repeat (first | (with_reducible first | exact HB.out | apply below_alloc | apply pw_below_drewN | apply below_drew1 | refine below_set ?_ GE177.out | refine below_set ?_ GE191.out | refine below_set ?_ GE205.out | refine below_set ?_ GE219.out) | exact HB.out)) hb); clear HO166; clear HO174; clear HO180; clear HO188; clear HO194; clear HO202; clear HO208; clear HO216; clear BK177; clear BK191; clear BK205; clear BK219; clear HB; have HO166 := n0_; have HO174 := n1_; have HO180 := n2_; have HO188 := n3_; have HO194 := n4_; have HO202 := n5_; have HO208 := n6_; have HO216 := n7_; have HO222 := n8_; have BK177 := n9_; have BK191 := n10_; have BK205 := n11_; have BK219 := n12_; have HB := n13_; clear n0_ n1_ n2_ n3_ n4_ n5_ n6_ n7_ n8_ n9_ n10_ n11_ n12_ n13_; clear hb ho52; obtain ⟨Ao53, co53, eo53⟩ := Kr.R_slice HO222.out; subst eo53) | (go_at_call 10; (with_reducible refine (garderoberef00_Same.calls k _ _ t214 _ _ y220 t223 _ ?side1 ?side2 ?side3 ?side4 A14.out).mono ?_); (case side1 => repeat (first | exact (Kr.R_reads' HO216.out).2.2 | (with_reducible refine Kd.C_alloc ?_ _) | (with_reducible refine Kd.C_drewN ?_ _) | (with_reducible refine Kd.C_drew ?_))); (case side2 => exact (Kr.R_reads' HO216.out).2.1); (case side3 => repeat (first | exact (Kr.R_reads' HO222.out).2.2 | (with_reducible refine Kd.C_alloc ?_ _) | (with_reducible refine Kd.C_drewN ?_ _) | (with_reducible refine Kd.C_drew ?_))); (case side4 => exact (Kr.R_reads' HO222.out).2.1); rintro e w' ⟨rfl, ⟨nd, rfl⟩⟩))
                    go_ret
                    exact ⟨by first | rfl | (simp [errW_none, errW_some] <;> rfl) | (simp [*, errW_none, errW_some] <;> rfl), by repeat (first | (with_reducible first | exact HB.out | apply below_alloc | apply pw_below_drewN | apply below_drew1 | refine below_set ?_ GE177.out | refine below_set ?_ GE191.out | refine below_set ?_ GE205.out | refine below_set ?_ GE219.out) | exact HB.out)⟩
                  · rw [if_neg c13] at H
                    exact absurd H (by simp)
                · rw [if_neg c12] at H
                  exact absurd H (by simp)
              · rw [if_neg c11] at H
                exact absurd H (by simp)
            · rw [if_neg c10] at H
              exact absurd H (by simp)
          · rw [if_neg c9] at H
            exact absurd H (by simp)
        · rw [if_neg c8] at H
          exact absurd H (by simp)
      · rw [if_neg c7] at H
        exact absurd H (by simp)
    · rw [if_neg c6] at H
      exact absurd H (by simp)
  · rw [if_neg c5] at H
    exact absurd H (by simp)

/-! ### apdu_may: function 23 -/
mutual
def apdu_may.j0 : Nat → Bool → Int → Int → Int → Int → Int → List Int → Int → Option (Bool)
  | 0, _, _, _, _, _, _, _, _ => none
  | k + 1, x3, x225000, x225001, x225002, x225003, x225004, x225005, x225006 => if (x225005.length : Int) ≥ 1 then (apdu_may.j1 k x3 (decide ((x225005.length : Int) ≤ 255)) x225000 x225001 x225002 x225003 x225004 x225005 x225006) else (apdu_may.j1 k x3 false x225000 x225001 x225002 x225003 x225004 x225005 x225006)
def apdu_may.j1 : Nat → Bool → Bool → Int → Int → Int → Int → Int → List Int → Int → Option (Bool)
  | 0, _, _, _, _, _, _, _, _, _ => none
  | k + 1, x3, x4, x225000, x225001, x225002, x225003, x225004, x225005, x225006 => if x225000 = 1 then (if x225006 = 0 then (some ((x225005.length : Int) == 0)) else (some false)) else (if x225000 = 2 then (if x3 = true then (some ((x225005.length : Int) == 0)) else (some false)) else (if x225000 = 3 then (if x225006 = 0 then (some x4) else (some false)) else (if x225000 = 4 then (if x3 = true then (some x4) else (some false)) else (some false))))
end
def apdu_may.f (k : Nat) (a0_0 : Int) (a0_1 : Int) (a0_2 : Int) (a0_3 : Int) (a0_4 : Int) (l0_5 : List Int) (a0_6 : Int) : Option (Bool) := if a0_6 ≥ 1 then (apdu_may.j0 k (decide (a0_6 ≤ 256)) a0_0 a0_1 a0_2 a0_3 a0_4 l0_5 a0_6) else (apdu_may.j0 k false a0_0 a0_1 a0_2 a0_3 a0_4 l0_5 a0_6)
theorem apdu_may.mono_l : ∀ k, (∀ y0 y1 y2 y3 y4 y5 y6 y7, LeO (apdu_may.j0 k y0 y1 y2 y3 y4 y5 y6 y7) (apdu_may.j0 (k + 1) y0 y1 y2 y3 y4 y5 y6 y7)) ∧ (∀ y0 y1 y2 y3 y4 y5 y6 y7 y8, LeO (apdu_may.j1 k y0 y1 y2 y3 y4 y5 y6 y7 y8) (apdu_may.j1 (k + 1) y0 y1 y2 y3 y4 y5 y6 y7 y8))
  | 0 => ⟨fun _ _ _ _ _ _ _ _ r h => by simp [apdu_may.j0] at h, fun _ _ _ _ _ _ _ _ _ r h => by simp [apdu_may.j1] at h⟩
  | k + 1 => by
    obtain ⟨ih0, ih1⟩ := apdu_may.mono_l k
    refine ⟨?_, ?_⟩
    · intro y0 y1 y2 y3 y4 y5 y6 y7
      unfold apdu_may.j0
      repeat' first
      | (with_reducible exact ih0 _ _ _ _ _ _ _ _)
      | (with_reducible exact ih1 _ _ _ _ _ _ _ _ _)
      | (with_reducible exact LeO.refl _)
      | (with_reducible exact LeO.none _)
      | (with_reducible refine LeO.ite ?_ ?_)
      | (with_reducible refine LeO.bind ?_ (fun _ => ?_))
      | exact ih0 _ _ _ _ _ _ _ _
      | exact ih1 _ _ _ _ _ _ _ _ _
      | exact LeO.none _
      | refine LeO.ite ?_ ?_
      | refine LeO.bind ?_ (fun _ => ?_)
    · intro y0 y1 y2 y3 y4 y5 y6 y7 y8
      unfold apdu_may.j1
      repeat' first
      | (with_reducible exact ih0 _ _ _ _ _ _ _ _)
      | (with_reducible exact ih1 _ _ _ _ _ _ _ _ _)
      | (with_reducible exact LeO.refl _)
      | (with_reducible exact LeO.none _)
      | (with_reducible refine LeO.ite ?_ ?_)
      | (with_reducible refine LeO.bind ?_ (fun _ => ?_))
      | exact ih0 _ _ _ _ _ _ _ _
      | exact ih1 _ _ _ _ _ _ _ _ _
      | exact LeO.none _
      | refine LeO.ite ?_ ?_
      | refine LeO.bind ?_ (fun _ => ?_)
theorem apdu_may.mono : ∀ a0 a1 a2 a3 a4 a5 a6 k, LeO (apdu_may.f k a0 a1 a2 a3 a4 a5 a6) (apdu_may.f (k + 1) a0 a1 a2 a3 a4 a5 a6) := by
  intro a0 a1 a2 a3 a4 a5 a6 k
  obtain ⟨ih0, ih1⟩ := apdu_may.mono_l k
  unfold apdu_may.f
  repeat' first
      | (with_reducible exact ih0 _ _ _ _ _ _ _ _)
      | (with_reducible exact ih1 _ _ _ _ _ _ _ _ _)
      | (with_reducible exact LeO.refl _)
      | (with_reducible exact LeO.none _)
      | (with_reducible refine LeO.ite ?_ ?_)
      | (with_reducible refine LeO.bind ?_ (fun _ => ?_))
      | exact ih0 _ _ _ _ _ _ _ _
      | exact ih1 _ _ _ _ _ _ _ _ _
      | exact LeO.none _
      | refine LeO.ite ?_ ?_
      | refine LeO.bind ?_ (fun _ => ?_)
set_option maxHeartbeats 8000000 in
set_option maxRecDepth 100000 in
theorem apdu_may.calls (k : Nat) (a0_0 : Int) (a0_1 : Int) (a0_2 : Int) (a0_3 : Int) (a0_4 : Int) (A0_5 : Option Addr) (c0_5 : Nat) (l0_5 : List Int) (a0_6 : Int) (r : Bool) (w : World) (hr0_5 : Kd.C (Kd.int .u8) w A0_5 l0_5.length l0_5) (hc0_5 : l0_5.length ≤ c0_5) (h : apdu_may.f k a0_0 a0_1 a0_2 a0_3 a0_4 l0_5 a0_6 = some r) :
    Calls Try.prog 23 #[.agg #[.int .i64 a0_0, .int .u8 a0_1, .int .u8 a0_2, .int .u8 a0_3, .int .u8 a0_4, .slice A0_5 l0_5.length c0_5, .int .i64 a0_6]] w fun e w' => e = .returned (.bool r) ∧ Below w.heap.size w w' := by
  have hu25 := Try.underlying25
  have HR0_5 := Aside0.mk hr0_5
  have HC0_5 := Aside0.mk hc0_5
  clear hr0_5 hc0_5
  have HB := Aside0.mk (Below.refl w.heap.size w)
  have H : (if a0_6 ≥ 1 then (apdu_may.j0 k (decide (a0_6 ≤ 256)) a0_0 a0_1 a0_2 a0_3 a0_4 l0_5 a0_6) else (apdu_may.j0 k false a0_0 a0_1 a0_2 a0_3 a0_4 l0_5 a0_6)) = some r := h
  clear h
  have HC2 := Aside0.mk H
  clear H
  go_enter Try.func23, Try.ntmps23
  go_upto_region 1 with (first | ((with_reducible refine gate_dst (N := 1) rfl ?_); (try (refine gate_guard (by rfl) ?_; dsimp only)); refine box_event ?hg (N := 1) ?hd (cs := #[.int .i64 a0_0, .int .u8 a0_1, .int .u8 a0_2, .int .u8 a0_3, .int .u8 a0_4, .slice A0_5 l0_5.length c0_5, .int .i64 a0_6]) (t := 25) ?hr ?_; (case hd => rfl); (case hg => rfl); (case hr => first | (go_simp; done) | (go_simp; rfl)); intro gb224 hg w3 hbox hb; have n0_ := Aside0.mk (below_step (by repeat (first | (with_reducible first | exact HB.out | apply below_alloc | apply pw_below_drewN | apply below_drew1) | exact HB.out)) hb); have n1_ := Aside0.mk (hbox); have n2_ := Aside0.mk ((by rw [hg]; exact (below_size (by repeat (first | (with_reducible first | exact HB.out | apply below_alloc | apply pw_below_drewN | apply below_drew1) | exact HB.out))) : w.heap.size ≤ gb224)); have n3_ := Aside0.mk ((by rw [hg]; exact (below_size (by repeat (first | (with_reducible first | exact HB.out | apply below_alloc | apply pw_below_drewN | apply below_drew1) | exact HB.out))) : w.heap.size ≤ gb224)); clear HB; have HB := n0_; have BK224 := n1_; have GW224 := n2_; have GE224 := n3_; clear n0_ n1_ n2_ n3_; clear hb hbox hg))
  (try simp only [Act.put, List.setIfInBounds_toArray, List.set_cons_zero, List.set_cons_succ])
  go_cut [3] (fun v3 wc => ∃ (kq : Nat) (x3_1 : Bool), v3 = .bool x3_1 ∧ Aside0 (apdu_may.j0 kq x3_1 a0_0 a0_1 a0_2 a0_3 a0_4 l0_5 a0_6 = some r) ∧ Aside0 (kq ≤ k) ∧ Aside0 (wc.heap[gb224]? = some (.cells #[.int .i64 a0_0, .int .u8 a0_1, .int .u8 a0_2, .int .u8 a0_3, .int .u8 a0_4, (.slice A0_5 l0_5.length c0_5), .int .i64 a0_6] 25 (0, 0))) ∧ Aside0 (Below w.heap.size w wc))
  case first =>
    have H := HC2.out
    clear HC2
    by_cases c4 : a0_6 ≥ 1
    · rw [if_pos c4] at H
      have c4b0 : decide (1 ≤ a0_6) = true := decide_eq_true c4
      clear c4
      (first | rw [c4b0] | (simp only [i64_w, i32_w]; rw [c4b0]) | skip)
      have H' := Aside0.mk H
      clear H
      have hcz5_0 : w3.cell? ⟨gb224, 0, none⟩ = some (.int .i64 a0_0) := (blk_cell BK224.out 0).trans rfl
      have hcz5_1 : w3.cell? ⟨gb224, 1, none⟩ = some (.int .u8 a0_1) := (blk_cell BK224.out 1).trans rfl
      have hcz5_2 : w3.cell? ⟨gb224, 2, none⟩ = some (.int .u8 a0_2) := (blk_cell BK224.out 2).trans rfl
      have hcz5_3 : w3.cell? ⟨gb224, 3, none⟩ = some (.int .u8 a0_3) := (blk_cell BK224.out 3).trans rfl
      have hcz5_4 : w3.cell? ⟨gb224, 4, none⟩ = some (.int .u8 a0_4) := (blk_cell BK224.out 4).trans rfl
      have hcz5_5 : w3.cell? ⟨gb224, 5, none⟩ = some (.slice A0_5 l0_5.length c0_5) := (blk_cell BK224.out 5).trans rfl
      have hcz5_6 : w3.cell? ⟨gb224, 6, none⟩ = some (.int .i64 a0_6) := (blk_cell BK224.out 6).trans rfl
      have hfz5_0 := blk_frozen BK224.out 0
      have hfz5_1 := blk_frozen BK224.out 1
      have hfz5_2 := blk_frozen BK224.out 2
      have hfz5_3 := blk_frozen BK224.out 3
      have hfz5_4 := blk_frozen BK224.out 4
      have hfz5_5 := blk_frozen BK224.out 5
      have hfz5_6 := blk_frozen BK224.out 6
      go_wp2
      go_meet
      case rel => exact ⟨_, (decide (a0_6 ≤ 256)), (by first | rfl | (simp; done) | (simp [*]; done)), H', ⟨by first | omega | exact Nat.le_refl _⟩, ⟨by (with_reducible repeat (first | refine blk_drewN ?_ _ | refine blk_drew ?_ | refine blk_alloc ?_ _)); exact BK224.out⟩, ⟨by repeat (first | (with_reducible first | exact HB.out | apply below_alloc | apply pw_below_drewN | apply below_drew1 | refine below_set ?_ GE224.out) | exact HB.out)⟩⟩
    · rw [if_neg c4] at H
      have c4b0 : decide (1 ≤ a0_6) = false := decide_eq_false c4
      clear c4
      (first | rw [c4b0] | (simp only [i64_w, i32_w]; rw [c4b0]) | skip)
      have H' := Aside0.mk H
      clear H
      have hcz6_0 : w3.cell? ⟨gb224, 0, none⟩ = some (.int .i64 a0_0) := (blk_cell BK224.out 0).trans rfl
      have hcz6_1 : w3.cell? ⟨gb224, 1, none⟩ = some (.int .u8 a0_1) := (blk_cell BK224.out 1).trans rfl
      have hcz6_2 : w3.cell? ⟨gb224, 2, none⟩ = some (.int .u8 a0_2) := (blk_cell BK224.out 2).trans rfl
      have hcz6_3 : w3.cell? ⟨gb224, 3, none⟩ = some (.int .u8 a0_3) := (blk_cell BK224.out 3).trans rfl
      have hcz6_4 : w3.cell? ⟨gb224, 4, none⟩ = some (.int .u8 a0_4) := (blk_cell BK224.out 4).trans rfl
      have hcz6_5 : w3.cell? ⟨gb224, 5, none⟩ = some (.slice A0_5 l0_5.length c0_5) := (blk_cell BK224.out 5).trans rfl
      have hcz6_6 : w3.cell? ⟨gb224, 6, none⟩ = some (.int .i64 a0_6) := (blk_cell BK224.out 6).trans rfl
      have hfz6_0 := blk_frozen BK224.out 0
      have hfz6_1 := blk_frozen BK224.out 1
      have hfz6_2 := blk_frozen BK224.out 2
      have hfz6_3 := blk_frozen BK224.out 3
      have hfz6_4 := blk_frozen BK224.out 4
      have hfz6_5 := blk_frozen BK224.out 5
      have hfz6_6 := blk_frozen BK224.out 6
      go_wp2
      go_meet
      case rel => exact ⟨_, (false), (by first | rfl | (simp; done) | (simp [*]; done)), H', ⟨by first | omega | exact Nat.le_refl _⟩, ⟨by (with_reducible repeat (first | refine blk_drewN ?_ _ | refine blk_drew ?_ | refine blk_alloc ?_ _)); exact BK224.out⟩, ⟨by repeat (first | (with_reducible first | exact HB.out | apply below_alloc | apply pw_below_drewN | apply below_drew1 | refine below_set ?_ GE224.out) | exact HB.out)⟩⟩
  case rest =>
    clear HC2
    try clear c2
    try clear p2
    try clear c4
    try clear c4b0
    try clear hcz5_0
    try clear hcz5_1
    try clear hcz5_2
    try clear hcz5_3
    try clear hcz5_4
    try clear hcz5_5
    try clear hcz5_6
    try clear hcz6_0
    try clear hcz6_1
    try clear hcz6_2
    try clear hcz6_3
    try clear hcz6_4
    try clear hcz6_5
    try clear hcz6_6
    try clear hfz5_0
    try clear hfz5_1
    try clear hfz5_2
    try clear hfz5_3
    try clear hfz5_4
    try clear hfz5_5
    try clear hfz5_6
    try clear hfz6_0
    try clear hfz6_1
    try clear hfz6_2
    try clear hfz6_3
    try clear hfz6_4
    try clear hfz6_5
    try clear hfz6_6
    obtain ⟨kq, x3_1, rfl, HA, HJ1, BK224, HB⟩ := hcut
    cases kq with
    | zero => exact absurd HA.out (by simp [apdu_may.j0])
    | succ kj1 =>
      have H := HA.out
      clear HA
      simp only [apdu_may.j0] at H
      have HC7 := Aside0.mk H
      clear H
      go_upto_region 2 with (fail)
      go_cut [4] (fun v4 wc => ∃ (kq : Nat) (x4_6 : Bool), v4 = .bool x4_6 ∧ Aside0 (apdu_may.j1 kq x3_1 x4_6 a0_0 a0_1 a0_2 a0_3 a0_4 l0_5 a0_6 = some r) ∧ Aside0 (kq ≤ kj1) ∧ Aside0 (wc.heap[gb224]? = some (.cells #[.int .i64 a0_0, .int .u8 a0_1, .int .u8 a0_2, .int .u8 a0_3, .int .u8 a0_4, (.slice A0_5 l0_5.length c0_5), .int .i64 a0_6] 25 (0, 0))) ∧ Aside0 (Below w.heap.size w wc))
      case first =>
        have H := HC7.out
        clear HC7
        by_cases c8 : (l0_5.length : Int) ≥ 1
        · rw [if_pos c8] at H
          have c8b0 : decide (1 ≤ (l0_5.length : Int)) = true := decide_eq_true c8
          have c8b1 : decide (1 ≤ l0_5.length) = true := decide_eq_true (by omega)
          clear c8
          (first | rw [c8b0] | (simp only [i64_w, i32_w]; rw [c8b0]) | skip)
          have H' := Aside0.mk H
          clear H
          have hcz9_0 : wc.cell? ⟨gb224, 0, none⟩ = some (.int .i64 a0_0) := (blk_cell BK224.out 0).trans rfl
          have hcz9_1 : wc.cell? ⟨gb224, 1, none⟩ = some (.int .u8 a0_1) := (blk_cell BK224.out 1).trans rfl
          have hcz9_2 : wc.cell? ⟨gb224, 2, none⟩ = some (.int .u8 a0_2) := (blk_cell BK224.out 2).trans rfl
          have hcz9_3 : wc.cell? ⟨gb224, 3, none⟩ = some (.int .u8 a0_3) := (blk_cell BK224.out 3).trans rfl
          have hcz9_4 : wc.cell? ⟨gb224, 4, none⟩ = some (.int .u8 a0_4) := (blk_cell BK224.out 4).trans rfl
          have hcz9_5 : wc.cell? ⟨gb224, 5, none⟩ = some (.slice A0_5 l0_5.length c0_5) := (blk_cell BK224.out 5).trans rfl
          have hcz9_6 : wc.cell? ⟨gb224, 6, none⟩ = some (.int .i64 a0_6) := (blk_cell BK224.out 6).trans rfl
          have hfz9_0 := blk_frozen BK224.out 0
          have hfz9_1 := blk_frozen BK224.out 1
          have hfz9_2 := blk_frozen BK224.out 2
          have hfz9_3 := blk_frozen BK224.out 3
          have hfz9_4 := blk_frozen BK224.out 4
          have hfz9_5 := blk_frozen BK224.out 5
          have hfz9_6 := blk_frozen BK224.out 6
          go_wp2
          go_meet
          case rel => exact ⟨_, (decide ((l0_5.length : Int) ≤ 255)), (by first | rfl | (simp; done) | (simp [*]; done)), H', ⟨by have := HJ1.out; first | omega | exact Nat.le_refl _⟩, ⟨by (with_reducible repeat (first | refine blk_drewN ?_ _ | refine blk_drew ?_ | refine blk_alloc ?_ _)); exact BK224.out⟩, ⟨by repeat (first | (with_reducible first | exact HB.out | apply below_alloc | apply pw_below_drewN | apply below_drew1 | refine below_set ?_ GE224.out) | exact HB.out)⟩⟩
        · rw [if_neg c8] at H
          have c8b0 : decide (1 ≤ (l0_5.length : Int)) = false := decide_eq_false c8
          have c8b1 : decide (1 ≤ l0_5.length) = false := decide_eq_false (by omega)
          clear c8
          (first | rw [c8b0] | (simp only [i64_w, i32_w]; rw [c8b0]) | skip)
          have H' := Aside0.mk H
          clear H
          have hcz10_0 : wc.cell? ⟨gb224, 0, none⟩ = some (.int .i64 a0_0) := (blk_cell BK224.out 0).trans rfl
          have hcz10_1 : wc.cell? ⟨gb224, 1, none⟩ = some (.int .u8 a0_1) := (blk_cell BK224.out 1).trans rfl
          have hcz10_2 : wc.cell? ⟨gb224, 2, none⟩ = some (.int .u8 a0_2) := (blk_cell BK224.out 2).trans rfl
          have hcz10_3 : wc.cell? ⟨gb224, 3, none⟩ = some (.int .u8 a0_3) := (blk_cell BK224.out 3).trans rfl
          have hcz10_4 : wc.cell? ⟨gb224, 4, none⟩ = some (.int .u8 a0_4) := (blk_cell BK224.out 4).trans rfl
          have hcz10_5 : wc.cell? ⟨gb224, 5, none⟩ = some (.slice A0_5 l0_5.length c0_5) := (blk_cell BK224.out 5).trans rfl
          have hcz10_6 : wc.cell? ⟨gb224, 6, none⟩ = some (.int .i64 a0_6) := (blk_cell BK224.out 6).trans rfl
          have hfz10_0 := blk_frozen BK224.out 0
          have hfz10_1 := blk_frozen BK224.out 1
          have hfz10_2 := blk_frozen BK224.out 2
          have hfz10_3 := blk_frozen BK224.out 3
          have hfz10_4 := blk_frozen BK224.out 4
          have hfz10_5 := blk_frozen BK224.out 5
          have hfz10_6 := blk_frozen BK224.out 6
          go_wp2
          go_meet
          case rel => exact ⟨_, (false), (by first | rfl | (simp; done) | (simp [*]; done)), H', ⟨by have := HJ1.out; first | omega | exact Nat.le_refl _⟩, ⟨by (with_reducible repeat (first | refine blk_drewN ?_ _ | refine blk_drew ?_ | refine blk_alloc ?_ _)); exact BK224.out⟩, ⟨by repeat (first | (with_reducible first | exact HB.out | apply below_alloc | apply pw_below_drewN | apply below_drew1 | refine below_set ?_ GE224.out) | exact HB.out)⟩⟩
      case rest =>
        clear HC7
        try clear c2
        try clear p2
        try clear c4
        try clear c4b0
        try clear c8
        try clear c8b0
        try clear c8b1
        try clear hcz10_0
        try clear hcz10_1
        try clear hcz10_2
        try clear hcz10_3
        try clear hcz10_4
        try clear hcz10_5
        try clear hcz10_6
        try clear hcz5_0
        try clear hcz5_1
        try clear hcz5_2
        try clear hcz5_3
        try clear hcz5_4
        try clear hcz5_5
        try clear hcz5_6
        try clear hcz6_0
        try clear hcz6_1
        try clear hcz6_2
        try clear hcz6_3
        try clear hcz6_4
        try clear hcz6_5
        try clear hcz6_6
        try clear hcz9_0
        try clear hcz9_1
        try clear hcz9_2
        try clear hcz9_3
        try clear hcz9_4
        try clear hcz9_5
        try clear hcz9_6
        try clear hfz10_0
        try clear hfz10_1
        try clear hfz10_2
        try clear hfz10_3
        try clear hfz10_4
        try clear hfz10_5
        try clear hfz10_6
        try clear hfz5_0
        try clear hfz5_1
        try clear hfz5_2
        try clear hfz5_3
        try clear hfz5_4
        try clear hfz5_5
        try clear hfz5_6
        try clear hfz6_0
        try clear hfz6_1
        try clear hfz6_2
        try clear hfz6_3
        try clear hfz6_4
        try clear hfz6_5
        try clear hfz6_6
        try clear hfz9_0
        try clear hfz9_1
        try clear hfz9_2
        try clear hfz9_3
        try clear hfz9_4
        try clear hfz9_5
        try clear hfz9_6
        try clear p2
        obtain ⟨kq, x4_6, rfl, HA, HJ6, BK224, HB⟩ := hcut
        cases kq with
        | zero => exact absurd HA.out (by simp [apdu_may.j1])
        | succ kj6 =>
          have H := HA.out
          clear HA
          simp only [apdu_may.j1] at H
          by_cases c11 : a0_0 = 1
          · rw [if_pos c11] at H
            have c11b0 : (a0_0 == 1) = true := beq_iff_eq.mpr c11
            have c11b1 : (a0_0 != 1) = false := bne_eq_false_iff_eq.mpr c11
            clear c11
            by_cases c12 : a0_6 = 0
            · rw [if_pos c12] at H
              have c12b0 : (a0_6 == 0) = true := beq_iff_eq.mpr c12
              have c12b1 : (a0_6 != 0) = false := bne_eq_false_iff_eq.mpr c12
              clear c12
              obtain rfl := Option.some.inj H
              have hcz13_0 : wc.cell? ⟨gb224, 0, none⟩ = some (.int .i64 a0_0) := (blk_cell BK224.out 0).trans rfl
              have hcz13_1 : wc.cell? ⟨gb224, 1, none⟩ = some (.int .u8 a0_1) := (blk_cell BK224.out 1).trans rfl
              have hcz13_2 : wc.cell? ⟨gb224, 2, none⟩ = some (.int .u8 a0_2) := (blk_cell BK224.out 2).trans rfl
              have hcz13_3 : wc.cell? ⟨gb224, 3, none⟩ = some (.int .u8 a0_3) := (blk_cell BK224.out 3).trans rfl
              have hcz13_4 : wc.cell? ⟨gb224, 4, none⟩ = some (.int .u8 a0_4) := (blk_cell BK224.out 4).trans rfl
              have hcz13_5 : wc.cell? ⟨gb224, 5, none⟩ = some (.slice A0_5 l0_5.length c0_5) := (blk_cell BK224.out 5).trans rfl
              have hcz13_6 : wc.cell? ⟨gb224, 6, none⟩ = some (.int .i64 a0_6) := (blk_cell BK224.out 6).trans rfl
              have hfz13_0 := blk_frozen BK224.out 0
              have hfz13_1 := blk_frozen BK224.out 1
              have hfz13_2 := blk_frozen BK224.out 2
              have hfz13_3 := blk_frozen BK224.out 3
              have hfz13_4 := blk_frozen BK224.out 4
              have hfz13_5 := blk_frozen BK224.out 5
              have hfz13_6 := blk_frozen BK224.out 6
              go_wp2
              go_ret
              exact ⟨by first | rfl | (simp [errW_none, errW_some] <;> rfl) | (simp [*, errW_none, errW_some] <;> rfl), by repeat (first | (with_reducible first | exact HB.out | apply below_alloc | apply pw_below_drewN | apply below_drew1 | refine below_set ?_ GE224.out) | exact HB.out)⟩
            · rw [if_neg c12] at H
              have c12b0 : (a0_6 == 0) = false := beq_eq_false_iff_ne.mpr c12
              have c12b1 : (a0_6 != 0) = true := bne_iff_ne.mpr c12
              obtain rfl := Option.some.inj H
              have hcz14_0 : wc.cell? ⟨gb224, 0, none⟩ = some (.int .i64 a0_0) := (blk_cell BK224.out 0).trans rfl
              have hcz14_1 : wc.cell? ⟨gb224, 1, none⟩ = some (.int .u8 a0_1) := (blk_cell BK224.out 1).trans rfl
              have hcz14_2 : wc.cell? ⟨gb224, 2, none⟩ = some (.int .u8 a0_2) := (blk_cell BK224.out 2).trans rfl
              have hcz14_3 : wc.cell? ⟨gb224, 3, none⟩ = some (.int .u8 a0_3) := (blk_cell BK224.out 3).trans rfl
              have hcz14_4 : wc.cell? ⟨gb224, 4, none⟩ = some (.int .u8 a0_4) := (blk_cell BK224.out 4).trans rfl
              have hcz14_5 : wc.cell? ⟨gb224, 5, none⟩ = some (.slice A0_5 l0_5.length c0_5) := (blk_cell BK224.out 5).trans rfl
              have hcz14_6 : wc.cell? ⟨gb224, 6, none⟩ = some (.int .i64 a0_6) := (blk_cell BK224.out 6).trans rfl
              have hfz14_0 := blk_frozen BK224.out 0
              have hfz14_1 := blk_frozen BK224.out 1
              have hfz14_2 := blk_frozen BK224.out 2
              have hfz14_3 := blk_frozen BK224.out 3
              have hfz14_4 := blk_frozen BK224.out 4
              have hfz14_5 := blk_frozen BK224.out 5
              have hfz14_6 := blk_frozen BK224.out 6
              go_wp2
              go_ret
              exact ⟨by first | rfl | (simp [errW_none, errW_some] <;> rfl) | (simp [*, errW_none, errW_some] <;> rfl), by repeat (first | (with_reducible first | exact HB.out | apply below_alloc | apply pw_below_drewN | apply below_drew1 | refine below_set ?_ GE224.out) | exact HB.out)⟩
          · rw [if_neg c11] at H
            have c11b0 : (a0_0 == 1) = false := beq_eq_false_iff_ne.mpr c11
            have c11b1 : (a0_0 != 1) = true := bne_iff_ne.mpr c11
            by_cases c15 : a0_0 = 2
            · rw [if_pos c15] at H
              have c15b0 : (a0_0 == 2) = true := beq_iff_eq.mpr c15
              have c15b1 : (a0_0 != 2) = false := bne_eq_false_iff_eq.mpr c15
              clear c15
              by_cases c16 : x3_1 = true
              · subst c16
                have H1 : (some ((l0_5.length : Int) == 0)) = some r := by rw [if_pos rfl] at H; exact H
                clear H
                have H := H1
                clear H1
                obtain rfl := Option.some.inj H
                have hcz17_0 : wc.cell? ⟨gb224, 0, none⟩ = some (.int .i64 a0_0) := (blk_cell BK224.out 0).trans rfl
                have hcz17_1 : wc.cell? ⟨gb224, 1, none⟩ = some (.int .u8 a0_1) := (blk_cell BK224.out 1).trans rfl
                have hcz17_2 : wc.cell? ⟨gb224, 2, none⟩ = some (.int .u8 a0_2) := (blk_cell BK224.out 2).trans rfl
                have hcz17_3 : wc.cell? ⟨gb224, 3, none⟩ = some (.int .u8 a0_3) := (blk_cell BK224.out 3).trans rfl
                have hcz17_4 : wc.cell? ⟨gb224, 4, none⟩ = some (.int .u8 a0_4) := (blk_cell BK224.out 4).trans rfl
                have hcz17_5 : wc.cell? ⟨gb224, 5, none⟩ = some (.slice A0_5 l0_5.length c0_5) := (blk_cell BK224.out 5).trans rfl
                have hcz17_6 : wc.cell? ⟨gb224, 6, none⟩ = some (.int .i64 a0_6) := (blk_cell BK224.out 6).trans rfl
                have hfz17_0 := blk_frozen BK224.out 0
                have hfz17_1 := blk_frozen BK224.out 1
                have hfz17_2 := blk_frozen BK224.out 2
                have hfz17_3 := blk_frozen BK224.out 3
                have hfz17_4 := blk_frozen BK224.out 4
                have hfz17_5 := blk_frozen BK224.out 5
                have hfz17_6 := blk_frozen BK224.out 6
                go_wp2
                go_ret
                exact ⟨by first | rfl | (simp [errW_none, errW_some] <;> rfl) | (simp [*, errW_none, errW_some] <;> rfl), by repeat (first | (with_reducible first | exact HB.out | apply below_alloc | apply pw_below_drewN | apply below_drew1 | refine below_set ?_ GE224.out) | exact HB.out)⟩
              · replace c16 := Bool.eq_false_iff.mpr c16
                subst c16
                have H1 : (some false) = some r := by rw [if_neg (show ¬ (false = true) by decide)] at H; exact H
                clear H
                have H := H1
                clear H1
                obtain rfl := Option.some.inj H
                have hcz18_0 : wc.cell? ⟨gb224, 0, none⟩ = some (.int .i64 a0_0) := (blk_cell BK224.out 0).trans rfl
                have hcz18_1 : wc.cell? ⟨gb224, 1, none⟩ = some (.int .u8 a0_1) := (blk_cell BK224.out 1).trans rfl
                have hcz18_2 : wc.cell? ⟨gb224, 2, none⟩ = some (.int .u8 a0_2) := (blk_cell BK224.out 2).trans rfl
                have hcz18_3 : wc.cell? ⟨gb224, 3, none⟩ = some (.int .u8 a0_3) := (blk_cell BK224.out 3).trans rfl
                have hcz18_4 : wc.cell? ⟨gb224, 4, none⟩ = some (.int .u8 a0_4) := (blk_cell BK224.out 4).trans rfl
                have hcz18_5 : wc.cell? ⟨gb224, 5, none⟩ = some (.slice A0_5 l0_5.length c0_5) := (blk_cell BK224.out 5).trans rfl
                have hcz18_6 : wc.cell? ⟨gb224, 6, none⟩ = some (.int .i64 a0_6) := (blk_cell BK224.out 6).trans rfl
                have hfz18_0 := blk_frozen BK224.out 0
                have hfz18_1 := blk_frozen BK224.out 1
                have hfz18_2 := blk_frozen BK224.out 2
                have hfz18_3 := blk_frozen BK224.out 3
                have hfz18_4 := blk_frozen BK224.out 4
                have hfz18_5 := blk_frozen BK224.out 5
                have hfz18_6 := blk_frozen BK224.out 6
                go_wp2
                go_ret
                exact ⟨by first | rfl | (simp [errW_none, errW_some] <;> rfl) | (simp [*, errW_none, errW_some] <;> rfl), by repeat (first | (with_reducible first | exact HB.out | apply below_alloc | apply pw_below_drewN | apply below_drew1 | refine below_set ?_ GE224.out) | exact HB.out)⟩
            · rw [if_neg c15] at H
              have c15b0 : (a0_0 == 2) = false := beq_eq_false_iff_ne.mpr c15
              have c15b1 : (a0_0 != 2) = true := bne_iff_ne.mpr c15
              by_cases c19 : a0_0 = 3
              · rw [if_pos c19] at H
                have c19b0 : (a0_0 == 3) = true := beq_iff_eq.mpr c19
                have c19b1 : (a0_0 != 3) = false := bne_eq_false_iff_eq.mpr c19
                clear c19
                by_cases c20 : a0_6 = 0
                · rw [if_pos c20] at H
                  have c20b0 : (a0_6 == 0) = true := beq_iff_eq.mpr c20
                  have c20b1 : (a0_6 != 0) = false := bne_eq_false_iff_eq.mpr c20
                  clear c20
                  obtain rfl := Option.some.inj H
                  have hcz21_0 : wc.cell? ⟨gb224, 0, none⟩ = some (.int .i64 a0_0) := (blk_cell BK224.out 0).trans rfl
                  have hcz21_1 : wc.cell? ⟨gb224, 1, none⟩ = some (.int .u8 a0_1) := (blk_cell BK224.out 1).trans rfl
                  have hcz21_2 : wc.cell? ⟨gb224, 2, none⟩ = some (.int .u8 a0_2) := (blk_cell BK224.out 2).trans rfl
                  have hcz21_3 : wc.cell? ⟨gb224, 3, none⟩ = some (.int .u8 a0_3) := (blk_cell BK224.out 3).trans rfl
                  have hcz21_4 : wc.cell? ⟨gb224, 4, none⟩ = some (.int .u8 a0_4) := (blk_cell BK224.out 4).trans rfl
                  have hcz21_5 : wc.cell? ⟨gb224, 5, none⟩ = some (.slice A0_5 l0_5.length c0_5) := (blk_cell BK224.out 5).trans rfl
                  have hcz21_6 : wc.cell? ⟨gb224, 6, none⟩ = some (.int .i64 a0_6) := (blk_cell BK224.out 6).trans rfl
                  have hfz21_0 := blk_frozen BK224.out 0
                  have hfz21_1 := blk_frozen BK224.out 1
                  have hfz21_2 := blk_frozen BK224.out 2
                  have hfz21_3 := blk_frozen BK224.out 3
                  have hfz21_4 := blk_frozen BK224.out 4
                  have hfz21_5 := blk_frozen BK224.out 5
                  have hfz21_6 := blk_frozen BK224.out 6
                  go_wp2
                  go_ret
                  exact ⟨by first | rfl | (simp [errW_none, errW_some] <;> rfl) | (simp [*, errW_none, errW_some] <;> rfl), by repeat (first | (with_reducible first | exact HB.out | apply below_alloc | apply pw_below_drewN | apply below_drew1 | refine below_set ?_ GE224.out) | exact HB.out)⟩
                · rw [if_neg c20] at H
                  have c20b0 : (a0_6 == 0) = false := beq_eq_false_iff_ne.mpr c20
                  have c20b1 : (a0_6 != 0) = true := bne_iff_ne.mpr c20
                  obtain rfl := Option.some.inj H
                  have hcz22_0 : wc.cell? ⟨gb224, 0, none⟩ = some (.int .i64 a0_0) := (blk_cell BK224.out 0).trans rfl
                  have hcz22_1 : wc.cell? ⟨gb224, 1, none⟩ = some (.int .u8 a0_1) := (blk_cell BK224.out 1).trans rfl
                  have hcz22_2 : wc.cell? ⟨gb224, 2, none⟩ = some (.int .u8 a0_2) := (blk_cell BK224.out 2).trans rfl
                  have hcz22_3 : wc.cell? ⟨gb224, 3, none⟩ = some (.int .u8 a0_3) := (blk_cell BK224.out 3).trans rfl
                  have hcz22_4 : wc.cell? ⟨gb224, 4, none⟩ = some (.int .u8 a0_4) := (blk_cell BK224.out 4).trans rfl
                  have hcz22_5 : wc.cell? ⟨gb224, 5, none⟩ = some (.slice A0_5 l0_5.length c0_5) := (blk_cell BK224.out 5).trans rfl
                  have hcz22_6 : wc.cell? ⟨gb224, 6, none⟩ = some (.int .i64 a0_6) := (blk_cell BK224.out 6).trans rfl
                  have hfz22_0 := blk_frozen BK224.out 0
                  have hfz22_1 := blk_frozen BK224.out 1
                  have hfz22_2 := blk_frozen BK224.out 2
                  have hfz22_3 := blk_frozen BK224.out 3
                  have hfz22_4 := blk_frozen BK224.out 4
                  have hfz22_5 := blk_frozen BK224.out 5
                  have hfz22_6 := blk_frozen BK224.out 6
                  go_wp2
                  go_ret
                  exact ⟨by first | rfl | (simp [errW_none, errW_some] <;> rfl) | (simp [*, errW_none, errW_some] <;> rfl), by repeat (first | (with_reducible first | exact HB.out | apply below_alloc | apply pw_below_drewN | apply below_drew1 | refine below_set ?_ GE224.out) | exact HB.out)⟩
              · rw [if_neg c19] at H
                have c19b0 : (a0_0 == 3) = false := beq_eq_false_iff_ne.mpr c19
                have c19b1 : (a0_0 != 3) = true := bne_iff_ne.mpr c19
                by_cases c23 : a0_0 = 4
                · rw [if_pos c23] at H
                  have c23b0 : (a0_0 == 4) = true := beq_iff_eq.mpr c23
                  have c23b1 : (a0_0 != 4) = false := bne_eq_false_iff_eq.mpr c23
                  clear c23
                  by_cases c24 : x3_1 = true
                  · subst c24
                    have H1 : (some x4_6) = some r := by rw [if_pos rfl] at H; exact H
                    clear H
                    have H := H1
                    clear H1
                    obtain rfl := Option.some.inj H
                    have hcz25_0 : wc.cell? ⟨gb224, 0, none⟩ = some (.int .i64 a0_0) := (blk_cell BK224.out 0).trans rfl
                    have hcz25_1 : wc.cell? ⟨gb224, 1, none⟩ = some (.int .u8 a0_1) := (blk_cell BK224.out 1).trans rfl
                    have hcz25_2 : wc.cell? ⟨gb224, 2, none⟩ = some (.int .u8 a0_2) := (blk_cell BK224.out 2).trans rfl
                    have hcz25_3 : wc.cell? ⟨gb224, 3, none⟩ = some (.int .u8 a0_3) := (blk_cell BK224.out 3).trans rfl
                    have hcz25_4 : wc.cell? ⟨gb224, 4, none⟩ = some (.int .u8 a0_4) := (blk_cell BK224.out 4).trans rfl
                    have hcz25_5 : wc.cell? ⟨gb224, 5, none⟩ = some (.slice A0_5 l0_5.length c0_5) := (blk_cell BK224.out 5).trans rfl
                    have hcz25_6 : wc.cell? ⟨gb224, 6, none⟩ = some (.int .i64 a0_6) := (blk_cell BK224.out 6).trans rfl
                    have hfz25_0 := blk_frozen BK224.out 0
                    have hfz25_1 := blk_frozen BK224.out 1
                    have hfz25_2 := blk_frozen BK224.out 2
                    have hfz25_3 := blk_frozen BK224.out 3
                    have hfz25_4 := blk_frozen BK224.out 4
                    have hfz25_5 := blk_frozen BK224.out 5
                    have hfz25_6 := blk_frozen BK224.out 6
                    go_wp2
                    go_ret
                    exact ⟨by first | rfl | (simp [errW_none, errW_some] <;> rfl) | (simp [*, errW_none, errW_some] <;> rfl), by repeat (first | (with_reducible first | exact HB.out | apply below_alloc | apply pw_below_drewN | apply below_drew1 | refine below_set ?_ GE224.out) | exact HB.out)⟩
                  · replace c24 := Bool.eq_false_iff.mpr c24
                    subst c24
                    have H1 : (some false) = some r := by rw [if_neg (show ¬ (false = true) by decide)] at H; exact H
                    clear H
                    have H := H1
                    clear H1
                    obtain rfl := Option.some.inj H
                    have hcz26_0 : wc.cell? ⟨gb224, 0, none⟩ = some (.int .i64 a0_0) := (blk_cell BK224.out 0).trans rfl
                    have hcz26_1 : wc.cell? ⟨gb224, 1, none⟩ = some (.int .u8 a0_1) := (blk_cell BK224.out 1).trans rfl
                    have hcz26_2 : wc.cell? ⟨gb224, 2, none⟩ = some (.int .u8 a0_2) := (blk_cell BK224.out 2).trans rfl
                    have hcz26_3 : wc.cell? ⟨gb224, 3, none⟩ = some (.int .u8 a0_3) := (blk_cell BK224.out 3).trans rfl
                    have hcz26_4 : wc.cell? ⟨gb224, 4, none⟩ = some (.int .u8 a0_4) := (blk_cell BK224.out 4).trans rfl
                    have hcz26_5 : wc.cell? ⟨gb224, 5, none⟩ = some (.slice A0_5 l0_5.length c0_5) := (blk_cell BK224.out 5).trans rfl
                    have hcz26_6 : wc.cell? ⟨gb224, 6, none⟩ = some (.int .i64 a0_6) := (blk_cell BK224.out 6).trans rfl
                    have hfz26_0 := blk_frozen BK224.out 0
                    have hfz26_1 := blk_frozen BK224.out 1
                    have hfz26_2 := blk_frozen BK224.out 2
                    have hfz26_3 := blk_frozen BK224.out 3
                    have hfz26_4 := blk_frozen BK224.out 4
                    have hfz26_5 := blk_frozen BK224.out 5
                    have hfz26_6 := blk_frozen BK224.out 6
                    go_wp2
                    go_ret
                    exact ⟨by first | rfl | (simp [errW_none, errW_some] <;> rfl) | (simp [*, errW_none, errW_some] <;> rfl), by repeat (first | (with_reducible first | exact HB.out | apply below_alloc | apply pw_below_drewN | apply below_drew1 | refine below_set ?_ GE224.out) | exact HB.out)⟩
                · rw [if_neg c23] at H
                  have c23b0 : (a0_0 == 4) = false := beq_eq_false_iff_ne.mpr c23
                  have c23b1 : (a0_0 != 4) = true := bne_iff_ne.mpr c23
                  obtain rfl := Option.some.inj H
                  have hcz27_0 : wc.cell? ⟨gb224, 0, none⟩ = some (.int .i64 a0_0) := (blk_cell BK224.out 0).trans rfl
                  have hcz27_1 : wc.cell? ⟨gb224, 1, none⟩ = some (.int .u8 a0_1) := (blk_cell BK224.out 1).trans rfl
                  have hcz27_2 : wc.cell? ⟨gb224, 2, none⟩ = some (.int .u8 a0_2) := (blk_cell BK224.out 2).trans rfl
                  have hcz27_3 : wc.cell? ⟨gb224, 3, none⟩ = some (.int .u8 a0_3) := (blk_cell BK224.out 3).trans rfl
                  have hcz27_4 : wc.cell? ⟨gb224, 4, none⟩ = some (.int .u8 a0_4) := (blk_cell BK224.out 4).trans rfl
                  have hcz27_5 : wc.cell? ⟨gb224, 5, none⟩ = some (.slice A0_5 l0_5.length c0_5) := (blk_cell BK224.out 5).trans rfl
                  have hcz27_6 : wc.cell? ⟨gb224, 6, none⟩ = some (.int .i64 a0_6) := (blk_cell BK224.out 6).trans rfl
                  have hfz27_0 := blk_frozen BK224.out 0
                  have hfz27_1 := blk_frozen BK224.out 1
                  have hfz27_2 := blk_frozen BK224.out 2
                  have hfz27_3 := blk_frozen BK224.out 3
                  have hfz27_4 := blk_frozen BK224.out 4
                  have hfz27_5 := blk_frozen BK224.out 5
                  have hfz27_6 := blk_frozen BK224.out 6
                  go_wp2
                  go_ret
                  exact ⟨by first | rfl | (simp [errW_none, errW_some] <;> rfl) | (simp [*, errW_none, errW_some] <;> rfl), by repeat (first | (with_reducible first | exact HB.out | apply below_alloc | apply pw_below_drewN | apply below_drew1 | refine below_set ?_ GE224.out) | exact HB.out)⟩

/-! ### ends_PutRow: function 24 -/
def ends_PutRow.j0 : Nat → List Int → Int → Bool → Option (List Int × Int)
  | 0, _, _, _ => none
  | k + 1, x0, x1, x8 => if x8 = true then (some (([] : List Int), 2)) else (if 0 ≤ (IntKind.u64.wrap (8 * (IntKind.u64.wrap (x1)))) then (if (x0.length : Int) ≥ (shl .i64 1 (IntKind.u64.wrap (8 * (IntKind.u64.wrap (x1))))) then (some (([] : List Int), 3)) else ((ends_Put.f k (((x0.length : Int)) % 4294967296) x1).bind fun bt225 => (if bt225.1.length + x0.length < 140737488355328 then (some ((bt225.1 ++ x0), 0)) else (none)))) else (none))
def ends_PutRow.f (k : Nat) (l0 : List Int) (a1 : Int) : Option (List Int × Int) := if a1 = 1 then (ends_PutRow.j0 k l0 a1 false) else (ends_PutRow.j0 k l0 a1 (a1 != 2))
theorem ends_PutRow.mono_l : ∀ k, (∀ y0 y1 y2, LeO (ends_PutRow.j0 k y0 y1 y2) (ends_PutRow.j0 (k + 1) y0 y1 y2))
  | 0 => fun _ _ _ r h => by simp [ends_PutRow.j0] at h
  | k + 1 => by
    have ih0 := ends_PutRow.mono_l k
    · intro y0 y1 y2
      unfold ends_PutRow.j0
      repeat' first
      | (with_reducible exact ih0 _ _ _)
      | (with_reducible exact ends_Put.mono _ _ _)
      | (with_reducible exact LeO.refl _)
      | (with_reducible exact LeO.none _)
      | (with_reducible refine LeO.ite ?_ ?_)
      | (with_reducible refine LeO.bind ?_ (fun _ => ?_))
      | exact ih0 _ _ _
      | exact ends_Put.mono _ _ _
      | exact LeO.none _
      | refine LeO.ite ?_ ?_
      | refine LeO.bind ?_ (fun _ => ?_)
theorem ends_PutRow.mono : ∀ a0 a1 k, LeO (ends_PutRow.f k a0 a1) (ends_PutRow.f (k + 1) a0 a1) := by
  intro a0 a1 k
  have ih0 := ends_PutRow.mono_l k
  unfold ends_PutRow.f
  repeat' first
      | (with_reducible exact ih0 _ _ _)
      | (with_reducible exact ends_Put.mono _ _ _)
      | (with_reducible exact LeO.refl _)
      | (with_reducible exact LeO.none _)
      | (with_reducible refine LeO.ite ?_ ?_)
      | (with_reducible refine LeO.bind ?_ (fun _ => ?_))
      | exact ih0 _ _ _
      | exact ends_Put.mono _ _ _
      | exact LeO.none _
      | refine LeO.ite ?_ ?_
      | refine LeO.bind ?_ (fun _ => ?_)
set_option maxHeartbeats 8000000 in
set_option maxRecDepth 100000 in
theorem ends_PutRow.calls (k : Nat) (A0 : Option Addr) (c0 : Nat) (l0 : List Int) (a1 : Int) (r1 : List Int) (r2 : Int) (w : World) (hr0 : Kd.C (Kd.int .u8) w A0 l0.length l0) (hc0 : l0.length ≤ c0) (h : ends_PutRow.f k l0 a1 = some (r1, r2)) :
    Calls Try.prog 24 #[.slice A0 l0.length c0, .int .i64 a1] w fun e w' => ∃ v0_ : Value, e = .returned (.tuple #[v0_, .int .i64 r2]) ∧ Kr.R (Kd.int .u8) 5 w' w.heap.size (fun _ => True) v0_ r1 ∧ Below w.heap.size w w' := by
  have HR0 := Aside0.mk hr0
  have HC0 := Aside0.mk hc0
  clear hr0 hc0
  have HB := Aside0.mk (Below.refl w.heap.size w)
  have H : (if a1 = 1 then (ends_PutRow.j0 k l0 a1 false) else (ends_PutRow.j0 k l0 a1 (a1 != 2))) = some (r1, r2) := h
  clear h
  have HC3 := Aside0.mk H
  clear H
  go_enter Try.func24, Try.ntmps24
  go_upto_region 1 with (fail)
  go_cut [8] (fun v8 wc => ∃ (kq : Nat) (x8_2 : Bool), v8 = .bool x8_2 ∧ Aside0 (ends_PutRow.j0 kq l0 a1 x8_2 = some (r1, r2)) ∧ Aside0 (kq ≤ k) ∧ Aside0 (Below w.heap.size w wc))
  case first =>
    have H := HC3.out
    clear HC3
    by_cases c4 : a1 = 1
    · rw [if_pos c4] at H
      have c4b0 : (a1 == 1) = true := beq_iff_eq.mpr c4
      have c4b1 : (a1 != 1) = false := bne_eq_false_iff_eq.mpr c4
      clear c4
      (first | rw [c4b0] | (simp only [i64_w, i32_w]; rw [c4b0]) | skip)
      have H' := Aside0.mk H
      clear H
      go_wp2
      go_meet
      case rel => exact ⟨_, (false), (by first | rfl | (simp; done) | (simp [*]; done)), H', ⟨by first | omega | exact Nat.le_refl _⟩, ⟨by repeat (first | (with_reducible first | exact HB.out | apply below_alloc | apply pw_below_drewN | apply below_drew1) | exact HB.out)⟩⟩
    · rw [if_neg c4] at H
      have c4b0 : (a1 == 1) = false := beq_eq_false_iff_ne.mpr c4
      have c4b1 : (a1 != 1) = true := bne_iff_ne.mpr c4
      (first | rw [c4b0] | (simp only [i64_w, i32_w]; rw [c4b0]) | skip)
      have H' := Aside0.mk H
      clear H
      go_wp2
      go_meet
      case rel => exact ⟨_, ((a1 != 2)), (by first | rfl | (simp; done) | (simp [*]; done)), H', ⟨by first | omega | exact Nat.le_refl _⟩, ⟨by repeat (first | (with_reducible first | exact HB.out | apply below_alloc | apply pw_below_drewN | apply below_drew1) | exact HB.out)⟩⟩
  case rest =>
    clear HC3
    try clear c2
    try clear p2
    try clear c4
    try clear c4b0
    try clear c4b1
    obtain ⟨kq, x8_2, rfl, HA, HJ2, HB⟩ := hcut
    cases kq with
    | zero => exact absurd HA.out (by simp [ends_PutRow.j0])
    | succ kj2 =>
      have H := HA.out
      clear HA
      simp only [ends_PutRow.j0] at H
      by_cases c5 : x8_2 = true
      · subst c5
        have H1 : (some (([] : List Int), 2)) = some (r1, r2) := by rw [if_pos rfl] at H; exact H
        clear H
        have H := H1
        clear H1
        simp only [Option.some.injEq, Prod.mk.injEq] at H
        obtain ⟨rfl, rfl⟩ := H
        go_wp2
        go_ret2
        exact ⟨_, by first | rfl | (simp [errW_none, errW_some] <;> rfl) | (simp [*, errW_none, errW_some] <;> rfl), by first | exact Kr.R_nil _ _ _ _ _ | exact Kd.N_nil _ _ _ _ _ | exact Kd.V_nil _ _ _ _ _ | exact Kd.Q_nil _ _ _ _ _ | exact Kd.S_nil _ _ _ _ _, by repeat (first | (with_reducible first | exact HB.out | apply below_alloc | apply pw_below_drewN | apply below_drew1) | exact HB.out)⟩
      · replace c5 := Bool.eq_false_iff.mpr c5
        subst c5
        have H1 : (if 0 ≤ (IntKind.u64.wrap (8 * (IntKind.u64.wrap (a1)))) then (if (l0.length : Int) ≥ (shl .i64 1 (IntKind.u64.wrap (8 * (IntKind.u64.wrap (a1))))) then (some (([] : List Int), 3)) else ((ends_Put.f kj2 (((l0.length : Int)) % 4294967296) a1).bind fun bt225 => (if bt225.1.length + l0.length < 140737488355328 then (some ((bt225.1 ++ l0), 0)) else (none)))) else (none)) = some (r1, r2) := by rw [if_neg (show ¬ (false = true) by decide)] at H; exact H
        clear H
        have H := H1
        clear H1
        obtain ⟨ji6, hji6⟩ : ∃ j_ : Int, (IntKind.u64.wrap (8 * (IntKind.u64.wrap (a1)))) = j_ := ⟨_, rfl⟩
        replace H : (if 0 ≤ (ji6) then (if (l0.length : Int) ≥ (shl .i64 1 (ji6)) then (some (([] : List Int), 3)) else ((ends_Put.f kj2 (((l0.length : Int)) % 4294967296) a1).bind fun bt225 => (if bt225.1.length + l0.length < 140737488355328 then (some ((bt225.1 ++ l0), 0)) else (none)))) else (none)) = some (r1, r2) := by first | (rw [hji6] at H; exact H) | (simp only [hji6] at H ⊢; exact H)
        by_cases c7 : 0 ≤ (ji6)
        · rw [if_pos c7] at H
          have c7b0 := eq_true c7
          have c7b1 : decide (0 ≤ (ji6)) = true := decide_eq_true c7
          clear c7
          obtain ⟨ji8, hji8⟩ : ∃ j_ : Int, (shl .i64 1 (ji6)) = j_ := ⟨_, rfl⟩
          replace H : (if (l0.length : Int) ≥ (ji8) then (some (([] : List Int), 3)) else ((ends_Put.f kj2 (((l0.length : Int)) % 4294967296) a1).bind fun bt225 => (if bt225.1.length + l0.length < 140737488355328 then (some ((bt225.1 ++ l0), 0)) else (none)))) = some (r1, r2) := by first | (rw [hji8] at H; exact H) | (simp only [hji8] at H ⊢; exact H)
          have hji8_ : (IntKind.i64.wrap (1 * 2 ^ min (ji6).toNat 64)) = ji8 := hji8
          have hji8z : (ji6) ≤ 64 → (IntKind.i64.wrap (1 * 2 ^ (ji6).toNat)) = ji8 := shl_small hji8
          have hji8u : (IntKind.i64.wrap (2 ^ min (ji6).toNat 64)) = ji8 := by have h_ := hji8_; rw [Int.one_mul] at h_; exact h_
          have hji8v : (ji6) ≤ 64 → (IntKind.i64.wrap (2 ^ (ji6).toNat)) = ji8 := fun hle_ => by have h_ := hji8z hle_; rw [Int.one_mul] at h_; exact h_
          have hji8y : (wrap64 (1 * 2 ^ min (ji6).toNat 64)) = ji8 := (i64_w _).symm.trans hji8_
          have hji8x : (ji6) ≤ 64 → (wrap64 (1 * 2 ^ (ji6).toNat)) = ji8 := fun h_ => (i64_w _).symm.trans (hji8z h_)
          by_cases c9 : (l0.length : Int) ≥ (ji8)
          · rw [if_pos c9] at H
            have c9b0 : decide ((ji8) ≤ (l0.length : Int)) = true := decide_eq_true c9
            clear c9
            simp only [Option.some.injEq, Prod.mk.injEq] at H
            obtain ⟨rfl, rfl⟩ := H
            go_wp2
            go_ret2
            exact ⟨_, by first | rfl | (simp [errW_none, errW_some] <;> rfl) | (simp only [← hji6, ← hji8]; first | rfl | (simp [errW_none, errW_some] <;> rfl)) | (simp [*, errW_none, errW_some] <;> rfl), by first | exact Kr.R_nil _ _ _ _ _ | exact Kd.N_nil _ _ _ _ _ | exact Kd.V_nil _ _ _ _ _ | exact Kd.Q_nil _ _ _ _ _ | exact Kd.S_nil _ _ _ _ _, by repeat (first | (with_reducible first | exact HB.out | apply below_alloc | apply pw_below_drewN | apply below_drew1) | exact HB.out)⟩
          · rw [if_neg c9] at H
            have c9b0 : decide ((ji8) ≤ (l0.length : Int)) = false := decide_eq_false c9
            clear c9
            replace H := Option.bind_eq_some_iff.mp H
            obtain ⟨⟨t225, t226⟩, A100, H⟩ := H
            replace H : (if t225.length + l0.length < 140737488355328 then (some ((t225 ++ l0), 0)) else (none)) = some (r1, r2) := H
            have A10 := Aside0.mk A100
            clear A100
            by_cases c11 : t225.length + l0.length < 140737488355328
            · rw [if_pos c11] at H
              have LMc11 := Aside0.mk c11
              clear c11
              obtain ⟨y229, hy229⟩ : ∃ y_ : List Int, y_ = (t225 ++ l0) := ⟨_, rfl⟩
              replace H : (some (y229, 0)) = some (r1, r2) := by first | (rw [hy229]; with_reducible exact H) | (have H2_ := (Option.bind_some _ _).symm.trans H; rw [hy229]; with_reducible exact H2_) | (have H2_ := (Option.bind_some _ _).symm.trans H; with_reducible exact H2_) | with_reducible exact H | (rw [hy229]; exact H) | exact H
              have Ny229 := Aside0.mk hy229
              clear hy229
              simp only [Option.some.injEq, Prod.mk.injEq] at H
              obtain ⟨rfl, rfl⟩ := H
              go_wp2_with (first | ((with_reducible refine gate_callee (f := 21) rfl ?_); refine goesL_ (some 28) rfl rfl Try.func21 (by kernel_rfl) rfl #[.int .u32 (((l0.length : Int)) % 4294967296), .int .i64 a1] rfl (by (try simp only [List.map_toArray, List.map_cons, List.map_nil]); first | done | rfl | (simp only [List.length_drop, List.length_take]; rfl)) ?_; (with_reducible refine (ends_Put.calls kj2 (((l0.length : Int)) % 4294967296) a1 t225 t226 _ A10.out).mono ?_); rintro e w12 ⟨v227, rfl, ho0, hb⟩; refine ⟨_, rfl, ?_⟩; have n0_ := Aside0.mk (Kr.R_lower ho0 (below_size (by repeat (first | (with_reducible first | exact HB.out | apply below_alloc | apply pw_below_drewN | apply below_drew1) | exact HB.out)))); have n1_ := Aside0.mk (below_step (by repeat (first | (with_reducible first | exact HB.out | apply below_alloc | apply pw_below_drewN | apply below_drew1) | exact HB.out)) hb); clear HB; have HO228 := n0_; have HB := n1_; clear n0_ n1_; (try clear hb); (try clear hb2); (try clear hk); (try clear hi); (try clear ho0)) | ((with_reducible refine gate_builtin (b := .append) (xs := #[.tmp 31, .tmp 32]) rfl ?_); at_builtin; refine Kr.R_append_rows (Kd.int .u8) (w0 := w) w.heap.size rfl (.tmp 31) (.tmp 32) 22 5 (.int .u8 0) 1 rfl Try.underlying22 info5 rfl (by decide) (by omega) v227 t225 l0 _ _ _ (fun _ => True) (fun _ => False) rfl rfl ?aO ?aR (fun _ _ h => h) (fun _ h => h.elim) ?aF ?aB ?aS ?aL ?_; (case aR => repeat (first | exact (Kd.C_below HR0.out HB.out) | (with_reducible refine Kd.C_alloc ?_ _) | (with_reducible refine Kd.C_drewN ?_ _) | (with_reducible refine Kd.C_drew ?_))); (case aB => exact (by repeat (first | (with_reducible first | exact HB.out | apply below_alloc | apply pw_below_drewN | apply below_drew1) | exact HB.out))); (case aF => exact (fun _ _ => trivial)); (case aO => exact (by (with_reducible repeat (first | apply Kr.R_alloc | apply Kr.R_drewN | apply Kr.R_drew)); exact HO228.out)); (case aS => exact (below_size (by repeat (first | (with_reducible first | exact HB.out | apply below_alloc | apply pw_below_drewN | apply below_drew1) | exact HB.out)))); (case aL => have := LMc11.out; omega); intro v230 w13 ho hb hg hat; rw [← Ny229.out] at ho; have n0_ := Aside0.mk (hb); have n1_ := Aside0.mk (ho); clear HB; clear HO228; have HB := n0_; have HO231 := n1_; clear n0_ n1_; clear ho hb hg hat))
              go_ret2
              exact ⟨_, by first | rfl | (simp [errW_none, errW_some] <;> rfl) | (simp only [← hji6, ← hji8]; first | rfl | (simp [errW_none, errW_some] <;> rfl)) | (simp [*, errW_none, errW_some] <;> rfl), by (with_reducible repeat (first | apply Kr.R_alloc | apply Kr.R_drewN | apply Kr.R_drew)); exact HO231.out, by repeat (first | (with_reducible first | exact HB.out | apply below_alloc | apply pw_below_drewN | apply below_drew1) | exact HB.out)⟩
            · rw [if_neg c11] at H
              exact absurd H (by simp)
        · rw [if_neg c7] at H
          exact absurd H (by simp)

end Go.Proofs.Ytfloeenjkjimmaa.PApduFresh
