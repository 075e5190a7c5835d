/- Of ClassFresh's texts: what the law uses. -/
import Derived.Test.YtjbpdmkalegacaaVMiniX
import Derived.Test.YtjbpdmkalegacaaVPClassFreshx0
import Derived.Test.YtjbpdmkalegacaaVPClassFreshx3
import Derived.Test.YtjbpdmkalegacaaVPClassFreshx4
namespace Go.Proofs.Ytjbpdmkalegacaa.PClassFresh
open Go.RowKit Go.Proofs.YtjbpdmkalegacaaW.PrintWords Go.Proofs.YtjbpdmkalegacaaW.PrintLast Go.Proofs.YtjbpdmkalegacaaW.PrintMore Go.Proofs.YtjbpdmkalegacaaW.Mine
attribute [local go_sem] Go.Proofs.YtjbpdmkalegacaaW.Mine.isSome_set max2_int min2_int max_two min_two max_three min_three max_four min_four   -- for this text's walks alone
set_option linter.unusedVariables false
set_option linter.unusedSimpArgs false
def garderobelaw08_works.f (k : Nat)  : Option (Bool) := (class_Get.f k (([1, 1, 0] : List Int))).bind fun bt246 => ((class_Get.f k (([0] : List Int))).bind fun bt253 => ((class_Get.f k (([1, 8, 0, 0, 0, 0, 0] : List Int))).bind fun bt260 => ((class_Get.f k (([1, 8] : List Int))).bind fun bt267 => ((class_Put.f (([(⟨1, 0, ([] : List (S41)), ([] : List (S44)), ([] : List Int), ([] : List (S66))⟩ : S38)] : List (S38)))).bind fun bt274 => (if bt246.2 = 0 then (if (bt246.1.length : Int) = 1 then (if 0 < (bt246.1.length : Int) then (if ((rd_T38 bt246.1 0).f0) = 1 then (if ((rd_T38 bt246.1 0).f1) = 65535 then (if bt253.2 = 0 then (if (bt253.1.length : Int) = 0 then (if bt260.2 = 5 then (if bt267.2 = 4 then (some (bt274.2 == 2)) else (none)) else (none)) else (none)) else (none)) else (none)) else (none)) else (none)) else (none)) else (none))))))
set_option maxHeartbeats 8000000 in
set_option maxRecDepth 100000 in
theorem garderobelaw08_works.calls (k : Nat)  (r : Bool) (w : World) (h : garderobelaw08_works.f k  = some r) :
    Calls Try.prog 8 #[] w fun e w' => e = .returned (.bool r) ∧ Below w.heap.size w w' := by
  have hu38 := Try.underlying38
  have HB := Aside0.mk (Below.refl w.heap.size w)
  have H : ((class_Get.f k (([1, 1, 0] : List Int))).bind fun bt246 => ((class_Get.f k (([0] : List Int))).bind fun bt253 => ((class_Get.f k (([1, 8, 0, 0, 0, 0, 0] : List Int))).bind fun bt260 => ((class_Get.f k (([1, 8] : List Int))).bind fun bt267 => ((class_Put.f (([(⟨1, 0, ([] : List (S41)), ([] : List (S44)), ([] : List Int), ([] : List (S66))⟩ : S38)] : List (S38)))).bind fun bt274 => (if bt246.2 = 0 then (if (bt246.1.length : Int) = 1 then (if 0 < (bt246.1.length : Int) then (if ((rd_T38 bt246.1 0).f0) = 1 then (if ((rd_T38 bt246.1 0).f1) = 65535 then (if bt253.2 = 0 then (if (bt253.1.length : Int) = 0 then (if bt260.2 = 5 then (if bt267.2 = 4 then (some (bt274.2 == 2)) else (none)) else (none)) else (none)) else (none)) else (none)) else (none)) else (none)) else (none)) else (none))))))) = some r := h
  clear h
  obtain ⟨y243, hy243⟩ : ∃ y_ : List Int, y_ = (([1, 1, 0] : List Int)) := ⟨_, rfl⟩
  replace H : ((class_Get.f k y243).bind fun bt246 => ((class_Get.f k (([0] : List Int))).bind fun bt253 => ((class_Get.f k (([1, 8, 0, 0, 0, 0, 0] : List Int))).bind fun bt260 => ((class_Get.f k (([1, 8] : List Int))).bind fun bt267 => ((class_Put.f (([(⟨1, 0, ([] : List (S41)), ([] : List (S44)), ([] : List Int), ([] : List (S66))⟩ : S38)] : List (S38)))).bind fun bt274 => (if bt246.2 = 0 then (if (bt246.1.length : Int) = 1 then (if 0 < (bt246.1.length : Int) then (if ((rd_T38 bt246.1 0).f0) = 1 then (if ((rd_T38 bt246.1 0).f1) = 65535 then (if bt253.2 = 0 then (if (bt253.1.length : Int) = 0 then (if bt260.2 = 5 then (if bt267.2 = 4 then (some (bt274.2 == 2)) else (none)) else (none)) else (none)) else (none)) else (none)) else (none)) else (none)) else (none)) else (none))))))) = some r := by first | (rw [hy243]; with_reducible exact H) | (have H2_ := (Option.bind_some _ _).symm.trans H; rw [hy243]; with_reducible exact H2_) | (have H2_ := (Option.bind_some _ _).symm.trans H; with_reducible exact H2_) | with_reducible exact H | (rw [hy243]; exact H) | exact H
  have Ny243 := Aside0.mk hy243
  clear hy243
  replace H := Option.bind_eq_some_iff.mp H
  obtain ⟨⟨t246, t247⟩, A10, H⟩ := H
  replace H : ((class_Get.f k (([0] : List Int))).bind fun bt253 => ((class_Get.f k (([1, 8, 0, 0, 0, 0, 0] : List Int))).bind fun bt260 => ((class_Get.f k (([1, 8] : List Int))).bind fun bt267 => ((class_Put.f (([(⟨1, 0, ([] : List (S41)), ([] : List (S44)), ([] : List Int), ([] : List (S66))⟩ : S38)] : List (S38)))).bind fun bt274 => (if t247 = 0 then (if (t246.length : Int) = 1 then (if 0 < (t246.length : Int) then (if ((rd_T38 t246 0).f0) = 1 then (if ((rd_T38 t246 0).f1) = 65535 then (if bt253.2 = 0 then (if (bt253.1.length : Int) = 0 then (if bt260.2 = 5 then (if bt267.2 = 4 then (some (bt274.2 == 2)) else (none)) else (none)) else (none)) else (none)) else (none)) else (none)) else (none)) else (none)) else (none)))))) = some r := H
  have A1 := Aside0.mk A10
  clear A10
  obtain ⟨y250, hy250⟩ : ∃ y_ : List Int, y_ = (([0] : List Int)) := ⟨_, rfl⟩
  replace H : ((class_Get.f k y250).bind fun bt253 => ((class_Get.f k (([1, 8, 0, 0, 0, 0, 0] : List Int))).bind fun bt260 => ((class_Get.f k (([1, 8] : List Int))).bind fun bt267 => ((class_Put.f (([(⟨1, 0, ([] : List (S41)), ([] : List (S44)), ([] : List Int), ([] : List (S66))⟩ : S38)] : List (S38)))).bind fun bt274 => (if t247 = 0 then (if (t246.length : Int) = 1 then (if 0 < (t246.length : Int) then (if ((rd_T38 t246 0).f0) = 1 then (if ((rd_T38 t246 0).f1) = 65535 then (if bt253.2 = 0 then (if (bt253.1.length : Int) = 0 then (if bt260.2 = 5 then (if bt267.2 = 4 then (some (bt274.2 == 2)) else (none)) else (none)) else (none)) else (none)) else (none)) else (none)) else (none)) else (none)) else (none)))))) = some r := by first | (rw [hy250]; with_reducible exact H) | (have H2_ := (Option.bind_some _ _).symm.trans H; rw [hy250]; with_reducible exact H2_) | (have H2_ := (Option.bind_some _ _).symm.trans H; with_reducible exact H2_) | with_reducible exact H | (rw [hy250]; exact H) | exact H
  have Ny250 := Aside0.mk hy250
  clear hy250
  replace H := Option.bind_eq_some_iff.mp H
  obtain ⟨⟨t253, t254⟩, A20, H⟩ := H
  replace H : ((class_Get.f k (([1, 8, 0, 0, 0, 0, 0] : List Int))).bind fun bt260 => ((class_Get.f k (([1, 8] : List Int))).bind fun bt267 => ((class_Put.f (([(⟨1, 0, ([] : List (S41)), ([] : List (S44)), ([] : List Int), ([] : List (S66))⟩ : S38)] : List (S38)))).bind fun bt274 => (if t247 = 0 then (if (t246.length : Int) = 1 then (if 0 < (t246.length : Int) then (if ((rd_T38 t246 0).f0) = 1 then (if ((rd_T38 t246 0).f1) = 65535 then (if t254 = 0 then (if (t253.length : Int) = 0 then (if bt260.2 = 5 then (if bt267.2 = 4 then (some (bt274.2 == 2)) else (none)) else (none)) else (none)) else (none)) else (none)) else (none)) else (none)) else (none)) else (none))))) = some r := H
  have A2 := Aside0.mk A20
  clear A20
  obtain ⟨y257, hy257⟩ : ∃ y_ : List Int, y_ = (([1, 8, 0, 0, 0, 0, 0] : List Int)) := ⟨_, rfl⟩
  replace H : ((class_Get.f k y257).bind fun bt260 => ((class_Get.f k (([1, 8] : List Int))).bind fun bt267 => ((class_Put.f (([(⟨1, 0, ([] : List (S41)), ([] : List (S44)), ([] : List Int), ([] : List (S66))⟩ : S38)] : List (S38)))).bind fun bt274 => (if t247 = 0 then (if (t246.length : Int) = 1 then (if 0 < (t246.length : Int) then (if ((rd_T38 t246 0).f0) = 1 then (if ((rd_T38 t246 0).f1) = 65535 then (if t254 = 0 then (if (t253.length : Int) = 0 then (if bt260.2 = 5 then (if bt267.2 = 4 then (some (bt274.2 == 2)) else (none)) else (none)) else (none)) else (none)) else (none)) else (none)) else (none)) else (none)) else (none))))) = some r := by first | (rw [hy257]; with_reducible exact H) | (have H2_ := (Option.bind_some _ _).symm.trans H; rw [hy257]; with_reducible exact H2_) | (have H2_ := (Option.bind_some _ _).symm.trans H; with_reducible exact H2_) | with_reducible exact H | (rw [hy257]; exact H) | exact H
  have Ny257 := Aside0.mk hy257
  clear hy257
  replace H := Option.bind_eq_some_iff.mp H
  obtain ⟨⟨t260, t261⟩, A30, H⟩ := H
  replace H : ((class_Get.f k (([1, 8] : List Int))).bind fun bt267 => ((class_Put.f (([(⟨1, 0, ([] : List (S41)), ([] : List (S44)), ([] : List Int), ([] : List (S66))⟩ : S38)] : List (S38)))).bind fun bt274 => (if t247 = 0 then (if (t246.length : Int) = 1 then (if 0 < (t246.length : Int) then (if ((rd_T38 t246 0).f0) = 1 then (if ((rd_T38 t246 0).f1) = 65535 then (if t254 = 0 then (if (t253.length : Int) = 0 then (if t261 = 5 then (if bt267.2 = 4 then (some (bt274.2 == 2)) else (none)) else (none)) else (none)) else (none)) else (none)) else (none)) else (none)) else (none)) else (none)))) = some r := H
  have A3 := Aside0.mk A30
  clear A30
  obtain ⟨y264, hy264⟩ : ∃ y_ : List Int, y_ = (([1, 8] : List Int)) := ⟨_, rfl⟩
  replace H : ((class_Get.f k y264).bind fun bt267 => ((class_Put.f (([(⟨1, 0, ([] : List (S41)), ([] : List (S44)), ([] : List Int), ([] : List (S66))⟩ : S38)] : List (S38)))).bind fun bt274 => (if t247 = 0 then (if (t246.length : Int) = 1 then (if 0 < (t246.length : Int) then (if ((rd_T38 t246 0).f0) = 1 then (if ((rd_T38 t246 0).f1) = 65535 then (if t254 = 0 then (if (t253.length : Int) = 0 then (if t261 = 5 then (if bt267.2 = 4 then (some (bt274.2 == 2)) else (none)) else (none)) else (none)) else (none)) else (none)) else (none)) else (none)) else (none)) else (none)))) = some r := by first | (rw [hy264]; with_reducible exact H) | (have H2_ := (Option.bind_some _ _).symm.trans H; rw [hy264]; with_reducible exact H2_) | (have H2_ := (Option.bind_some _ _).symm.trans H; with_reducible exact H2_) | with_reducible exact H | (rw [hy264]; exact H) | exact H
  have Ny264 := Aside0.mk hy264
  clear hy264
  replace H := Option.bind_eq_some_iff.mp H
  obtain ⟨⟨t267, t268⟩, A40, H⟩ := H
  replace H : ((class_Put.f (([(⟨1, 0, ([] : List (S41)), ([] : List (S44)), ([] : List Int), ([] : List (S66))⟩ : S38)] : List (S38)))).bind fun bt274 => (if t247 = 0 then (if (t246.length : Int) = 1 then (if 0 < (t246.length : Int) then (if ((rd_T38 t246 0).f0) = 1 then (if ((rd_T38 t246 0).f1) = 65535 then (if t254 = 0 then (if (t253.length : Int) = 0 then (if t261 = 5 then (if t268 = 4 then (some (bt274.2 == 2)) else (none)) else (none)) else (none)) else (none)) else (none)) else (none)) else (none)) else (none)) else (none))) = some r := H
  have A4 := Aside0.mk A40
  clear A40
  obtain ⟨y271, hy271⟩ : ∃ y_ : List (S38), y_ = (([(⟨1, 0, ([] : List (S41)), ([] : List (S44)), ([] : List Int), ([] : List (S66))⟩ : S38)] : List (S38))) := ⟨_, rfl⟩
  replace H : ((class_Put.f y271).bind fun bt274 => (if t247 = 0 then (if (t246.length : Int) = 1 then (if 0 < (t246.length : Int) then (if ((rd_T38 t246 0).f0) = 1 then (if ((rd_T38 t246 0).f1) = 65535 then (if t254 = 0 then (if (t253.length : Int) = 0 then (if t261 = 5 then (if t268 = 4 then (some (bt274.2 == 2)) else (none)) else (none)) else (none)) else (none)) else (none)) else (none)) else (none)) else (none)) else (none))) = some r := by first | (rw [hy271]; with_reducible exact H) | (have H2_ := (Option.bind_some _ _).symm.trans H; rw [hy271]; with_reducible exact H2_) | (have H2_ := (Option.bind_some _ _).symm.trans H; with_reducible exact H2_) | with_reducible exact H | (rw [hy271]; exact H) | exact H
  have Ny271 := Aside0.mk hy271
  clear hy271
  replace H := Option.bind_eq_some_iff.mp H
  obtain ⟨⟨t274, t275⟩, A50, H⟩ := H
  replace H : (if t247 = 0 then (if (t246.length : Int) = 1 then (if 0 < (t246.length : Int) then (if ((rd_T38 t246 0).f0) = 1 then (if ((rd_T38 t246 0).f1) = 65535 then (if t254 = 0 then (if (t253.length : Int) = 0 then (if t261 = 5 then (if t268 = 4 then (some (t275 == 2)) else (none)) else (none)) else (none)) else (none)) else (none)) else (none)) else (none)) else (none)) else (none)) = some r := H
  have A5 := Aside0.mk A50
  clear A50
  by_cases c6 : t247 = 0
  · rw [if_pos c6] at H
    have c6b0 : (t247 == 0) = true := beq_iff_eq.mpr c6
    have c6b1 : (t247 != 0) = false := bne_eq_false_iff_eq.mpr c6
    clear c6
    by_cases c7 : (t246.length : Int) = 1
    · rw [if_pos c7] at H
      have c7b0 : ((t246.length : Int) == 1) = true := beq_iff_eq.mpr c7
      have c7b1 : ((t246.length : Int) != 1) = false := bne_eq_false_iff_eq.mpr c7
      clear c7
      by_cases c8 : 0 < (t246.length : Int)
      · rw [if_pos c8] at H
        have c8b0 : decide (0 < (t246.length : Int)) = true := decide_eq_true c8
        have c8b1 : decide (0 < t246.length) = true := decide_eq_true (by omega)
        clear c8
        by_cases c9 : ((rd_T38 t246 0).f0) = 1
        · rw [if_pos c9] at H
          have c9b0 : (((rd_T38 t246 0).f0) == 1) = true := beq_iff_eq.mpr c9
          have c9b1 : (((rd_T38 t246 0).f0) != 1) = false := bne_eq_false_iff_eq.mpr c9
          clear c9
          by_cases c10 : ((rd_T38 t246 0).f1) = 65535
          · rw [if_pos c10] at H
            have c10b0 : (((rd_T38 t246 0).f1) == 65535) = true := beq_iff_eq.mpr c10
            have c10b1 : (((rd_T38 t246 0).f1) != 65535) = false := bne_eq_false_iff_eq.mpr c10
            clear c10
            by_cases c11 : t254 = 0
            · rw [if_pos c11] at H
              have c11b0 : (t254 == 0) = true := beq_iff_eq.mpr c11
              have c11b1 : (t254 != 0) = false := bne_eq_false_iff_eq.mpr c11
              clear c11
              by_cases c12 : (t253.length : Int) = 0
              · rw [if_pos c12] at H
                have c12b0 : ((t253.length : Int) == 0) = true := beq_iff_eq.mpr c12
                have c12b1 : ((t253.length : Int) != 0) = false := bne_eq_false_iff_eq.mpr c12
                clear c12
                by_cases c13 : t261 = 5
                · rw [if_pos c13] at H
                  have c13b0 : (t261 == 5) = true := beq_iff_eq.mpr c13
                  have c13b1 : (t261 != 5) = false := bne_eq_false_iff_eq.mpr c13
                  clear c13
                  by_cases c14 : t268 = 4
                  · rw [if_pos c14] at H
                    have c14b0 : (t268 == 4) = true := beq_iff_eq.mpr c14
                    have c14b1 : (t268 != 4) = false := bne_eq_false_iff_eq.mpr c14
                    clear c14
                    obtain rfl := Option.some.inj H
                    go_enter Try.func8, Try.ntmps8
                    go_wp2_with (first | ((with_reducible refine gate_dst (N := 12) rfl ?_); (try (refine gate_guard (by rfl) ?_; dsimp only)); refine Kd.R_lit (Kd.int .u8) _ 5 ?hg (N := 12) ?hd (xs := ([1, 1, 0] : List Int)) (inner := [.int .u8 1, .int .u8 1, .int .u8 0]) (ok := fun _ => True) (okp := fun _ => True) ?hr ?hp (fun _ hk => hk) trivial (Below.refl _ _) (Nat.le_refl _) (by simp) ?_; (case hd => rfl); (case hg => rfl); (case hr => first | (go_simp; done) | (go_simp; rfl)); (case hp => exact (Reps.one (show Kd.M (Kd.int .u8) _ _ _ 1 [.int .u8 1] from rfl) (Reps.one (show Kd.M (Kd.int .u8) _ _ _ 1 [.int .u8 1] from rfl) (Reps.one (show Kd.M (Kd.int .u8) _ _ _ 0 [.int .u8 0] from rfl) (Reps.none _ _))))); intro v244 w15 ho16 hb hg_ hnew_; clear hg_ hnew_; (first | rw [← Ny243.out] at ho16 | (simp only [Int.reduceToNat] at ho16; rw [← Ny243.out] at ho16)); have n0_ := Aside0.mk (Kd.R_lower ho16 (below_size (zb))); have n1_ := Aside0.mk (below_step (zb) hb); clear HB; have HO245 := n0_; have HB := n1_; clear n0_ n1_; clear hb ho16; obtain ⟨Ao17, co17, eo17⟩ := Kd.R_slice HO245.out; subst eo17) | ((with_reducible refine gate_callee (f := 9) rfl ?_); refine goesL_ (some 13) rfl rfl Try.func9 (by kernel_rfl) rfl #[.slice Ao17 y243.length co17] rfl zargs ?_; (with_reducible refine (class_Get.calls k _ _ y243 t246 t247 _ ?side1 ?side2 A1.out).mono ?_); (case side1 => repeat (first | exact (Kd.R_reads' HO245.out).2.2 | (with_reducible refine Kd.C_alloc ?_ _) | (with_reducible refine Kd.C_drewN ?_ _) | (with_reducible refine Kd.C_drew ?_))); (case side2 => exact (Kd.R_reads' HO245.out).2.1); rintro e w18 ⟨v248, rfl, ho0, hb⟩; refine ⟨_, rfl, ?_⟩; have n0_ := Aside0.mk (Kd.R_below (zr HO245) hb); have n1_ := Aside0.mk (Kd.R_lower (Kd.R_new' ho0 (Kd.R_lt (zr HO245))) (below_size (zb))); have n2_ := Aside0.mk (below_step (zb) hb); clear HO245; clear HB; have HO245 := n0_; have HO249 := n1_; have HB := n2_; clear n0_ n1_ n2_; (try clear hb); (try clear hb2); (try clear hk); (try clear hi); (try clear ho0)) | ((with_reducible refine gate_dst (N := 17) rfl ?_); (try (refine gate_guard (by rfl) ?_; dsimp only)); refine Kd.R_lit (Kd.int .u8) _ 5 ?hg (N := 17) ?hd (xs := ([0] : List Int)) (inner := [.int .u8 0]) (ok := fun _ => True) (okp := fun _ => True) ?hr ?hp (fun _ hk => hk) trivial (Below.refl _ _) (Nat.le_refl _) (by simp) ?_; (case hd => rfl); (case hg => rfl); (case hr => first | (go_simp; done) | (go_simp; rfl)); (case hp => exact (Reps.one (show Kd.M (Kd.int .u8) _ _ _ 0 [.int .u8 0] from rfl) (Reps.none _ _))); intro v251 w19 ho20 hb hg_ hnew_; clear hg_ hnew_; (first | rw [← Ny250.out] at ho20 | (simp only [Int.reduceToNat] at ho20; rw [← Ny250.out] at ho20)); have n0_ := Aside0.mk (Kd.R_elder' (zr HO245) (Kd.R_base ho20) hb); have n1_ := Aside0.mk (Kd.R_elder' (zr HO249) (Kd.R_base ho20) hb); have n2_ := Aside0.mk (Kd.R_lower (Kd.R_new' ho20 (Kd.R_lt (zr HO245))) (below_size (zb))); have n3_ := Aside0.mk (below_step (zb) hb); clear HO245; clear HO249; clear HB; have HO245 := n0_; have HO249 := n1_; have HO252 := n2_; have HB := n3_; clear n0_ n1_ n2_ n3_; clear hb ho20; obtain ⟨Ao21, co21, eo21⟩ := Kd.R_slice HO252.out; subst eo21) | ((with_reducible refine gate_callee (f := 9) rfl ?_); refine goesL_ (some 18) rfl rfl Try.func9 (by kernel_rfl) rfl #[.slice Ao21 y250.length co21] rfl zargs ?_; (with_reducible refine (class_Get.calls k _ _ y250 t253 t254 _ ?side1 ?side2 A2.out).mono ?_); (case side1 => repeat (first | exact (Kd.R_reads' HO252.out).2.2 | (with_reducible refine Kd.C_alloc ?_ _) | (with_reducible refine Kd.C_drewN ?_ _) | (with_reducible refine Kd.C_drew ?_))); (case side2 => exact (Kd.R_reads' HO252.out).2.1); rintro e w22 ⟨v255, rfl, ho0, hb⟩; refine ⟨_, rfl, ?_⟩; have n0_ := Aside0.mk (Kd.R_below (zr HO245) hb); have n1_ := Aside0.mk (Kd.R_elder' (zr HO249) (Kd.R_base ho0) hb); have n2_ := Aside0.mk (Kd.R_below (zr HO252) hb); have n3_ := Aside0.mk (Kd.R_lower (Kd.R_new' (Kd.R_new' (Kd.R_new' ho0 (Kd.R_lt (zr HO245))) (Kd.R_lt (zr HO249))) (Kd.R_lt (zr HO252))) (below_size (zb))); have n4_ := Aside0.mk (below_step (zb) hb); clear HO245; clear HO249; clear HO252; clear HB; have HO245 := n0_; have HO249 := n1_; have HO252 := n2_; have HO256 := n3_; have HB := n4_; clear n0_ n1_ n2_ n3_ n4_; (try clear hb); (try clear hb2); (try clear hk); (try clear hi); (try clear ho0)) | ((with_reducible refine gate_dst (N := 22) rfl ?_); (try (refine gate_guard (by rfl) ?_; dsimp only)); refine Kd.R_lit (Kd.int .u8) _ 5 ?hg (N := 22) ?hd (xs := ([1, 8, 0, 0, 0, 0, 0] : List Int)) (inner := [.int .u8 1, .int .u8 8, .int .u8 0, .int .u8 0, .int .u8 0, .int .u8 0, .int .u8 0]) (ok := fun _ => True) (okp := fun _ => True) ?hr ?hp (fun _ hk => hk) trivial (Below.refl _ _) (Nat.le_refl _) (by simp) ?_; (case hd => rfl); (case hg => rfl); (case hr => first | (go_simp; done) | (go_simp; rfl)); (case hp => exact (Reps.one (show Kd.M (Kd.int .u8) _ _ _ 1 [.int .u8 1] from rfl) (Reps.one (show Kd.M (Kd.int .u8) _ _ _ 8 [.int .u8 8] from rfl) (Reps.one (show Kd.M (Kd.int .u8) _ _ _ 0 [.int .u8 0] from rfl) (Reps.one (show Kd.M (Kd.int .u8) _ _ _ 0 [.int .u8 0] from rfl) (Reps.one (show Kd.M (Kd.int .u8) _ _ _ 0 [.int .u8 0] from rfl) (Reps.one (show Kd.M (Kd.int .u8) _ _ _ 0 [.int .u8 0] from rfl) (Reps.one (show Kd.M (Kd.int .u8) _ _ _ 0 [.int .u8 0] from rfl) (Reps.none _ _))))))))); intro v258 w23 ho24 hb hg_ hnew_; clear hg_ hnew_; (first | rw [← Ny257.out] at ho24 | (simp only [Int.reduceToNat] at ho24; rw [← Ny257.out] at ho24)); have n0_ := Aside0.mk (Kd.R_elder' (zr HO245) (Kd.R_base ho24) hb); have n1_ := Aside0.mk (Kd.R_elder' (zr HO249) (Kd.R_base ho24) hb); have n2_ := Aside0.mk (Kd.R_elder' (zr HO252) (Kd.R_base ho24) hb); have n3_ := Aside0.mk (Kd.R_elder' (zr HO256) (Kd.R_base ho24) hb); have n4_ := Aside0.mk (Kd.R_lower (Kd.R_new' (Kd.R_new' ho24 (Kd.R_lt (zr HO245))) (Kd.R_lt (zr HO252))) (below_size (zb))); have n5_ := Aside0.mk (below_step (zb) hb); clear HO245; clear HO249; clear HO252; clear HO256; clear HB; have HO245 := n0_; have HO249 := n1_; have HO252 := n2_; have HO256 := n3_; have HO259 := n4_; have HB := n5_; clear n0_ n1_ n2_ n3_ n4_ n5_; clear hb ho24; obtain ⟨Ao25, co25, eo25⟩ := Kd.R_slice HO259.out; subst eo25) | ((with_reducible refine gate_callee (f := 9) rfl ?_); refine goesL_ (some 23) rfl rfl Try.func9 (by kernel_rfl) rfl #[.slice Ao25 y257.length co25] rfl zargs ?_; (with_reducible refine (class_Get.calls k _ _ y257 t260 t261 _ ?side1 ?side2 A3.out).mono ?_); (case side1 => repeat (first | exact (Kd.R_reads' HO259.out).2.2 | (with_reducible refine Kd.C_alloc ?_ _) | (with_reducible refine Kd.C_drewN ?_ _) | (with_reducible refine Kd.C_drew ?_))); (case side2 => exact (Kd.R_reads' HO259.out).2.1); rintro e w26 ⟨v262, rfl, ho0, hb⟩; refine ⟨_, rfl, ?_⟩; have n0_ := Aside0.mk (Kd.R_below (zr HO245) hb); have n1_ := Aside0.mk (Kd.R_elder' (zr HO249) (Kd.R_base ho0) hb); have n2_ := Aside0.mk (Kd.R_below (zr HO252) hb); have n3_ := Aside0.mk (Kd.R_elder' (zr HO256) (Kd.R_base ho0) hb); have n4_ := Aside0.mk (Kd.R_below (zr HO259) hb); have n5_ := Aside0.mk (Kd.R_lower (Kd.R_new' (Kd.R_new' (Kd.R_new' (Kd.R_new' (Kd.R_new' ho0 (Kd.R_lt (zr HO245))) (Kd.R_lt (zr HO249))) (Kd.R_lt (zr HO252))) (Kd.R_lt (zr HO256))) (Kd.R_lt (zr HO259))) (below_size (zb))); have n6_ := Aside0.mk (below_step (zb) hb); clear HO245; clear HO249; clear HO252; clear HO256; clear HO259; clear HB; have HO245 := n0_; have HO249 := n1_; have HO252 := n2_; have HO256 := n3_; have HO259 := n4_; have HO263 := n5_; have HB := n6_; clear n0_ n1_ n2_ n3_ n4_ n5_ n6_; (try clear hb); (try clear hb2); (try clear hk); (try clear hi); (try clear ho0)) | ((with_reducible refine gate_dst (N := 27) rfl ?_); (try (refine gate_guard (by rfl) ?_; dsimp only)); refine Kd.R_lit (Kd.int .u8) _ 5 ?hg (N := 27) ?hd (xs := ([1, 8] : List Int)) (inner := [.int .u8 1, .int .u8 8]) (ok := fun _ => True) (okp := fun _ => True) ?hr ?hp (fun _ hk => hk) trivial (Below.refl _ _) (Nat.le_refl _) (by simp) ?_; (case hd => rfl); (case hg => rfl); (case hr => first | (go_simp; done) | (go_simp; rfl)); (case hp => exact (Reps.one (show Kd.M (Kd.int .u8) _ _ _ 1 [.int .u8 1] from rfl) (Reps.one (show Kd.M (Kd.int .u8) _ _ _ 8 [.int .u8 8] from rfl) (Reps.none _ _)))); intro v265 w27 ho28 hb hg_ hnew_; clear hg_ hnew_; (first | rw [← Ny264.out] at ho28 | (simp only [Int.reduceToNat] at ho28; rw [← Ny264.out] at ho28)); have n0_ := Aside0.mk (Kd.R_elder' (zr HO245) (Kd.R_base ho28) hb); have n1_ := Aside0.mk (Kd.R_elder' (zr HO249) (Kd.R_base ho28) hb); have n2_ := Aside0.mk (Kd.R_elder' (zr HO252) (Kd.R_base ho28) hb); have n3_ := Aside0.mk (Kd.R_elder' (zr HO256) (Kd.R_base ho28) hb); have n4_ := Aside0.mk (Kd.R_elder' (zr HO259) (Kd.R_base ho28) hb); have n5_ := Aside0.mk (Kd.R_elder' (zr HO263) (Kd.R_base ho28) hb); have n6_ := Aside0.mk (Kd.R_lower (Kd.R_new' (Kd.R_new' (Kd.R_new' ho28 (Kd.R_lt (zr HO245))) (Kd.R_lt (zr HO252))) (Kd.R_lt (zr HO259))) (below_size (zb))); have n7_ := Aside0.mk (below_step (zb) hb); clear HO245; clear HO249; clear HO252; clear HO256; clear HO259; clear HO263; clear HB; have HO245 := n0_; have HO249 := n1_; have HO252 := n2_; have HO256 := n3_; have HO259 := n4_; have HO263 := n5_; have HO266 := n6_; have HB := n7_; clear n0_ n1_ n2_ n3_ n4_ n5_ n6_ n7_; clear hb ho28; obtain ⟨Ao29, co29, eo29⟩ := Kd.R_slice HO266.out; subst eo29) | ((with_reducible refine gate_callee (f := 9) rfl ?_); refine goesL_ (some 28) rfl rfl Try.func9 (by kernel_rfl) rfl #[.slice Ao29 y264.length co29] rfl zargs ?_; (with_reducible refine (class_Get.calls k _ _ y264 t267 t268 _ ?side1 ?side2 A4.out).mono ?_); (case side1 => repeat (first | exact (Kd.R_reads' HO266.out).2.2 | (with_reducible refine Kd.C_alloc ?_ _) | (with_reducible refine Kd.C_drewN ?_ _) | (with_reducible refine Kd.C_drew ?_))); (case side2 => exact (Kd.R_reads' HO266.out).2.1); rintro e w30 ⟨v269, rfl, ho0, hb⟩; refine ⟨_, rfl, ?_⟩; have n0_ := Aside0.mk (Kd.R_below (zr HO245) hb); have n1_ := Aside0.mk (Kd.R_elder' (zr HO249) (Kd.R_base ho0) hb); have n2_ := Aside0.mk (Kd.R_below (zr HO252) hb); have n3_ := Aside0.mk (Kd.R_elder' (zr HO256) (Kd.R_base ho0) hb); have n4_ := Aside0.mk (Kd.R_below (zr HO259) hb); have n5_ := Aside0.mk (Kd.R_elder' (zr HO263) (Kd.R_base ho0) hb); have n6_ := Aside0.mk (Kd.R_below (zr HO266) hb); have n7_ := Aside0.mk (Kd.R_lower (Kd.R_new' (Kd.R_new' (Kd.R_new' (Kd.R_new' (Kd.R_new' (Kd.R_new' (Kd.R_new' ho0 (Kd.R_lt (zr HO245))) (Kd.R_lt (zr HO249))) (Kd.R_lt (zr HO252))) (Kd.R_lt (zr HO256))) (Kd.R_lt (zr HO259))) (Kd.R_lt (zr HO263))) (Kd.R_lt (zr HO266))) (below_size (zb))); have n8_ := Aside0.mk (below_step (zb) hb); clear HO245; clear HO249; clear HO252; clear HO256; clear HO259; clear HO263; clear HO266; clear HB; have HO245 := n0_; have HO249 := n1_; have HO252 := n2_; have HO256 := n3_; have HO259 := n4_; have HO263 := n5_; have HO266 := n6_; have HO270 := n7_; have HB := n8_; clear n0_ n1_ n2_ n3_ n4_ n5_ n6_ n7_ n8_; (try clear hb); (try clear hb2); (try clear hk); (try clear hi); (try clear ho0)) | ((with_reducible refine gate_dst (N := 33) rfl ?_); (try (refine gate_guard (by rfl) ?_; dsimp only)); refine Kd.R_lit k38 _ 38 ?hg (N := 33) ?hd (xs := ([(⟨1, 0, ([] : List (S41)), ([] : List (S44)), ([] : List Int), ([] : List (S66))⟩ : S38)] : List (S38))) (inner := [.int .u8 1, .int .u16 0, .slice none 0 0, .slice none 0 0, .slice none 0 0, .slice none 0 0]) (ok := fun _ => True) (okp := fun _ => True) ?hr ?hp (fun _ hk => hk) trivial (Below.refl _ _) (Nat.le_refl _) (by simp) ?_; (case hd => rfl); (case hg => rfl); (case hr => first | (go_simp; done) | (go_simp; rfl)); (case hp => exact (Reps.c6 (show Kd.M k38 _ _ _ (⟨1, 0, ([] : List (S41)), ([] : List (S44)), ([] : List Int), ([] : List (S66))⟩ : S38) [.int .u8 1, .int .u16 0, .slice none 0 0, .slice none 0 0, .slice none 0 0, .slice none 0 0] from (k38_mkM _ _ _ (⟨1, 0, ([] : List (S41)), ([] : List (S44)), ([] : List Int), ([] : List (S66))⟩ : S38) (Kd.R_nil _ _ _ _ _) (Kd.R_nil _ _ _ _ _) (Kd.R_nil _ _ _ _ _) (Kd.R_nil _ _ _ _ _))) (Reps.none _ _))); intro v272 w31 ho32 hb hg_ hnew_; clear hg_ hnew_; (first | rw [← Ny271.out] at ho32 | (simp only [Int.reduceToNat] at ho32; rw [← Ny271.out] at ho32)); have n0_ := Aside0.mk (Kd.R_below (zr HO245) hb); have n1_ := Aside0.mk (Kd.R_elder' (zr HO249) (Kd.R_base ho32) hb); have n2_ := Aside0.mk (Kd.R_below (zr HO252) hb); have n3_ := Aside0.mk (Kd.R_elder' (zr HO256) (Kd.R_base ho32) hb); have n4_ := Aside0.mk (Kd.R_below (zr HO259) hb); have n5_ := Aside0.mk (Kd.R_elder' (zr HO263) (Kd.R_base ho32) hb); have n6_ := Aside0.mk (Kd.R_below (zr HO266) hb); have n7_ := Aside0.mk (Kd.R_elder' (zr HO270) (Kd.R_base ho32) hb); have n8_ := Aside0.mk (Kd.R_lower (Kd.R_new' (Kd.R_new' (Kd.R_new' (Kd.R_new' (Kd.R_new' (Kd.R_new' (Kd.R_new' (Kd.R_new' ho32 (Kd.R_lt (zr HO245))) (Kd.R_lt (zr HO249))) (Kd.R_lt (zr HO252))) (Kd.R_lt (zr HO256))) (Kd.R_lt (zr HO259))) (Kd.R_lt (zr HO263))) (Kd.R_lt (zr HO266))) (Kd.R_lt (zr HO270))) (below_size (zb))); have n9_ := Aside0.mk (below_step (zb) hb); clear HO245; clear HO249; clear HO252; clear HO256; clear HO259; clear HO263; clear HO266; clear HO270; clear HB; have HO245 := n0_; have HO249 := n1_; have HO252 := n2_; have HO256 := n3_; have HO259 := n4_; have HO263 := n5_; have HO266 := n6_; have HO270 := n7_; have HO273 := n8_; have HB := n9_; clear n0_ n1_ n2_ n3_ n4_ n5_ n6_ n7_ n8_ n9_; clear hb ho32; obtain ⟨Ao33, co33, eo33⟩ := Kd.R_slice HO273.out; subst eo33) | ((with_reducible refine gate_callee (f := 7) rfl ?_); refine goesL_ (some 34) rfl rfl Try.func7 (by kernel_rfl) rfl #[.slice Ao33 y271.length co33] rfl zargs ?_; (with_reducible refine (class_Put.calls _ _ y271 t274 t275 _ ?side1 ?side2 A5.out).mono ?_); (case side1 => repeat (first | exact (Kd.R_reads' HO273.out).2.2 | (with_reducible refine Kd.C_alloc ?_ _) | (with_reducible refine Kd.C_drewN ?_ _) | (with_reducible refine Kd.C_drew ?_))); (case side2 => exact (Kd.R_reads' HO273.out).2.1); rintro e w34 ⟨v276, rfl, ho0, hb⟩; refine ⟨_, rfl, ?_⟩; have n0_ := Aside0.mk (Kd.R_elder' (zr HO245) (Kd.R_base ho0) hb); have n1_ := Aside0.mk (Kd.R_elder' (zr HO249) (Kd.R_base ho0) hb); have n2_ := Aside0.mk (Kd.R_elder' (zr HO252) (Kd.R_base ho0) hb); have n3_ := Aside0.mk (Kd.R_elder' (zr HO256) (Kd.R_base ho0) hb); have n4_ := Aside0.mk (Kd.R_elder' (zr HO259) (Kd.R_base ho0) hb); have n5_ := Aside0.mk (Kd.R_elder' (zr HO263) (Kd.R_base ho0) hb); have n6_ := Aside0.mk (Kd.R_elder' (zr HO266) (Kd.R_base ho0) hb); have n7_ := Aside0.mk (Kd.R_elder' (zr HO270) (Kd.R_base ho0) hb); have n8_ := Aside0.mk (Kd.R_elder' (zr HO273) (Kd.R_base ho0) hb); have n9_ := Aside0.mk (Kd.R_lower (Kd.R_new' (Kd.R_new' (Kd.R_new' (Kd.R_new' ho0 (Kd.R_lt (zr HO245))) (Kd.R_lt (zr HO252))) (Kd.R_lt (zr HO259))) (Kd.R_lt (zr HO266))) (below_size (zb))); have n10_ := Aside0.mk (below_step (zb) hb); clear HO245; clear HO249; clear HO252; clear HO256; clear HO259; clear HO263; clear HO266; clear HO270; clear HO273; clear HB; have HO245 := n0_; have HO249 := n1_; have HO252 := n2_; have HO256 := n3_; have HO259 := n4_; have HO263 := n5_; have HO266 := n6_; have HO270 := n7_; have HO273 := n8_; have HO277 := n9_; have HB := n10_; clear n0_ n1_ n2_ n3_ n4_ n5_ n6_ n7_ n8_ n9_ n10_; (try clear hb); (try clear hb2); (try clear hk); (try clear hi); (try clear ho0); obtain ⟨Ao35, co35, eo35⟩ := Kd.R_slice HO249.out; subst eo35; have p278 : 0 ≤ (0 : Int) := (by omega); have q278 : 0 < (t246.length : Int) := of_decide_eq_true (by first | (with_reducible assumption) | assumption); obtain ⟨ad278, A278_2, c278_2, A278_3, c278_3, A278_4, c278_4, A278_5, c278_5, e278, hx278_0, hx278_1, hx278_2, hx278_3, hx278_4, hx278_5, hl278_2, hi278_2, hl278_3, hi278_3, hl278_4, hi278_4, hl278_5, hi278_5⟩ := at_T38 (Kd.R_reads' HO249.out).2.2 0 p278 q278; cases e278; obtain ⟨ce278, hce278, hMe278, hcc278⟩ := Kd.R_get HO249.out z38 0 p278 (by first | exact q278 | exact of_decide_eq_true (by first | (with_reducible assumption) | assumption) | (have e_ := (Kd.R_reads' HO249.out).1; omega)); obtain ⟨ve278_2, ve278_3, ve278_4, ve278_5, rfl, ge278_2, ge278_3, ge278_4, ge278_5⟩ := k38_openM hMe278; have hv278_2 := hcc278 2 _ rfl; rw [add_field _ _ 2 (by omega)] at hv278_2; replace hv278_2 := Option.some.inj (hv278_2.symm.trans hx278_2); rw [hv278_2] at ge278_2; have HL278_2 := Aside0.mk (show Kd.R k41 41 _ _ _ _ ((rd_T38 t246 0).f2) from ge278_2); clear hv278_2 ge278_2; have hv278_3 := hcc278 3 _ rfl; rw [add_field _ _ 3 (by omega)] at hv278_3; replace hv278_3 := Option.some.inj (hv278_3.symm.trans hx278_3); rw [hv278_3] at ge278_3; have HL278_3 := Aside0.mk (show Kd.R k44 44 _ _ _ _ ((rd_T38 t246 0).f3) from ge278_3); clear hv278_3 ge278_3; have hv278_4 := hcc278 4 _ rfl; rw [add_field _ _ 4 (by omega)] at hv278_4; replace hv278_4 := Option.some.inj (hv278_4.symm.trans hx278_4); rw [hv278_4] at ge278_4; have HL278_4 := Aside0.mk (show Kd.R (Kd.int .u16) 23 _ _ _ _ ((rd_T38 t246 0).f4) from ge278_4); clear hv278_4 ge278_4; have hv278_5 := hcc278 5 _ rfl; rw [add_field _ _ 5 (by omega)] at hv278_5; replace hv278_5 := Option.some.inj (hv278_5.symm.trans hx278_5); rw [hv278_5] at ge278_5; have HL278_5 := Aside0.mk (show Kd.R k66 66 _ _ _ _ ((rd_T38 t246 0).f5) from ge278_5); clear hv278_5 ge278_5; clear hcc278 hce278; have qi278 : (0 < t246.length) = True := eq_true (by omega); (try rw [show ((0 : Int)).toNat = 0 from rfl] at hx278_0); (try rw [show 0 * 6 = 0 from rfl] at hx278_0); (try rw [Addr.add_zero'] at hx278_0); (try rw [show ((0 : Int)).toNat = 0 from rfl] at hx278_1); (try rw [show 0 * 6 = 0 from rfl] at hx278_1); (try rw [Addr.add_zero'] at hx278_1); (try rw [show ((0 : Int)).toNat = 0 from rfl] at hx278_2); (try rw [show 0 * 6 = 0 from rfl] at hx278_2); (try rw [Addr.add_zero'] at hx278_2); (try rw [show ((0 : Int)).toNat = 0 from rfl] at hx278_3); (try rw [show 0 * 6 = 0 from rfl] at hx278_3); (try rw [Addr.add_zero'] at hx278_3); (try rw [show ((0 : Int)).toNat = 0 from rfl] at hx278_4); (try rw [show 0 * 6 = 0 from rfl] at hx278_4); (try rw [Addr.add_zero'] at hx278_4); (try rw [show ((0 : Int)).toNat = 0 from rfl] at hx278_5); (try rw [show 0 * 6 = 0 from rfl] at hx278_5); (try rw [Addr.add_zero'] at hx278_5); have HR278_2 := Aside0.mk hi278_2; have HC278_2 := Aside0.mk hl278_2; clear hi278_2 hl278_2; have HR278_3 := Aside0.mk hi278_3; have HC278_3 := Aside0.mk hl278_3; clear hi278_3 hl278_3; have HR278_4 := Aside0.mk hi278_4; have HC278_4 := Aside0.mk hl278_4; clear hi278_4 hl278_4; have HR278_5 := Aside0.mk hi278_5; have HC278_5 := Aside0.mk hl278_5; clear hi278_5 hl278_5; replace p278 := eq_true p278; replace q278 := eq_true q278; have p279 : 0 ≤ (0 : Int) := (by omega); have q279 : 0 < (t246.length : Int) := of_decide_eq_true (by first | (with_reducible assumption) | assumption); obtain ⟨ad279, A279_2, c279_2, A279_3, c279_3, A279_4, c279_4, A279_5, c279_5, e279, hx279_0, hx279_1, hx279_2, hx279_3, hx279_4, hx279_5, hl279_2, hi279_2, hl279_3, hi279_3, hl279_4, hi279_4, hl279_5, hi279_5⟩ := at_T38 (Kd.R_reads' HO249.out).2.2 0 p279 q279; obtain rfl : ad278 = ad279 := (by injection e279); obtain ⟨ce279, hce279, hMe279, hcc279⟩ := Kd.R_get HO249.out z38 0 p279 (by first | exact q279 | exact of_decide_eq_true (by first | (with_reducible assumption) | assumption) | (have e_ := (Kd.R_reads' HO249.out).1; omega)); obtain ⟨ve279_2, ve279_3, ve279_4, ve279_5, rfl, ge279_2, ge279_3, ge279_4, ge279_5⟩ := k38_openM hMe279; have hv279_2 := hcc279 2 _ rfl; rw [add_field _ _ 2 (by omega)] at hv279_2; replace hv279_2 := Option.some.inj (hv279_2.symm.trans hx279_2); rw [hv279_2] at ge279_2; have HL279_2 := Aside0.mk (show Kd.R k41 41 _ _ _ _ ((rd_T38 t246 0).f2) from ge279_2); clear hv279_2 ge279_2; have hv279_3 := hcc279 3 _ rfl; rw [add_field _ _ 3 (by omega)] at hv279_3; replace hv279_3 := Option.some.inj (hv279_3.symm.trans hx279_3); rw [hv279_3] at ge279_3; have HL279_3 := Aside0.mk (show Kd.R k44 44 _ _ _ _ ((rd_T38 t246 0).f3) from ge279_3); clear hv279_3 ge279_3; have hv279_4 := hcc279 4 _ rfl; rw [add_field _ _ 4 (by omega)] at hv279_4; replace hv279_4 := Option.some.inj (hv279_4.symm.trans hx279_4); rw [hv279_4] at ge279_4; have HL279_4 := Aside0.mk (show Kd.R (Kd.int .u16) 23 _ _ _ _ ((rd_T38 t246 0).f4) from ge279_4); clear hv279_4 ge279_4; have hv279_5 := hcc279 5 _ rfl; rw [add_field _ _ 5 (by omega)] at hv279_5; replace hv279_5 := Option.some.inj (hv279_5.symm.trans hx279_5); rw [hv279_5] at ge279_5; have HL279_5 := Aside0.mk (show Kd.R k66 66 _ _ _ _ ((rd_T38 t246 0).f5) from ge279_5); clear hv279_5 ge279_5; clear hcc279 hce279; have qi279 : (0 < t246.length) = True := eq_true (by omega); (try rw [show ((0 : Int)).toNat = 0 from rfl] at hx279_0); (try rw [show 0 * 6 = 0 from rfl] at hx279_0); (try rw [Addr.add_zero'] at hx279_0); (try rw [show ((0 : Int)).toNat = 0 from rfl] at hx279_1); (try rw [show 0 * 6 = 0 from rfl] at hx279_1); (try rw [Addr.add_zero'] at hx279_1); (try rw [show ((0 : Int)).toNat = 0 from rfl] at hx279_2); (try rw [show 0 * 6 = 0 from rfl] at hx279_2); (try rw [Addr.add_zero'] at hx279_2); (try rw [show ((0 : Int)).toNat = 0 from rfl] at hx279_3); (try rw [show 0 * 6 = 0 from rfl] at hx279_3); (try rw [Addr.add_zero'] at hx279_3); (try rw [show ((0 : Int)).toNat = 0 from rfl] at hx279_4); (try rw [show 0 * 6 = 0 from rfl] at hx279_4); (try rw [Addr.add_zero'] at hx279_4); (try rw [show ((0 : Int)).toNat = 0 from rfl] at hx279_5); (try rw [show 0 * 6 = 0 from rfl] at hx279_5); (try rw [Addr.add_zero'] at hx279_5); have HR279_2 := Aside0.mk hi279_2; have HC279_2 := Aside0.mk hl279_2; clear hi279_2 hl279_2; have HR279_3 := Aside0.mk hi279_3; have HC279_3 := Aside0.mk hl279_3; clear hi279_3 hl279_3; have HR279_4 := Aside0.mk hi279_4; have HC279_4 := Aside0.mk hl279_4; clear hi279_4 hl279_4; have HR279_5 := Aside0.mk hi279_5; have HC279_5 := Aside0.mk hl279_5; clear hi279_5 hl279_5; replace p279 := eq_true p279; replace q279 := eq_true q279; have ea_ := Option.some.inj (hx278_2.symm.trans hx279_2); injection ea_ with ea_ en_ ec_; subst ea_; subst ec_; clear en_; have ea_ := Option.some.inj (hx278_3.symm.trans hx279_3); injection ea_ with ea_ en_ ec_; subst ea_; subst ec_; clear en_; have ea_ := Option.some.inj (hx278_4.symm.trans hx279_4); injection ea_ with ea_ en_ ec_; subst ea_; subst ec_; clear en_; have ea_ := Option.some.inj (hx278_5.symm.trans hx279_5); injection ea_ with ea_ en_ ec_; subst ea_; subst ec_; clear en_; obtain ⟨Ao36, co36, eo36⟩ := Kd.R_slice HO256.out; subst eo36))
                    go_ret
                    exact ⟨ze, zb⟩
                  · rw [if_neg c14] at H
                    exact absurd H (by simp)
                · rw [if_neg c13] at H
                  exact absurd H (by simp)
              · rw [if_neg c12] at H
                exact absurd H (by simp)
            · rw [if_neg c11] at H
              exact absurd H (by simp)
          · rw [if_neg c10] at H
            exact absurd H (by simp)
        · rw [if_neg c9] at H
          exact absurd H (by simp)
      · rw [if_neg c8] at H
        exact absurd H (by simp)
    · rw [if_neg c7] at H
      exact absurd H (by simp)
  · rw [if_neg c6] at H
    exact absurd H (by simp)
def garderoberef00_Wide.f (_k : Nat) (l0 : List Int) : Option (List Int) := if l0.length ≤ 140737488355328 then some l0 else none
set_option maxHeartbeats 8000000 in
set_option maxRecDepth 100000 in
theorem garderoberef00_Wide.calls (k : Nat) (A0 : Option Addr) (c0 : Nat) (l0 : List Int) (r : List Int) (w : World) (hr0 : Kd.C (Kd.int .u8) w A0 l0.length l0) (hc0 : l0.length ≤ c0) (h : garderoberef00_Wide.f k l0 = some r) :
    Calls Try.prog 10 #[.slice A0 l0.length c0] w fun e w' => ∃ v0_ : Value, e = .returned (v0_) ∧ Kr.R (Kd.int .u8) 5 w' w.heap.size (fun _ => True) v0_ r ∧ Kr.R (Kd.int .u8) 5 w' w.heap.size (fun _ => True) (Go.Proofs.YtjbpdmkalegacaaW.Mine.longV v0_) (r ++ [7, 7, 7]) ∧ Below w.heap.size w w' := by
  have hlen : l0.length ≤ 140737488355328 := by
    unfold garderoberef00_Wide.f at h
    split at h
    · assumption
    · cases h
  have hr_ : l0 = r := by
    unfold garderoberef00_Wide.f at h
    rw [if_pos hlen] at h
    exact Option.some.inj h
  subst hr_
  clear h
  have HR0 := Aside0.mk hr0
  have HC0 := Aside0.mk hc0
  have HL := Aside0.mk hlen
  clear hr0 hc0
  have HB := Aside0.mk (Below.refl w.heap.size w)
  obtain ⟨ji2, hji2⟩ : ∃ j_ : Int, (wrap64 ((l0.length : Int) + 3)) = j_ := ⟨_, rfl⟩
  have hji2w : (IntKind.i64.wrap ((l0.length : Int) + 3)) = ji2 := (i64_w _).trans hji2
  have hj3 : ji2 = ((l0.length + 3 : Nat) : Int) := by rw [← hji2]; unfold wrap64; omega
  have HJ3 := Aside0.mk hj3
  obtain ⟨m3, hm3_⟩ : ∃ m_ : Nat, m_ = l0.length + 3 := ⟨_, rfl⟩
  have HM3 := Aside0.mk hm3_
  clear hm3_
  have c3 : 0 ≤ ji2 := by omega
  have c4 : ji2.toNat ≤ 281474976710656 := by omega
  clear hj3 hlen
  have c3b0 := eq_true c3
  have c3b1 : decide (0 ≤ (ji2)) = true := decide_eq_true c3
  have c4b0 := eq_true c4
  have c4b1 : decide ((ji2 : Int).toNat ≤ 281474976710656) = true := decide_eq_true c4
  clear c3 c4
  obtain ⟨y166, hy166⟩ : ∃ y_ : List Int, y_ = (List.replicate (ji2 : Int).toNat 0) := ⟨_, rfl⟩
  have Ny280 := Aside0.mk hy166
  clear hy166
  go_enter Try.func10, Try.ntmps10
  go_wp2_with (first | ((with_reducible refine gate_dst (N := 9) rfl ?_); refine Kr.R_make (Kd.int .u8) _ 5 rfl (N := 9) rfl 24 _ _ rfl ji2 rfl rfl Try.underlying24 (.int .u8 0) 1 info5 rfl (by decide) (by omega) 0 (ok := fun _ => True) (okp := fun _ => True) rfl (fun _ hk => hk) trivial (of_decide_eq_true (by first | (with_reducible assumption) | assumption)) (Nat.le_trans (Nat.mul_le_mul_right _ (of_decide_eq_true (by first | (with_reducible assumption) | assumption) : ji2.toNat ≤ 281474976710656)) (by omega)) (Below.refl _ _) (Nat.le_refl _) ?_; intro v281 w5 ho6 hb hg_ hnew_; clear hg_ hnew_; (first | rw [← Ny280.out] at ho6 | (simp only [Int.reduceToNat] at ho6; rw [← Ny280.out] at ho6)); have n0_ := Aside0.mk (Kr.R_lower ho6 (below_size (zb))); have n1_ := Aside0.mk (below_step (zb) hb); clear HB; have HO282 := n0_; have HB := n1_; clear n0_ n1_; clear hb ho6))
  have hy0_ : y166 = Go.Proofs.YtjbpdmkalegacaaW.Mine.wideA l0 0 := by rw [Ny280.out, Go.Proofs.YtjbpdmkalegacaaW.Mine.wideA_zero, HJ3.out]; rfl
  have h0_ := HO282.out
  rw [hy0_] at h0_
  obtain ⟨A_, co_, e_⟩ := Kr.R_slice h0_
  rw [Go.Proofs.YtjbpdmkalegacaaW.Mine.wideA_length l0 0 (by omega), ← HM3.out] at e_
  subst e_
  have HO_9 := Aside0.mk h0_
  clear h0_ hy0_ HO282
  try clear c3b0
  try clear c3b1
  try clear c4b0
  try clear c4b1
  go_loopg [4] l0.length (fun kq v4 w' => ∃ (x4_1 : Int), v4 = .int .i64 x4_1 ∧ Aside0 (0 ≤ x4_1 ∧ (kq : Int) + x4_1 = l0.length) ∧ Aside0 (Kr.R (Kd.int .u8) 5 w' w.heap.size (fun _ => True) (.slice A_ m3 co_) (Go.Proofs.YtjbpdmkalegacaaW.Mine.wideA l0 x4_1.toNat)) ∧ Aside0 (Below w.heap.size w w'))
  case atStart => exact ⟨0, zs, ⟨by omega⟩, ⟨by (with_reducible repeat (first | apply Kr.R_alloc | apply Kr.R_drewN | apply Kr.R_drew)); exact HO_9.out⟩, ⟨zb⟩⟩
  case round =>
    obtain ⟨x4_1, rfl, HA, HO_3, HB⟩ := hrel
    obtain ⟨x3_1, hx3_⟩ : ∃ x_ : List Int, x_ = Go.Proofs.YtjbpdmkalegacaaW.Mine.wideA l0 x4_1.toNat := ⟨_, rfl⟩
    rw [← hx3_] at HO_3
    have HLN : Aside0 (x3_1.length = m3) := ⟨by rw [hx3_, Go.Proofs.YtjbpdmkalegacaaW.Mine.wideA_length, HM3.out]; have := HA.out; omega⟩
    have HX3 := Aside0.mk hx3_
    clear hx3_
    by_cases c4 : x4_1 < (l0.length : Int)
    · have c4b0 : decide (x4_1 < (l0.length : Int)) = true := decide_eq_true c4
      have c4_ := Aside0.mk c4
      clear c4
      cases gk with
      | zero => exact absurd HA.out.2 (by have := c4_.out; omega)
      | succ k1 =>
          have hw_ : wrap64 (x4_1 + 1) = x4_1 + 1 := by
            have := HL.out
            have := HA.out
            unfold wrap64
            omega
          have HWW := Aside0.mk hw_
          clear hw_
          have p10 : 0 ≤ x4_1 := HA.out.1
          obtain ⟨ad169, e169, hx169_0⟩ := Kd.at_int HR0.out x4_1 p10 c4_.out
          cases e169
          have q169 := eq_true c4_.out
          replace hx169_0 := (HB.out.cell (World.block_lt_of_cell? w _ hx169_0)).trans hx169_0
          obtain ⟨go10, co10, eo10, gb10, gl10, cl10, HG10⟩ := Kr.R_form HO_3.out (by rw [HLN.out, HM3.out]; omega)
          injection eo10 with ea_ en_ ec_
          (first | subst ea_ | (injection ea_ with ea_; subst ea_))
          clear ec_ en_
          have GB10 := Aside0.mk gb10
          clear gb10 gl10 HG10
          obtain ⟨hx10_0, hf10_0⟩ := Kr.R_celln 0 HO_3.out x4_1 p10 (by have h_ := HM3.out; have h2_ := c4_.out; have h3_ := HA.out; omega)
          replace p10 := eq_true p10
          have q10 : (x4_1 < (m3 : Int)) = True := eq_true (by have h_ := HM3.out; have h2_ := c4_.out; have h3_ := HA.out; omega)
          have HP11 := Kr.R_putg HO_3.out x4_1 (rd l0 x4_1)
          go_wp2_with (first | ((with_reducible refine gate_store (t := 5) (p := 22) rfl ?_); refine store_event (t := 5) (p := 22) (v := ?vo_w22) (w1 := (wr.setCell ⟨go10, (x4_1 : Int).toNat, none⟩ (.int .u8 (rd l0 x4_1)))) ?hg ?ho ?hn ?hr ?_; (case ho => rfl); (case hg => rfl); (case hn => rfl); (case hr => first | (go_simp; done) | (go_simp; rfl)); intro w12 hw; have hg : wr.grownBy w12 (some go10) := (by rw [hw]; exact HP11.2); have hp_ : Kr.R (Kd.int .u8) 5 w12 w.heap.size (fun _ => True) (.slice (some ⟨go10, 0, none⟩) m3 co_) (x3_1.set (x4_1 : Int).toNat (rd l0 x4_1)) := (by rw [hw]; exact HP11.1); clear HP11; have n0_ := Aside0.mk (hp_); have n1_ := Aside0.mk ((by rw [hw]; exact below_set (HB.out) GB10.out : Below w.heap.size w w12)); clear HO_3; clear HB; have HO_3 := n0_; have HB := n1_; clear n0_ n1_; clear hg hw hp_))
          go_roundg k1
          case measure => omega
          case rel =>
            refine ⟨x4_1 + 1, ?_, ⟨by have := HA.out; omega⟩, ⟨?_⟩, ⟨zb⟩⟩
            · first | (rw [HWW.out]; done) | (simp only [HWW.out]; done) | (simp [HWW.out]; done) | (rw [← HWW.out])
            · have h8_ := Go.Proofs.YtjbpdmkalegacaaW.Mine.wideA_succ l0 x4_1.toNat (by have := c4_.out; have := HA.out; omega)
              have h7_ : ((x4_1.toNat : Nat) : Int) = x4_1 := Int.toNat_of_nonneg HA.out.1
              rw [← HX3.out, h7_, show x4_1.toNat + 1 = (x4_1 + 1).toNat from by have := HA.out; omega] at h8_
              have h9_ := HO_3.out
              rw [h8_] at h9_
              (with_reducible repeat (first | apply Kr.R_alloc | apply Kr.R_drewN | apply Kr.R_drew))
              exact h9_
    · have c4b0 : decide (x4_1 < (l0.length : Int)) = false := decide_eq_false c4
      have c4_ := Aside0.mk c4
      clear c4
      have h0_ := HO_3.out
      rw [HX3.out, show x4_1.toNat = l0.length from by have := c4_.out; have := HA.out; omega, Go.Proofs.YtjbpdmkalegacaaW.Mine.wideA_all] at h0_
      have HO_9 := Aside0.mk h0_
      clear h0_ HO_3
      go_wp2
      go_loopg [5] 3 (fun kq v5 w' => ∃ (x5_2 : Int), v5 = .int .i64 x5_2 ∧ Aside0 ((l0.length : Int) ≤ x5_2 ∧ (kq : Int) + x5_2 = (l0.length : Int) + 3) ∧ Aside0 (Kr.R (Kd.int .u8) 5 w' w.heap.size (fun _ => True) (.slice A_ m3 co_) (Go.Proofs.YtjbpdmkalegacaaW.Mine.wideB l0 x5_2.toNat)) ∧ Aside0 (Below w.heap.size w w'))
      case atStart => exact ⟨(l0.length : Int), zs, ⟨by omega⟩, ⟨by rw [Int.toNat_natCast]; exact (by (with_reducible repeat (first | apply Kr.R_alloc | apply Kr.R_drewN | apply Kr.R_drew)); exact HO_9.out)⟩, ⟨zb⟩⟩
      case round =>
        clear HX3 HLN HA
        obtain ⟨x5_2, rfl, HA, HO_3, HB⟩ := hrel
        obtain ⟨x3_1, hx3_⟩ : ∃ x_ : List Int, x_ = Go.Proofs.YtjbpdmkalegacaaW.Mine.wideB l0 x5_2.toNat := ⟨_, rfl⟩
        rw [← hx3_] at HO_3
        have HLN : Aside0 (x3_1.length = m3) := ⟨by rw [hx3_, HM3.out, Go.Proofs.YtjbpdmkalegacaaW.Mine.wideB_length] <;> (have := HA.out; omega)⟩
        have HX3 := Aside0.mk hx3_
        clear hx3_
        by_cases c5 : x5_2 < (m3 : Int)
        · have c5b0 : decide (x5_2 < (m3 : Int)) = true := decide_eq_true c5
          clear c4_
          have c4_ := Aside0.mk c5
          clear c5
          cases gk with
          | zero => exact absurd HA.out.2 (by have := c4_.out; have := HM3.out; omega)
          | succ k1 =>
          have hw_ : wrap64 (x5_2 + 1) = x5_2 + 1 := by
            have := HL.out
            have := HA.out
            unfold wrap64
            omega
          have HWW := Aside0.mk hw_
          clear hw_
          have p10 : 0 ≤ x5_2 := by have := HA.out; omega
          obtain ⟨go10, co10, eo10, gb10, gl10, cl10, HG10⟩ := Kr.R_form HO_3.out (by rw [HLN.out, HM3.out]; omega)
          injection eo10 with ea_ en_ ec_
          (first | subst ea_ | (injection ea_ with ea_; subst ea_))
          clear ec_ en_
          have GB10 := Aside0.mk gb10
          clear gb10 gl10 HG10
          obtain ⟨hx10_0, hf10_0⟩ := Kr.R_celln 0 HO_3.out x5_2 p10 (by have h_ := HM3.out; have h2_ := c4_.out; have h3_ := HA.out; omega)
          replace p10 := eq_true p10
          have q10 : (x5_2 < (m3 : Int)) = True := eq_true (by have h_ := HM3.out; have h2_ := c4_.out; have h3_ := HA.out; omega)
          have HP11 := Kr.R_putg HO_3.out x5_2 (7)
          go_wp2_with (first | ((with_reducible refine gate_store (t := 5) (p := 33) rfl ?_); refine store_event (t := 5) (p := 33) (v := ?vo_w33) (w1 := (wr.setCell ⟨go10, (x5_2 : Int).toNat, none⟩ (.int .u8 (7)))) ?hg ?ho ?hn ?hr ?_; (case ho => rfl); (case hg => rfl); (case hn => rfl); (case hr => first | (go_simp; done) | (go_simp; rfl)); intro w12 hw; have hg : wr.grownBy w12 (some go10) := (by rw [hw]; exact HP11.2); have hp_ : Kr.R (Kd.int .u8) 5 w12 w.heap.size (fun _ => True) (.slice (some ⟨go10, 0, none⟩) m3 co_) (x3_1.set (x5_2 : Int).toNat (7)) := (by rw [hw]; exact HP11.1); clear HP11; have n0_ := Aside0.mk (hp_); have n1_ := Aside0.mk ((by rw [hw]; exact below_set (HB.out) GB10.out : Below w.heap.size w w12)); clear HO_3; clear HB; have HO_3 := n0_; have HB := n1_; clear n0_ n1_; clear hg hw hp_))
          go_roundg k1
          case measure => omega
          case rel =>
            refine ⟨x5_2 + 1, ?_, ⟨by have := HA.out; omega⟩, ⟨?_⟩, ⟨zb⟩⟩
            · first | (rw [HWW.out]; done) | (simp only [HWW.out]; done) | (simp [HWW.out]; done) | (rw [← HWW.out])
            · have h8_ := Go.Proofs.YtjbpdmkalegacaaW.Mine.wideB_succ l0 x5_2.toNat (by have := HA.out; omega) (by have := c4_.out; have := HA.out; have := HM3.out; omega)
              rw [← HX3.out, show x5_2.toNat + 1 = (x5_2 + 1).toNat from by have := HA.out; omega] at h8_
              have h9_ := HO_3.out
              rw [h8_] at h9_
              (with_reducible repeat (first | apply Kr.R_alloc | apply Kr.R_drewN | apply Kr.R_drew))
              exact h9_
        · have c5b0 : decide (x5_2 < (m3 : Int)) = false := decide_eq_false c5
          have h0_ := HO_3.out
          rw [HX3.out, show x5_2.toNat = l0.length + 3 from by have := HA.out; have := HM3.out; omega, Go.Proofs.YtjbpdmkalegacaaW.Mine.wideB_all] at h0_
          obtain ⟨i0_, hi0_, _, hsz0_, _⟩ := info_parts info5
          have hcc_ := (Kr.R_reads' h0_).2.1
          have hcut := cut_to (P := Try.prog) 24 5 .i64 Try.underlying24 hi0_ A_ m3 co_ (l0.length : Int) (by omega) (by have := HM3.out; omega) hcc_
          have hr_ := Kr.R_take (m := ((l0.length : Int) : Int).toNat) h0_ (by simp)
          have ht_ : (l0 ++ [7, 7, 7]).take ((l0.length : Int) : Int).toNat = l0 := by rw [Int.toNat_natCast, List.take_left]
          rw [ht_] at hr_
          simp only [Int.toNat_natCast] at hcut hr_
          have HO_8 := Aside0.mk hr_
          rw [HM3.out] at h0_
          have HO_7 := Aside0.mk h0_
          clear hr_ h0_ ht_ hi0_ hsz0_ hcc_ c5
          have c6b1 : decide (0 ≤ (l0.length : Int)) = true := decide_eq_true (by omega)
          have c7b1 : decide ((l0.length : Int) ≤ (m3 : Int)) = true := decide_eq_true (by have := HM3.out; omega)
          have c8b1 := eq_true (show (l0.length : Int) ≤ (m3 : Int) by have := HM3.out; omega)
          go_wp2
          go_ret
          refine ⟨_, rfl, by (with_reducible repeat (first | apply Kr.R_alloc | apply Kr.R_drewN | apply Kr.R_drew)); exact HO_8.out, ?_, zb⟩
          show Kr.R (Kd.int .u8) 5 _ _ _ (.slice A_ (l0.length + 3) co_) _
          (with_reducible repeat (first | apply Kr.R_alloc | apply Kr.R_drewN | apply Kr.R_drew)); exact HO_7.out
def garderoberef00_Spoil.f (_k : Nat) (l0 : List Int) (a1 : Int) : Option (List Int) := some (l0.map (fun x => (x + a1) % 256))
set_option maxHeartbeats 8000000 in
set_option maxRecDepth 100000 in
theorem garderoberef00_Spoil.calls (k : Nat) (P0_ : Nat → Prop) (u9000_ : Value) (l0 : List Int) (a1 : Int) (r : List Int) (w0 w : World) (hB : Below w0.heap.size w0 w) (ho0 : Kr.R (Kd.int .u8) 5 w w0.heap.size P0_ u9000_ l0) (h : garderoberef00_Spoil.f k l0 a1 = some r) :
    Calls Try.prog 11 #[u9000_, .int .u8 a1] w fun e w' => e = .returned (.tuple #[]) ∧ Kr.R (Kd.int .u8) 5 w' w0.heap.size (fun k_ => (P0_ k_ ∨ w.heap.size ≤ k_)) u9000_ r ∧ Below w0.heap.size w0 w' ∧ Kept w w' (fun k_ => P0_ k_) := by
  have HO0 := Aside0.mk (show Kr.R (Kd.int .u8) 5 w w0.heap.size (fun k_ => (P0_ k_ ∨ w.heap.size ≤ k_)) u9000_ l0 from Kr.R_mono ho0 (fun k_ hk => (.inl hk)))
  have HK := Aside0.mk (Kept.refl w (fun k_ => P0_ k_))
  have HW0 := Aside0.mk hB.size
  have HB := Aside0.mk hB
  clear hB ho0
  obtain rfl := Option.some.inj h
  clear h
  obtain ⟨Ao3, co3, eo3⟩ := Kr.R_slice HO0.out
  subst eo3
  have hnc := (Kr.R_reads' HO0.out).2.1
  obtain ⟨L, hLl, hLt, hL⟩ := Kr.R_whole HO0.out
  have hmax : co3 ≤ 9223372036854775807 := by
    have h1_ := Kd.C_max (Kr.R_reads' hL).2.2
    omega
  obtain ⟨i0_, hi0, _, hsz0, _⟩ := info_parts info5
  have hcut : ∀ W : World, (Instr.slice 24 (.slice Ao3 l0.length co3) none (some (.int .i64 co3)) (some (.int .i64 co3))).run Try.prog W = .ok (.slice Ao3 co3 co3) W := fun W => Go.Proofs.YtjbpdmkalegacaaW.Mine.whole3_of 24 5 .i64 .i64 Try.underlying24 hi0 hsz0 Ao3 l0.length co3 W
  clear hi0 hsz0
  have HL0 := Aside0.mk hL
  have HLl := Aside0.mk hLl
  have HLt := Aside0.mk hLt
  have HNC := Aside0.mk hnc
  have HMX := Aside0.mk hmax
  clear hL hLl hLt hnc hmax HO0
  go_enter Try.func11, Try.ntmps11
  go_wp2
  go_loopg [5] co3 (fun kq v5 w' => ∃ (x5_1 : Int), v5 = .int .i64 x5_1 ∧ Aside0 (0 ≤ x5_1 ∧ (kq : Int) + x5_1 = co3) ∧ Aside0 (Kr.R (Kd.int .u8) 5 w' w0.heap.size (fun k_ => (P0_ k_ ∨ w.heap.size ≤ k_)) (.slice Ao3 co3 co3) (Go.Proofs.YtjbpdmkalegacaaW.Mine.spoilt a1 L x5_1.toNat)) ∧ Aside0 (Kept w w' (fun k_ => P0_ k_)) ∧ Aside0 (Below w0.heap.size w0 w'))
  case atStart => exact ⟨0, rfl, ⟨by omega⟩, ⟨by rw [Int.toNat_zero, Go.Proofs.YtjbpdmkalegacaaW.Mine.spoilt_zero]; exact (by (with_reducible repeat (first | apply Kr.R_alloc | apply Kr.R_drewN | apply Kr.R_drew)); exact HL0.out)⟩, ⟨by repeat (first | (with_reducible first | exact HK.out | apply Kept.alloc | apply Kept.drewN | apply Kept.drew) | exact HK.out)⟩, ⟨zb⟩⟩
  case round =>
    obtain ⟨x5_1, rfl, HA, HO_0, HK, HB⟩ := hrel
    obtain ⟨x0_1, hx0_⟩ : ∃ x_ : List Int, x_ = Go.Proofs.YtjbpdmkalegacaaW.Mine.spoilt a1 L x5_1.toNat := ⟨_, rfl⟩
    rw [← hx0_] at HO_0
    have hlen_ : x0_1.length = co3 := by rw [hx0_, Go.Proofs.YtjbpdmkalegacaaW.Mine.spoilt_length]; exact HLl.out
    have HX0 := Aside0.mk hx0_
    have HLN := Aside0.mk hlen_
    clear hx0_ hlen_
    by_cases c4 : x5_1 < (co3 : Int)
    · have c4b0 : decide (x5_1 < (co3 : Int)) = true := decide_eq_true c4
      cases gk with
      | zero => exact absurd HA.out.2 (by omega)
      | succ k1 =>
        have hw_ : wrap64 (x5_1 + 1) = x5_1 + 1 := by
          have := HMX.out
          have := HA.out
          unfold wrap64
          omega
        have HWW := Aside0.mk hw_
        clear hw_
        have p173 : 0 ≤ x5_1 := HA.out.1
        have q173 : x5_1 < (x0_1.length : Int) := by rw [HLN.out]; exact c4
        obtain ⟨ad173, e173, hx173_0⟩ := Kd.at_int (Kr.R_reads' HO_0.out).2.2 x5_1 p173 q173
        cases e173
        clear q173
        have c4_ := Aside0.mk c4
        clear c4
        obtain ⟨go6, co6, eo6, gb6, gl6, cl6, HG6⟩ := Kr.R_form HO_0.out (by rw [HLN.out]; have := c4_.out; have := HA.out; omega)
        injection eo6 with ea_ en_ ec_
        (first | subst ea_ | (injection ea_ with ea_; subst ea_))
        clear ec_ en_
        have GB6 := Aside0.mk gb6
        clear gb6 gl6 HG6
        (first | simp only [add_plain] at hx173_0 | skip)
        obtain ⟨hx6_0, hf6_0⟩ := Kr.R_celln 0 HO_0.out x5_1 p173 c4_.out
        replace p173 := eq_true p173
        have q6 := eq_true c4_.out
        have HP7 := Kr.R_putg HO_0.out x5_1 (((rd x0_1 x5_1) + a1) % 256)
        go_wp2_with (first | ((with_reducible refine gate_store (t := 5) (p := 26) rfl ?_); refine store_event (t := 5) (p := 26) (v := ?vo_w8) (w1 := (wr.setCell ⟨go6, x5_1.toNat, none⟩ (.int .u8 (((rd x0_1 x5_1) + a1) % 256)))) ?hg ?ho ?hn ?hr ?_; (case ho => rfl); (case hg => rfl); (case hn => rfl); (case hr => first | (go_simp; done) | (go_simp; rfl)); intro w8 hw; have hg : wr.grownBy w8 (some go6) := (by rw [hw]; exact HP7.2); have hp_ : Kr.R (Kd.int .u8) 5 w8 w0.heap.size (fun k_ => (P0_ k_ ∨ w.heap.size ≤ k_)) (.slice (some ⟨go6, 0, none⟩) co3 co3) (x0_1.set x5_1.toNat (((rd x0_1 x5_1) + a1) % 256)) := (by rw [hw]; exact HP7.1); clear HP7; have n0_ := Aside0.mk (hp_); have n1_ := Aside0.mk ((by rw [hw]; exact below_set (HB.out) GB6.out : Below w0.heap.size w0 w8)); have n2_ := Aside0.mk (Kept.of_grown (S := (fun k_ => P0_ k_)) hg (by repeat (first | (with_reducible first | exact HK.out | apply Kept.alloc | apply Kept.drewN | apply Kept.drew) | exact HK.out)) (fun k_ e_ => (HO_0.out.1.1 k_ e_))); clear HO_0; clear HB; clear HK; have HO_0 := n0_; have HB := n1_; have HK := n2_; clear n0_ n1_ n2_; clear hg hw hp_))
        go_roundg k1
        case measure => omega
        case rel =>
          refine ⟨x5_1 + 1, ?_, ⟨by have := HA.out; omega⟩, ⟨?_⟩, ⟨by repeat (first | (with_reducible first | exact HK.out | apply Kept.alloc | apply Kept.drewN | apply Kept.drew) | exact HK.out)⟩, ⟨zb⟩⟩
          · first | (rw [HWW.out]; done) | (simp only [HWW.out]; done) | (simp [HWW.out]; done) | (rw [← HWW.out])
          · have h8_ := Go.Proofs.YtjbpdmkalegacaaW.Mine.spoilt_succ a1 L x5_1.toNat (by rw [HLl.out]; have := c4_.out; have := HA.out; omega)
            have h7_ : ((x5_1.toNat : Nat) : Int) = x5_1 := Int.toNat_of_nonneg HA.out.1
            rw [← HX0.out, h7_, show x5_1.toNat + 1 = (x5_1 + 1).toNat from by have := HA.out; omega] at h8_
            have h9_ := HO_0.out
            rw [h8_] at h9_
            (with_reducible repeat (first | apply Kr.R_alloc | apply Kr.R_drewN | apply Kr.R_drew))
            exact h9_
    · have c4b0 : decide (x5_1 < (co3 : Int)) = false := decide_eq_false c4
      have c4_ := Aside0.mk c4
      clear c4
      go_wp2
      first | go_end0 | ((try simp only [Exit.inBlock, Exit.then]); refine bodyPost_ret (results_none rfl _ _ _) rfl ?_)
      have h9_ := Kr.R_short HO_0.out HNC.out
      rw [HX0.out, Go.Proofs.YtjbpdmkalegacaaW.Mine.spoilt_all a1 L x5_1.toNat (by have h1_ := c4_.out; have h2_ := HLl.out; have h3_ := HA.out; omega), ← List.map_take, HLt.out] at h9_
      refine ⟨by first | rfl | (simp; done) | (simp [*]; done), ?_, zb, by repeat (first | (with_reducible first | exact HK.out | apply Kept.alloc | apply Kept.drewN | apply Kept.drew) | exact HK.out)⟩
      (with_reducible repeat (first | apply Kr.R_alloc | apply Kr.R_drewN | apply Kr.R_drew))
      exact h9_
def garderoberef08_IsIface.f (a0_0 : Int) (a0_1 : Int) (l0_2 : List (S41)) (l0_3 : List (S44)) (l0_4 : List Int) (l0_5 : List (S66)) : Option (Bool) := some ((Int.tmod a0_0 2) == 1)
set_option maxHeartbeats 8000000 in
set_option maxRecDepth 100000 in
theorem garderoberef08_IsIface.calls (a0_0 : Int) (a0_1 : Int) (A0_2 : Option Addr) (c0_2 : Nat) (l0_2 : List (S41)) (A0_3 : Option Addr) (c0_3 : Nat) (l0_3 : List (S44)) (A0_4 : Option Addr) (c0_4 : Nat) (l0_4 : List Int) (A0_5 : Option Addr) (c0_5 : Nat) (l0_5 : List (S66)) (r : Bool) (w : World) (hr0_2 : Kd.C k41 w A0_2 l0_2.length l0_2) (hc0_2 : l0_2.length ≤ c0_2) (hr0_3 : Kd.C k44 w A0_3 l0_3.length l0_3) (hc0_3 : l0_3.length ≤ c0_3) (hr0_4 : Kd.C (Kd.int .u16) w A0_4 l0_4.length l0_4) (hc0_4 : l0_4.length ≤ c0_4) (hr0_5 : Kd.C k66 w A0_5 l0_5.length l0_5) (hc0_5 : l0_5.length ≤ c0_5) (h : garderoberef08_IsIface.f a0_0 a0_1 l0_2 l0_3 l0_4 l0_5 = some r) :
    Calls Try.prog 33 #[.agg #[.int .u8 a0_0, .int .u16 a0_1, .slice A0_2 l0_2.length c0_2, .slice A0_3 l0_3.length c0_3, .slice A0_4 l0_4.length c0_4, .slice A0_5 l0_5.length c0_5]] w fun e w' => e = .returned (.bool r) ∧ Below w.heap.size w w' := by
  have hu38 := Try.underlying38
  have HR0_2 := Aside0.mk hr0_2
  have HC0_2 := Aside0.mk hc0_2
  clear hr0_2 hc0_2
  have HR0_3 := Aside0.mk hr0_3
  have HC0_3 := Aside0.mk hc0_3
  clear hr0_3 hc0_3
  have HR0_4 := Aside0.mk hr0_4
  have HC0_4 := Aside0.mk hc0_4
  clear hr0_4 hc0_4
  have HR0_5 := Aside0.mk hr0_5
  have HC0_5 := Aside0.mk hc0_5
  clear hr0_5 hc0_5
  have HB := Aside0.mk (Below.refl w.heap.size w)
  have H : (some ((Int.tmod a0_0 2) == 1)) = some r := h
  clear h
  obtain rfl := Option.some.inj H
  go_enter Try.func33, Try.ntmps33
  go_wp2_with (first | ((with_reducible refine gate_dst (N := 1) rfl ?_); refine zbox (N := 1) (cs := #[.int .u8 a0_0, .int .u16 a0_1, .slice A0_2 l0_2.length c0_2, .slice A0_3 l0_3.length c0_3, .slice A0_4 l0_4.length c0_4, .slice A0_5 l0_5.length c0_5]) (t := 38) ?_; intro gb291 hg w2 hbox hb; have n0_ := Aside0.mk (below_step (zb) hb); have n1_ := Aside0.mk (hbox); have n2_ := Aside0.mk ((by rw [hg]; exact (below_size (zb)) : w.heap.size ≤ gb291)); have n3_ := Aside0.mk ((by rw [hg]; exact (below_size (zb)) : w.heap.size ≤ gb291)); clear HB; have HB := n0_; have BK291 := n1_; have GW291 := n2_; have GE291 := n3_; clear n0_ n1_ n2_ n3_; clear hb hbox hg; obtain ⟨hcz3_0, hcz3_1, hcz3_2, hcz3_3, hcz3_4, hcz3_5⟩ := cells6 BK291.out; obtain ⟨hfz3_0, hfz3_1, hfz3_2, hfz3_3, hfz3_4, hfz3_5⟩ := froz6 BK291.out))
  go_ret
  exact ⟨ze, zb⟩
def garderoberef04_classed.f (a0 : Int) : Option (Bool) := if a0 = 4 then (some true) else (some (a0 == 8))
set_option maxHeartbeats 8000000 in
set_option maxRecDepth 100000 in
theorem garderoberef04_classed.calls (a0 : Int) (r : Bool) (w : World) (h : garderoberef04_classed.f a0 = some r) :
    Calls Try.prog 61 #[.int .u8 a0] w fun e w' => e = .returned (.bool r) ∧ Drawn0 w w' := by
  have H : (if a0 = 4 then (some true) else (some (a0 == 8))) = some r := h
  clear h
  by_cases c2 : a0 = 4
  · rw [if_pos c2] at H
    have c2b0 : (a0 == 4) = true := beq_iff_eq.mpr c2
    have c2b1 : (a0 != 4) = false := bne_eq_false_iff_eq.mpr c2
    clear c2
    obtain rfl := Option.some.inj H
    go_enter Try.func61, Try.ntmps61
    go_wp2
    go_ret
    exact ⟨by first | rfl | (simp; done) | (simp [*]; done), by repeat (first | exact Drawn0.refl _ | apply Drawn0.step)⟩
  · rw [if_neg c2] at H
    have c2b0 : (a0 == 4) = false := beq_eq_false_iff_ne.mpr c2
    have c2b1 : (a0 != 4) = true := bne_iff_ne.mpr c2
    obtain rfl := Option.some.inj H
    go_enter Try.func61, Try.ntmps61
    go_wp2
    go_ret
    exact ⟨by first | rfl | (simp; done) | (simp [*]; done), by repeat (first | exact Drawn0.refl _ | apply Drawn0.step)⟩
def garderoberef04_May.f (a0_0 : Int) (a0_1 : Int) : Option (Bool) := if a0_0 ≥ 1 then (if a0_0 ≤ 8 then ((garderoberef04_classed.f a0_0).bind fun t293 => (if t293 = true then (some true) else (some (a0_1 == 0)))) else (some false)) else (some false)
set_option maxHeartbeats 8000000 in
set_option maxRecDepth 100000 in
theorem garderoberef04_May.calls (a0_0 : Int) (a0_1 : Int) (r : Bool) (w : World) (h : garderoberef04_May.f a0_0 a0_1 = some r) :
    Calls Try.prog 35 #[.agg #[.int .u8 a0_0, .int .u16 a0_1]] w fun e w' => e = .returned (.bool r) ∧ Below w.heap.size w w' := by
  have hu44 := Try.underlying44
  have HB := Aside0.mk (Below.refl w.heap.size w)
  have H : (if a0_0 ≥ 1 then (if a0_0 ≤ 8 then ((garderoberef04_classed.f a0_0).bind fun t293 => (if t293 = true then (some true) else (some (a0_1 == 0)))) else (some false)) else (some false)) = some r := h
  clear h
  by_cases c2 : a0_0 ≥ 1
  · rw [if_pos c2] at H
    have c2b0 : decide (1 ≤ a0_0) = true := decide_eq_true c2
    clear c2
    by_cases c3 : a0_0 ≤ 8
    · rw [if_pos c3] at H
      have c3b0 : decide (a0_0 ≤ 8) = true := decide_eq_true c3
      clear c3
      replace H := Option.bind_eq_some_iff.mp H
      obtain ⟨t293, A40, H⟩ := H
      replace H : (if t293 = true then (some true) else (some (a0_1 == 0))) = some r := H
      have A4 := Aside0.mk A40
      clear A40
      by_cases c5 : t293 = true
      · subst c5
        have H1 : (some true) = some r := by rw [if_pos rfl] at H; exact H
        clear H
        have H := H1
        clear H1
        obtain rfl := Option.some.inj H
        go_enter Try.func35, Try.ntmps35
        go_wp2_with (first | ((with_reducible refine gate_dst (N := 1) rfl ?_); refine zbox (N := 1) (cs := #[.int .u8 a0_0, .int .u16 a0_1]) (t := 44) ?_; intro gb292 hg w6 hbox hb; have n0_ := Aside0.mk (below_step (zb) hb); have n1_ := Aside0.mk (hbox); have n2_ := Aside0.mk ((by rw [hg]; exact (below_size (zb)) : w.heap.size ≤ gb292)); have n3_ := Aside0.mk ((by rw [hg]; exact (below_size (zb)) : w.heap.size ≤ gb292)); clear HB; have HB := n0_; have BK292 := n1_; have GW292 := n2_; have GE292 := n3_; clear n0_ n1_ n2_ n3_; clear hb hbox hg; obtain ⟨hcz7_0, hcz7_1⟩ := cells2 BK292.out; obtain ⟨hfz7_0, hfz7_1⟩ := froz2 BK292.out) | (go_at_call 61; (with_reducible refine (garderoberef04_classed.calls a0_0 true _ A4.out).mono ?_); rintro e w' ⟨rfl, ⟨nd, rfl⟩⟩))
        go_ret
        exact ⟨ze, zb⟩
      · replace c5 := Bool.eq_false_iff.mpr c5
        subst c5
        have H1 : (some (a0_1 == 0)) = some r := by rw [if_neg (show ¬ (false = true) by decide)] at H; exact H
        clear H
        have H := H1
        clear H1
        obtain rfl := Option.some.inj H
        go_enter Try.func35, Try.ntmps35
        go_wp2_with (first | ((with_reducible refine gate_dst (N := 1) rfl ?_); refine zbox (N := 1) (cs := #[.int .u8 a0_0, .int .u16 a0_1]) (t := 44) ?_; intro gb292 hg w8 hbox hb; have n0_ := Aside0.mk (below_step (zb) hb); have n1_ := Aside0.mk (hbox); have n2_ := Aside0.mk ((by rw [hg]; exact (below_size (zb)) : w.heap.size ≤ gb292)); have n3_ := Aside0.mk ((by rw [hg]; exact (below_size (zb)) : w.heap.size ≤ gb292)); clear HB; have HB := n0_; have BK292 := n1_; have GW292 := n2_; have GE292 := n3_; clear n0_ n1_ n2_ n3_; clear hb hbox hg; obtain ⟨hcz9_0, hcz9_1⟩ := cells2 BK292.out; obtain ⟨hfz9_0, hfz9_1⟩ := froz2 BK292.out) | (go_at_call 61; (with_reducible refine (garderoberef04_classed.calls a0_0 false _ A4.out).mono ?_); rintro e w' ⟨rfl, ⟨nd, rfl⟩⟩))
        go_ret
        exact ⟨ze, zb⟩
    · rw [if_neg c3] at H
      have c3b0 : decide (a0_0 ≤ 8) = false := decide_eq_false c3
      clear c3
      obtain rfl := Option.some.inj H
      go_enter Try.func35, Try.ntmps35
      go_wp2_with (first | ((with_reducible refine gate_dst (N := 1) rfl ?_); refine zbox (N := 1) (cs := #[.int .u8 a0_0, .int .u16 a0_1]) (t := 44) ?_; intro gb292 hg w10 hbox hb; have n0_ := Aside0.mk (below_step (zb) hb); have n1_ := Aside0.mk (hbox); have n2_ := Aside0.mk ((by rw [hg]; exact (below_size (zb)) : w.heap.size ≤ gb292)); have n3_ := Aside0.mk ((by rw [hg]; exact (below_size (zb)) : w.heap.size ≤ gb292)); clear HB; have HB := n0_; have BK292 := n1_; have GW292 := n2_; have GE292 := n3_; clear n0_ n1_ n2_ n3_; clear hb hbox hg; obtain ⟨hcz11_0, hcz11_1⟩ := cells2 BK292.out; obtain ⟨hfz11_0, hfz11_1⟩ := froz2 BK292.out))
      go_ret
      exact ⟨ze, zb⟩
  · rw [if_neg c2] at H
    have c2b0 : decide (1 ≤ a0_0) = false := decide_eq_false c2
    clear c2
    obtain rfl := Option.some.inj H
    go_enter Try.func35, Try.ntmps35
    go_wp2_with (first | ((with_reducible refine gate_dst (N := 1) rfl ?_); refine zbox (N := 1) (cs := #[.int .u8 a0_0, .int .u16 a0_1]) (t := 44) ?_; intro gb292 hg w12 hbox hb; have n0_ := Aside0.mk (below_step (zb) hb); have n1_ := Aside0.mk (hbox); have n2_ := Aside0.mk ((by rw [hg]; exact (below_size (zb)) : w.heap.size ≤ gb292)); have n3_ := Aside0.mk ((by rw [hg]; exact (below_size (zb)) : w.heap.size ≤ gb292)); clear HB; have HB := n0_; have BK292 := n1_; have GW292 := n2_; have GE292 := n3_; clear n0_ n1_ n2_ n3_; clear hb hbox hg; obtain ⟨hcz13_0, hcz13_1⟩ := cells2 BK292.out; obtain ⟨hfz13_0, hfz13_1⟩ := froz2 BK292.out))
    go_ret
    exact ⟨ze, zb⟩
end Go.Proofs.Ytjbpdmkalegacaa.PClassFresh
