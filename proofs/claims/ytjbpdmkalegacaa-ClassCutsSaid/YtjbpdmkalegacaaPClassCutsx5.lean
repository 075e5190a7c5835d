-- laid by fake.py, a program of this session's, over the kit's print
import Derived.Test.YtjbpdmkalegacaaPClassCutsx0
import Derived.Test.YtjbpdmkalegacaaPClassCutsx3
import Derived.Test.YtjbpdmkalegacaaPClassCutsx4
namespace Go.Proofs.Ytjbpdmkalegacaa.PClassCuts
open Go.RowKit Go.Proofs.YtjbpdmkalegacaaW.PrintWords Go.Proofs.YtjbpdmkalegacaaW.PrintLast Go.Proofs.YtjbpdmkalegacaaW.PrintMore
attribute [local go_sem] Go.Proofs.YtjbpdmkalegacaaW.Mine.isSome_set max2_int min2_int max_two min_two max_three min_three max_four min_four   -- for this text's walks alone
set_option linter.unusedVariables false
set_option linter.unusedSimpArgs false

/-! ### garderobelaw08_works: function 8 -/
def garderobelaw08_works.f (k : Nat)  : Option (Bool) := (class_Get.f k (([1, 1, 0] : List Int))).bind fun bt246 => ((class_Get.f k (([0] : List Int))).bind fun bt253 => ((class_Get.f k (([1, 8, 0, 0, 0, 0, 0] : List Int))).bind fun bt260 => ((class_Get.f k (([1, 8] : List Int))).bind fun bt267 => ((class_Put.f (([(⟨1, 0, ([] : List (S41)), ([] : List (S44)), ([] : List Int), ([] : List (S66))⟩ : S38)] : List (S38)))).bind fun bt274 => (if bt246.2 = 0 then (if (bt246.1.length : Int) = 1 then (if 0 < (bt246.1.length : Int) then (if ((rd_T38 bt246.1 0).f0) = 1 then (if ((rd_T38 bt246.1 0).f1) = 65535 then (if bt253.2 = 0 then (if (bt253.1.length : Int) = 0 then (if bt260.2 = 5 then (if bt267.2 = 4 then (some (bt274.2 == 2)) else (none)) else (none)) else (none)) else (none)) else (none)) else (none)) else (none)) else (none)) else (none))))))
theorem garderobelaw08_works.mono : ∀ k, LeO (garderobelaw08_works.f k ) (garderobelaw08_works.f (k + 1) ) := by
  intro  k
  unfold garderobelaw08_works.f
  repeat' first
      | (with_reducible exact class_Get.mono _ _)
      | (with_reducible exact LeO.refl _)
      | (with_reducible exact LeO.none _)
      | (with_reducible refine LeO.ite ?_ ?_)
      | (with_reducible refine LeO.bind ?_ (fun _ => ?_))
      | exact class_Get.mono _ _
      | exact LeO.none _
      | refine LeO.ite ?_ ?_
      | refine LeO.bind ?_ (fun _ => ?_)
set_option maxHeartbeats 8000000 in
set_option maxRecDepth 100000 in
theorem garderobelaw08_works.calls (k : Nat)  (r : Bool) (w : World) (h : garderobelaw08_works.f k  = some r) :
    Calls Try.prog 8 #[] w fun e w' => e = .returned (.bool r) ∧ Below w.heap.size w w' := by
  have hu38 := Try.underlying38
  have HB := Aside0.mk (Below.refl w.heap.size w)
  have H : ((class_Get.f k (([1, 1, 0] : List Int))).bind fun bt246 => ((class_Get.f k (([0] : List Int))).bind fun bt253 => ((class_Get.f k (([1, 8, 0, 0, 0, 0, 0] : List Int))).bind fun bt260 => ((class_Get.f k (([1, 8] : List Int))).bind fun bt267 => ((class_Put.f (([(⟨1, 0, ([] : List (S41)), ([] : List (S44)), ([] : List Int), ([] : List (S66))⟩ : S38)] : List (S38)))).bind fun bt274 => (if bt246.2 = 0 then (if (bt246.1.length : Int) = 1 then (if 0 < (bt246.1.length : Int) then (if ((rd_T38 bt246.1 0).f0) = 1 then (if ((rd_T38 bt246.1 0).f1) = 65535 then (if bt253.2 = 0 then (if (bt253.1.length : Int) = 0 then (if bt260.2 = 5 then (if bt267.2 = 4 then (some (bt274.2 == 2)) else (none)) else (none)) else (none)) else (none)) else (none)) else (none)) else (none)) else (none)) else (none))))))) = some r := h
  clear h
  obtain ⟨y243, hy243⟩ : ∃ y_ : List Int, y_ = (([1, 1, 0] : List Int)) := ⟨_, rfl⟩
  replace H : ((class_Get.f k y243).bind fun bt246 => ((class_Get.f k (([0] : List Int))).bind fun bt253 => ((class_Get.f k (([1, 8, 0, 0, 0, 0, 0] : List Int))).bind fun bt260 => ((class_Get.f k (([1, 8] : List Int))).bind fun bt267 => ((class_Put.f (([(⟨1, 0, ([] : List (S41)), ([] : List (S44)), ([] : List Int), ([] : List (S66))⟩ : S38)] : List (S38)))).bind fun bt274 => (if bt246.2 = 0 then (if (bt246.1.length : Int) = 1 then (if 0 < (bt246.1.length : Int) then (if ((rd_T38 bt246.1 0).f0) = 1 then (if ((rd_T38 bt246.1 0).f1) = 65535 then (if bt253.2 = 0 then (if (bt253.1.length : Int) = 0 then (if bt260.2 = 5 then (if bt267.2 = 4 then (some (bt274.2 == 2)) else (none)) else (none)) else (none)) else (none)) else (none)) else (none)) else (none)) else (none)) else (none))))))) = some r := by first | (rw [hy243]; with_reducible exact H) | (have H2_ := (Option.bind_some _ _).symm.trans H; rw [hy243]; with_reducible exact H2_) | (have H2_ := (Option.bind_some _ _).symm.trans H; with_reducible exact H2_) | with_reducible exact H | (rw [hy243]; exact H) | exact H
  have Ny243 := Aside0.mk hy243
  clear hy243
  replace H := Option.bind_eq_some_iff.mp H
  obtain ⟨⟨t246, t247⟩, A10, H⟩ := H
  replace H : ((class_Get.f k (([0] : List Int))).bind fun bt253 => ((class_Get.f k (([1, 8, 0, 0, 0, 0, 0] : List Int))).bind fun bt260 => ((class_Get.f k (([1, 8] : List Int))).bind fun bt267 => ((class_Put.f (([(⟨1, 0, ([] : List (S41)), ([] : List (S44)), ([] : List Int), ([] : List (S66))⟩ : S38)] : List (S38)))).bind fun bt274 => (if t247 = 0 then (if (t246.length : Int) = 1 then (if 0 < (t246.length : Int) then (if ((rd_T38 t246 0).f0) = 1 then (if ((rd_T38 t246 0).f1) = 65535 then (if bt253.2 = 0 then (if (bt253.1.length : Int) = 0 then (if bt260.2 = 5 then (if bt267.2 = 4 then (some (bt274.2 == 2)) else (none)) else (none)) else (none)) else (none)) else (none)) else (none)) else (none)) else (none)) else (none)))))) = some r := H
  have A1 := Aside0.mk A10
  clear A10
  obtain ⟨y250, hy250⟩ : ∃ y_ : List Int, y_ = (([0] : List Int)) := ⟨_, rfl⟩
  replace H : ((class_Get.f k y250).bind fun bt253 => ((class_Get.f k (([1, 8, 0, 0, 0, 0, 0] : List Int))).bind fun bt260 => ((class_Get.f k (([1, 8] : List Int))).bind fun bt267 => ((class_Put.f (([(⟨1, 0, ([] : List (S41)), ([] : List (S44)), ([] : List Int), ([] : List (S66))⟩ : S38)] : List (S38)))).bind fun bt274 => (if t247 = 0 then (if (t246.length : Int) = 1 then (if 0 < (t246.length : Int) then (if ((rd_T38 t246 0).f0) = 1 then (if ((rd_T38 t246 0).f1) = 65535 then (if bt253.2 = 0 then (if (bt253.1.length : Int) = 0 then (if bt260.2 = 5 then (if bt267.2 = 4 then (some (bt274.2 == 2)) else (none)) else (none)) else (none)) else (none)) else (none)) else (none)) else (none)) else (none)) else (none)))))) = some r := by first | (rw [hy250]; with_reducible exact H) | (have H2_ := (Option.bind_some _ _).symm.trans H; rw [hy250]; with_reducible exact H2_) | (have H2_ := (Option.bind_some _ _).symm.trans H; with_reducible exact H2_) | with_reducible exact H | (rw [hy250]; exact H) | exact H
  have Ny250 := Aside0.mk hy250
  clear hy250
  replace H := Option.bind_eq_some_iff.mp H
  obtain ⟨⟨t253, t254⟩, A20, H⟩ := H
  replace H : ((class_Get.f k (([1, 8, 0, 0, 0, 0, 0] : List Int))).bind fun bt260 => ((class_Get.f k (([1, 8] : List Int))).bind fun bt267 => ((class_Put.f (([(⟨1, 0, ([] : List (S41)), ([] : List (S44)), ([] : List Int), ([] : List (S66))⟩ : S38)] : List (S38)))).bind fun bt274 => (if t247 = 0 then (if (t246.length : Int) = 1 then (if 0 < (t246.length : Int) then (if ((rd_T38 t246 0).f0) = 1 then (if ((rd_T38 t246 0).f1) = 65535 then (if t254 = 0 then (if (t253.length : Int) = 0 then (if bt260.2 = 5 then (if bt267.2 = 4 then (some (bt274.2 == 2)) else (none)) else (none)) else (none)) else (none)) else (none)) else (none)) else (none)) else (none)) else (none))))) = some r := H
  have A2 := Aside0.mk A20
  clear A20
  obtain ⟨y257, hy257⟩ : ∃ y_ : List Int, y_ = (([1, 8, 0, 0, 0, 0, 0] : List Int)) := ⟨_, rfl⟩
  replace H : ((class_Get.f k y257).bind fun bt260 => ((class_Get.f k (([1, 8] : List Int))).bind fun bt267 => ((class_Put.f (([(⟨1, 0, ([] : List (S41)), ([] : List (S44)), ([] : List Int), ([] : List (S66))⟩ : S38)] : List (S38)))).bind fun bt274 => (if t247 = 0 then (if (t246.length : Int) = 1 then (if 0 < (t246.length : Int) then (if ((rd_T38 t246 0).f0) = 1 then (if ((rd_T38 t246 0).f1) = 65535 then (if t254 = 0 then (if (t253.length : Int) = 0 then (if bt260.2 = 5 then (if bt267.2 = 4 then (some (bt274.2 == 2)) else (none)) else (none)) else (none)) else (none)) else (none)) else (none)) else (none)) else (none)) else (none))))) = some r := by first | (rw [hy257]; with_reducible exact H) | (have H2_ := (Option.bind_some _ _).symm.trans H; rw [hy257]; with_reducible exact H2_) | (have H2_ := (Option.bind_some _ _).symm.trans H; with_reducible exact H2_) | with_reducible exact H | (rw [hy257]; exact H) | exact H
  have Ny257 := Aside0.mk hy257
  clear hy257
  replace H := Option.bind_eq_some_iff.mp H
  obtain ⟨⟨t260, t261⟩, A30, H⟩ := H
  replace H : ((class_Get.f k (([1, 8] : List Int))).bind fun bt267 => ((class_Put.f (([(⟨1, 0, ([] : List (S41)), ([] : List (S44)), ([] : List Int), ([] : List (S66))⟩ : S38)] : List (S38)))).bind fun bt274 => (if t247 = 0 then (if (t246.length : Int) = 1 then (if 0 < (t246.length : Int) then (if ((rd_T38 t246 0).f0) = 1 then (if ((rd_T38 t246 0).f1) = 65535 then (if t254 = 0 then (if (t253.length : Int) = 0 then (if t261 = 5 then (if bt267.2 = 4 then (some (bt274.2 == 2)) else (none)) else (none)) else (none)) else (none)) else (none)) else (none)) else (none)) else (none)) else (none)))) = some r := H
  have A3 := Aside0.mk A30
  clear A30
  obtain ⟨y264, hy264⟩ : ∃ y_ : List Int, y_ = (([1, 8] : List Int)) := ⟨_, rfl⟩
  replace H : ((class_Get.f k y264).bind fun bt267 => ((class_Put.f (([(⟨1, 0, ([] : List (S41)), ([] : List (S44)), ([] : List Int), ([] : List (S66))⟩ : S38)] : List (S38)))).bind fun bt274 => (if t247 = 0 then (if (t246.length : Int) = 1 then (if 0 < (t246.length : Int) then (if ((rd_T38 t246 0).f0) = 1 then (if ((rd_T38 t246 0).f1) = 65535 then (if t254 = 0 then (if (t253.length : Int) = 0 then (if t261 = 5 then (if bt267.2 = 4 then (some (bt274.2 == 2)) else (none)) else (none)) else (none)) else (none)) else (none)) else (none)) else (none)) else (none)) else (none)))) = some r := by first | (rw [hy264]; with_reducible exact H) | (have H2_ := (Option.bind_some _ _).symm.trans H; rw [hy264]; with_reducible exact H2_) | (have H2_ := (Option.bind_some _ _).symm.trans H; with_reducible exact H2_) | with_reducible exact H | (rw [hy264]; exact H) | exact H
  have Ny264 := Aside0.mk hy264
  clear hy264
  replace H := Option.bind_eq_some_iff.mp H
  obtain ⟨⟨t267, t268⟩, A40, H⟩ := H
  replace H : ((class_Put.f (([(⟨1, 0, ([] : List (S41)), ([] : List (S44)), ([] : List Int), ([] : List (S66))⟩ : S38)] : List (S38)))).bind fun bt274 => (if t247 = 0 then (if (t246.length : Int) = 1 then (if 0 < (t246.length : Int) then (if ((rd_T38 t246 0).f0) = 1 then (if ((rd_T38 t246 0).f1) = 65535 then (if t254 = 0 then (if (t253.length : Int) = 0 then (if t261 = 5 then (if t268 = 4 then (some (bt274.2 == 2)) else (none)) else (none)) else (none)) else (none)) else (none)) else (none)) else (none)) else (none)) else (none))) = some r := H
  have A4 := Aside0.mk A40
  clear A40
  obtain ⟨y271, hy271⟩ : ∃ y_ : List (S38), y_ = (([(⟨1, 0, ([] : List (S41)), ([] : List (S44)), ([] : List Int), ([] : List (S66))⟩ : S38)] : List (S38))) := ⟨_, rfl⟩
  replace H : ((class_Put.f y271).bind fun bt274 => (if t247 = 0 then (if (t246.length : Int) = 1 then (if 0 < (t246.length : Int) then (if ((rd_T38 t246 0).f0) = 1 then (if ((rd_T38 t246 0).f1) = 65535 then (if t254 = 0 then (if (t253.length : Int) = 0 then (if t261 = 5 then (if t268 = 4 then (some (bt274.2 == 2)) else (none)) else (none)) else (none)) else (none)) else (none)) else (none)) else (none)) else (none)) else (none))) = some r := by first | (rw [hy271]; with_reducible exact H) | (have H2_ := (Option.bind_some _ _).symm.trans H; rw [hy271]; with_reducible exact H2_) | (have H2_ := (Option.bind_some _ _).symm.trans H; with_reducible exact H2_) | with_reducible exact H | (rw [hy271]; exact H) | exact H
  have Ny271 := Aside0.mk hy271
  clear hy271
  replace H := Option.bind_eq_some_iff.mp H
  obtain ⟨⟨t274, t275⟩, A50, H⟩ := H
  replace H : (if t247 = 0 then (if (t246.length : Int) = 1 then (if 0 < (t246.length : Int) then (if ((rd_T38 t246 0).f0) = 1 then (if ((rd_T38 t246 0).f1) = 65535 then (if t254 = 0 then (if (t253.length : Int) = 0 then (if t261 = 5 then (if t268 = 4 then (some (t275 == 2)) else (none)) else (none)) else (none)) else (none)) else (none)) else (none)) else (none)) else (none)) else (none)) = some r := H
  have A5 := Aside0.mk A50
  clear A50
  by_cases c6 : t247 = 0
  · rw [if_pos c6] at H
    have c6b0 : (t247 == 0) = true := beq_iff_eq.mpr c6
    have c6b1 : (t247 != 0) = false := bne_eq_false_iff_eq.mpr c6
    clear c6
    by_cases c7 : (t246.length : Int) = 1
    · rw [if_pos c7] at H
      have c7b0 : ((t246.length : Int) == 1) = true := beq_iff_eq.mpr c7
      have c7b1 : ((t246.length : Int) != 1) = false := bne_eq_false_iff_eq.mpr c7
      clear c7
      by_cases c8 : 0 < (t246.length : Int)
      · rw [if_pos c8] at H
        have c8b0 : decide (0 < (t246.length : Int)) = true := decide_eq_true c8
        have c8b1 : decide (0 < t246.length) = true := decide_eq_true (by omega)
        clear c8
        by_cases c9 : ((rd_T38 t246 0).f0) = 1
        · rw [if_pos c9] at H
          have c9b0 : (((rd_T38 t246 0).f0) == 1) = true := beq_iff_eq.mpr c9
          have c9b1 : (((rd_T38 t246 0).f0) != 1) = false := bne_eq_false_iff_eq.mpr c9
          clear c9
          by_cases c10 : ((rd_T38 t246 0).f1) = 65535
          · rw [if_pos c10] at H
            have c10b0 : (((rd_T38 t246 0).f1) == 65535) = true := beq_iff_eq.mpr c10
            have c10b1 : (((rd_T38 t246 0).f1) != 65535) = false := bne_eq_false_iff_eq.mpr c10
            clear c10
            by_cases c11 : t254 = 0
            · rw [if_pos c11] at H
              have c11b0 : (t254 == 0) = true := beq_iff_eq.mpr c11
              have c11b1 : (t254 != 0) = false := bne_eq_false_iff_eq.mpr c11
              clear c11
              by_cases c12 : (t253.length : Int) = 0
              · rw [if_pos c12] at H
                have c12b0 : ((t253.length : Int) == 0) = true := beq_iff_eq.mpr c12
                have c12b1 : ((t253.length : Int) != 0) = false := bne_eq_false_iff_eq.mpr c12
                clear c12
                by_cases c13 : t261 = 5
                · rw [if_pos c13] at H
                  have c13b0 : (t261 == 5) = true := beq_iff_eq.mpr c13
                  have c13b1 : (t261 != 5) = false := bne_eq_false_iff_eq.mpr c13
                  clear c13
                  by_cases c14 : t268 = 4
                  · rw [if_pos c14] at H
                    have c14b0 : (t268 == 4) = true := beq_iff_eq.mpr c14
                    have c14b1 : (t268 != 4) = false := bne_eq_false_iff_eq.mpr c14
                    clear c14
                    obtain rfl := Option.some.inj H
                    go_enter Try.func8, Try.ntmps8
                    go_wp2_with (first | ((with_reducible refine gate_dst (N := 12) rfl ?_); (try (refine gate_guard (by rfl) ?_; dsimp only)); refine Kd.R_lit (Kd.int .u8) _ 5 ?hg (N := 12) ?hd (xs := ([1, 1, 0] : List Int)) (inner := [.int .u8 1, .int .u8 1, .int .u8 0]) (ok := fun _ => True) (okp := fun _ => True) ?hr ?hp (fun _ hk => hk) trivial (Below.refl _ _) (Nat.le_refl _) (by simp) ?_; zcases_; (case hp => exact (Reps.one (show Kd.M (Kd.int .u8) _ _ _ 1 [.int .u8 1] from rfl) (Reps.one (show Kd.M (Kd.int .u8) _ _ _ 1 [.int .u8 1] from rfl) (Reps.one (show Kd.M (Kd.int .u8) _ _ _ 0 [.int .u8 0] from rfl) (Reps.none _ _))))); intro v244 w15 ho16 hb hg_ hnew_; clear hg_ hnew_; (first | rw [← Ny243.out] at ho16 | (simp only [Int.reduceToNat] at ho16; rw [← Ny243.out] at ho16)); have n0_ := Aside0.mk (Kd.R_lower ho16 (below_size (by zb_))); have n1_ := Aside0.mk (below_step (by zb_) hb); clear HB; have HO245 := n0_; have HB := n1_; clear n0_ n1_; clear hb ho16; obtain ⟨Ao17, co17, eo17⟩ := Kd.R_slice HO245.out; subst eo17) | ((with_reducible refine gate_callee (f := 9) rfl ?_); refine goesL_ (some 13) rfl rfl Try.func9 (by kernel_rfl) rfl #[.slice Ao17 y243.length co17] rfl (by zargs_) ?_; (with_reducible refine (class_Get.calls k _ _ y243 t246 t247 _ ?side1 ?side2 A1.out).mono ?_); (case side1 => repeat (first | exact (Kd.R_reads' HO245.out).2.2 | (with_reducible refine Kd.C_alloc ?_ _) | (with_reducible refine Kd.C_drewN ?_ _) | (with_reducible refine Kd.C_drew ?_))); (case side2 => exact (Kd.R_reads' HO245.out).2.1); rintro e w18 ⟨v248, rfl, ho0, hb⟩; refine ⟨_, rfl, ?_⟩; have n0_ := Aside0.mk (Kd.R_below (by zrow_; exact HO245.out) hb); have n1_ := Aside0.mk (Kd.R_lower (Kd.R_new' ho0 (Kd.R_lt (by zrow_; exact HO245.out))) (below_size (by zb_))); have n2_ := Aside0.mk (below_step (by zb_) hb); clear HO245; clear HB; have HO245 := n0_; have HO249 := n1_; have HB := n2_; clear n0_ n1_ n2_; zclr_; (try clear ho0)) | ((with_reducible refine gate_dst (N := 17) rfl ?_); (try (refine gate_guard (by rfl) ?_; dsimp only)); refine Kd.R_lit (Kd.int .u8) _ 5 ?hg (N := 17) ?hd (xs := ([0] : List Int)) (inner := [.int .u8 0]) (ok := fun _ => True) (okp := fun _ => True) ?hr ?hp (fun _ hk => hk) trivial (Below.refl _ _) (Nat.le_refl _) (by simp) ?_; zcases_; (case hp => exact (Reps.one (show Kd.M (Kd.int .u8) _ _ _ 0 [.int .u8 0] from rfl) (Reps.none _ _))); intro v251 w19 ho20 hb hg_ hnew_; clear hg_ hnew_; (first | rw [← Ny250.out] at ho20 | (simp only [Int.reduceToNat] at ho20; rw [← Ny250.out] at ho20)); have n0_ := Aside0.mk (Kd.R_elder' (by zrow_; exact HO245.out) (Kd.R_base ho20) hb); have n1_ := Aside0.mk (Kd.R_elder' (by zrow_; exact HO249.out) (Kd.R_base ho20) hb); have n2_ := Aside0.mk (Kd.R_lower (Kd.R_new' ho20 (Kd.R_lt (by zrow_; exact HO245.out))) (below_size (by zb_))); have n3_ := Aside0.mk (below_step (by zb_) hb); clear HO245; clear HO249; clear HB; have HO245 := n0_; have HO249 := n1_; have HO252 := n2_; have HB := n3_; clear n0_ n1_ n2_ n3_; clear hb ho20; obtain ⟨Ao21, co21, eo21⟩ := Kd.R_slice HO252.out; subst eo21) | ((with_reducible refine gate_callee (f := 9) rfl ?_); refine goesL_ (some 18) rfl rfl Try.func9 (by kernel_rfl) rfl #[.slice Ao21 y250.length co21] rfl (by zargs_) ?_; (with_reducible refine (class_Get.calls k _ _ y250 t253 t254 _ ?side1 ?side2 A2.out).mono ?_); (case side1 => repeat (first | exact (Kd.R_reads' HO252.out).2.2 | (with_reducible refine Kd.C_alloc ?_ _) | (with_reducible refine Kd.C_drewN ?_ _) | (with_reducible refine Kd.C_drew ?_))); (case side2 => exact (Kd.R_reads' HO252.out).2.1); rintro e w22 ⟨v255, rfl, ho0, hb⟩; refine ⟨_, rfl, ?_⟩; have n0_ := Aside0.mk (Kd.R_below (by zrow_; exact HO245.out) hb); have n1_ := Aside0.mk (Kd.R_elder' (by zrow_; exact HO249.out) (Kd.R_base ho0) hb); have n2_ := Aside0.mk (Kd.R_below (by zrow_; exact HO252.out) hb); have n3_ := Aside0.mk (Kd.R_lower (Kd.R_new' (Kd.R_new' (Kd.R_new' ho0 (Kd.R_lt (by zrow_; exact HO245.out))) (Kd.R_lt (by zrow_; exact HO249.out))) (Kd.R_lt (by zrow_; exact HO252.out))) (below_size (by zb_))); have n4_ := Aside0.mk (below_step (by zb_) hb); clear HO245; clear HO249; clear HO252; clear HB; have HO245 := n0_; have HO249 := n1_; have HO252 := n2_; have HO256 := n3_; have HB := n4_; clear n0_ n1_ n2_ n3_ n4_; zclr_; (try clear ho0)) | ((with_reducible refine gate_dst (N := 22) rfl ?_); (try (refine gate_guard (by rfl) ?_; dsimp only)); refine Kd.R_lit (Kd.int .u8) _ 5 ?hg (N := 22) ?hd (xs := ([1, 8, 0, 0, 0, 0, 0] : List Int)) (inner := [.int .u8 1, .int .u8 8, .int .u8 0, .int .u8 0, .int .u8 0, .int .u8 0, .int .u8 0]) (ok := fun _ => True) (okp := fun _ => True) ?hr ?hp (fun _ hk => hk) trivial (Below.refl _ _) (Nat.le_refl _) (by simp) ?_; zcases_; (case hp => exact (Reps.one (show Kd.M (Kd.int .u8) _ _ _ 1 [.int .u8 1] from rfl) (Reps.one (show Kd.M (Kd.int .u8) _ _ _ 8 [.int .u8 8] from rfl) (Reps.one (show Kd.M (Kd.int .u8) _ _ _ 0 [.int .u8 0] from rfl) (Reps.one (show Kd.M (Kd.int .u8) _ _ _ 0 [.int .u8 0] from rfl) (Reps.one (show Kd.M (Kd.int .u8) _ _ _ 0 [.int .u8 0] from rfl) (Reps.one (show Kd.M (Kd.int .u8) _ _ _ 0 [.int .u8 0] from rfl) (Reps.one (show Kd.M (Kd.int .u8) _ _ _ 0 [.int .u8 0] from rfl) (Reps.none _ _))))))))); intro v258 w23 ho24 hb hg_ hnew_; clear hg_ hnew_; (first | rw [← Ny257.out] at ho24 | (simp only [Int.reduceToNat] at ho24; rw [← Ny257.out] at ho24)); have n0_ := Aside0.mk (Kd.R_elder' (by zrow_; exact HO245.out) (Kd.R_base ho24) hb); have n1_ := Aside0.mk (Kd.R_elder' (by zrow_; exact HO249.out) (Kd.R_base ho24) hb); have n2_ := Aside0.mk (Kd.R_elder' (by zrow_; exact HO252.out) (Kd.R_base ho24) hb); have n3_ := Aside0.mk (Kd.R_elder' (by zrow_; exact HO256.out) (Kd.R_base ho24) hb); have n4_ := Aside0.mk (Kd.R_lower (Kd.R_new' (Kd.R_new' ho24 (Kd.R_lt (by zrow_; exact HO245.out))) (Kd.R_lt (by zrow_; exact HO252.out))) (below_size (by zb_))); have n5_ := Aside0.mk (below_step (by zb_) hb); clear HO245; clear HO249; clear HO252; clear HO256; clear HB; have HO245 := n0_; have HO249 := n1_; have HO252 := n2_; have HO256 := n3_; have HO259 := n4_; have HB := n5_; clear n0_ n1_ n2_ n3_ n4_ n5_; clear hb ho24; obtain ⟨Ao25, co25, eo25⟩ := Kd.R_slice HO259.out; subst eo25) | ((with_reducible refine gate_callee (f := 9) rfl ?_); refine goesL_ (some 23) rfl rfl Try.func9 (by kernel_rfl) rfl #[.slice Ao25 y257.length co25] rfl (by zargs_) ?_; (with_reducible refine (class_Get.calls k _ _ y257 t260 t261 _ ?side1 ?side2 A3.out).mono ?_); (case side1 => repeat (first | exact (Kd.R_reads' HO259.out).2.2 | (with_reducible refine Kd.C_alloc ?_ _) | (with_reducible refine Kd.C_drewN ?_ _) | (with_reducible refine Kd.C_drew ?_))); (case side2 => exact (Kd.R_reads' HO259.out).2.1); rintro e w26 ⟨v262, rfl, ho0, hb⟩; refine ⟨_, rfl, ?_⟩; have n0_ := Aside0.mk (Kd.R_below (by zrow_; exact HO245.out) hb); have n1_ := Aside0.mk (Kd.R_elder' (by zrow_; exact HO249.out) (Kd.R_base ho0) hb); have n2_ := Aside0.mk (Kd.R_below (by zrow_; exact HO252.out) hb); have n3_ := Aside0.mk (Kd.R_elder' (by zrow_; exact HO256.out) (Kd.R_base ho0) hb); have n4_ := Aside0.mk (Kd.R_below (by zrow_; exact HO259.out) hb); have n5_ := Aside0.mk (Kd.R_lower (Kd.R_new' (Kd.R_new' (Kd.R_new' (Kd.R_new' (Kd.R_new' ho0 (Kd.R_lt (by zrow_; exact HO245.out))) (Kd.R_lt (by zrow_; exact HO249.out))) (Kd.R_lt (by zrow_; exact HO252.out))) (Kd.R_lt (by zrow_; exact HO256.out))) (Kd.R_lt (by zrow_; exact HO259.out))) (below_size (by zb_))); have n6_ := Aside0.mk (below_step (by zb_) hb); clear HO245; clear HO249; clear HO252; clear HO256; clear HO259; clear HB; have HO245 := n0_; have HO249 := n1_; have HO252 := n2_; have HO256 := n3_; have HO259 := n4_; have HO263 := n5_; have HB := n6_; clear n0_ n1_ n2_ n3_ n4_ n5_ n6_; zclr_; (try clear ho0)) | ((with_reducible refine gate_dst (N := 27) rfl ?_); (try (refine gate_guard (by rfl) ?_; dsimp only)); refine Kd.R_lit (Kd.int .u8) _ 5 ?hg (N := 27) ?hd (xs := ([1, 8] : List Int)) (inner := [.int .u8 1, .int .u8 8]) (ok := fun _ => True) (okp := fun _ => True) ?hr ?hp (fun _ hk => hk) trivial (Below.refl _ _) (Nat.le_refl _) (by simp) ?_; zcases_; (case hp => exact (Reps.one (show Kd.M (Kd.int .u8) _ _ _ 1 [.int .u8 1] from rfl) (Reps.one (show Kd.M (Kd.int .u8) _ _ _ 8 [.int .u8 8] from rfl) (Reps.none _ _)))); intro v265 w27 ho28 hb hg_ hnew_; clear hg_ hnew_; (first | rw [← Ny264.out] at ho28 | (simp only [Int.reduceToNat] at ho28; rw [← Ny264.out] at ho28)); have n0_ := Aside0.mk (Kd.R_elder' (by zrow_; exact HO245.out) (Kd.R_base ho28) hb); have n1_ := Aside0.mk (Kd.R_elder' (by zrow_; exact HO249.out) (Kd.R_base ho28) hb); have n2_ := Aside0.mk (Kd.R_elder' (by zrow_; exact HO252.out) (Kd.R_base ho28) hb); have n3_ := Aside0.mk (Kd.R_elder' (by zrow_; exact HO256.out) (Kd.R_base ho28) hb); have n4_ := Aside0.mk (Kd.R_elder' (by zrow_; exact HO259.out) (Kd.R_base ho28) hb); have n5_ := Aside0.mk (Kd.R_elder' (by zrow_; exact HO263.out) (Kd.R_base ho28) hb); have n6_ := Aside0.mk (Kd.R_lower (Kd.R_new' (Kd.R_new' (Kd.R_new' ho28 (Kd.R_lt (by zrow_; exact HO245.out))) (Kd.R_lt (by zrow_; exact HO252.out))) (Kd.R_lt (by zrow_; exact HO259.out))) (below_size (by zb_))); have n7_ := Aside0.mk (below_step (by zb_) hb); clear HO245; clear HO249; clear HO252; clear HO256; clear HO259; clear HO263; clear HB; have HO245 := n0_; have HO249 := n1_; have HO252 := n2_; have HO256 := n3_; have HO259 := n4_; have HO263 := n5_; have HO266 := n6_; have HB := n7_; clear n0_ n1_ n2_ n3_ n4_ n5_ n6_ n7_; clear hb ho28; obtain ⟨Ao29, co29, eo29⟩ := Kd.R_slice HO266.out; subst eo29) | ((with_reducible refine gate_callee (f := 9) rfl ?_); refine goesL_ (some 28) rfl rfl Try.func9 (by kernel_rfl) rfl #[.slice Ao29 y264.length co29] rfl (by zargs_) ?_; (with_reducible refine (class_Get.calls k _ _ y264 t267 t268 _ ?side1 ?side2 A4.out).mono ?_); (case side1 => repeat (first | exact (Kd.R_reads' HO266.out).2.2 | (with_reducible refine Kd.C_alloc ?_ _) | (with_reducible refine Kd.C_drewN ?_ _) | (with_reducible refine Kd.C_drew ?_))); (case side2 => exact (Kd.R_reads' HO266.out).2.1); rintro e w30 ⟨v269, rfl, ho0, hb⟩; refine ⟨_, rfl, ?_⟩; have n0_ := Aside0.mk (Kd.R_below (by zrow_; exact HO245.out) hb); have n1_ := Aside0.mk (Kd.R_elder' (by zrow_; exact HO249.out) (Kd.R_base ho0) hb); have n2_ := Aside0.mk (Kd.R_below (by zrow_; exact HO252.out) hb); have n3_ := Aside0.mk (Kd.R_elder' (by zrow_; exact HO256.out) (Kd.R_base ho0) hb); have n4_ := Aside0.mk (Kd.R_below (by zrow_; exact HO259.out) hb); have n5_ := Aside0.mk (Kd.R_elder' (by zrow_; exact HO263.out) (Kd.R_base ho0) hb); have n6_ := Aside0.mk (Kd.R_below (by zrow_; exact HO266.out) hb); have n7_ := Aside0.mk (Kd.R_lower (Kd.R_new' (Kd.R_new' (Kd.R_new' (Kd.R_new' (Kd.R_new' (Kd.R_new' (Kd.R_new' ho0 (Kd.R_lt (by zrow_; exact HO245.out))) (Kd.R_lt (by zrow_; exact HO249.out))) (Kd.R_lt (by zrow_; exact HO252.out))) (Kd.R_lt (by zrow_; exact HO256.out))) (Kd.R_lt (by zrow_; exact HO259.out))) (Kd.R_lt (by zrow_; exact HO263.out))) (Kd.R_lt (by zrow_; exact HO266.out))) (below_size (by zb_))); have n8_ := Aside0.mk (below_step (by zb_) hb); clear HO245; clear HO249; clear HO252; clear HO256; clear HO259; clear HO263; clear HO266; clear HB; have HO245 := n0_; have HO249 := n1_; have HO252 := n2_; have HO256 := n3_; have HO259 := n4_; have HO263 := n5_; have HO266 := n6_; have HO270 := n7_; have HB := n8_; clear n0_ n1_ n2_ n3_ n4_ n5_ n6_ n7_ n8_; zclr_; (try clear ho0)) | ((with_reducible refine gate_dst (N := 33) rfl ?_); (try (refine gate_guard (by rfl) ?_; dsimp only)); refine Kd.R_lit k38 _ 38 ?hg (N := 33) ?hd (xs := ([(⟨1, 0, ([] : List (S41)), ([] : List (S44)), ([] : List Int), ([] : List (S66))⟩ : S38)] : List (S38))) (inner := [.int .u8 1, .int .u16 0, .slice none 0 0, .slice none 0 0, .slice none 0 0, .slice none 0 0]) (ok := fun _ => True) (okp := fun _ => True) ?hr ?hp (fun _ hk => hk) trivial (Below.refl _ _) (Nat.le_refl _) (by simp) ?_; zcases_; (case hp => exact (Reps.c6 (show Kd.M k38 _ _ _ (⟨1, 0, ([] : List (S41)), ([] : List (S44)), ([] : List Int), ([] : List (S66))⟩ : S38) [.int .u8 1, .int .u16 0, .slice none 0 0, .slice none 0 0, .slice none 0 0, .slice none 0 0] from (k38_mkM _ _ _ (⟨1, 0, ([] : List (S41)), ([] : List (S44)), ([] : List Int), ([] : List (S66))⟩ : S38) (Kd.R_nil _ _ _ _ _) (Kd.R_nil _ _ _ _ _) (Kd.R_nil _ _ _ _ _) (Kd.R_nil _ _ _ _ _))) (Reps.none _ _))); intro v272 w31 ho32 hb hg_ hnew_; clear hg_ hnew_; (first | rw [← Ny271.out] at ho32 | (simp only [Int.reduceToNat] at ho32; rw [← Ny271.out] at ho32)); have n0_ := Aside0.mk (Kd.R_below (by zrow_; exact HO245.out) hb); have n1_ := Aside0.mk (Kd.R_elder' (by zrow_; exact HO249.out) (Kd.R_base ho32) hb); have n2_ := Aside0.mk (Kd.R_below (by zrow_; exact HO252.out) hb); have n3_ := Aside0.mk (Kd.R_elder' (by zrow_; exact HO256.out) (Kd.R_base ho32) hb); have n4_ := Aside0.mk (Kd.R_below (by zrow_; exact HO259.out) hb); have n5_ := Aside0.mk (Kd.R_elder' (by zrow_; exact HO263.out) (Kd.R_base ho32) hb); have n6_ := Aside0.mk (Kd.R_below (by zrow_; exact HO266.out) hb); have n7_ := Aside0.mk (Kd.R_elder' (by zrow_; exact HO270.out) (Kd.R_base ho32) hb); have n8_ := Aside0.mk (Kd.R_lower (Kd.R_new' (Kd.R_new' (Kd.R_new' (Kd.R_new' (Kd.R_new' (Kd.R_new' (Kd.R_new' (Kd.R_new' ho32 (Kd.R_lt (by zrow_; exact HO245.out))) (Kd.R_lt (by zrow_; exact HO249.out))) (Kd.R_lt (by zrow_; exact HO252.out))) (Kd.R_lt (by zrow_; exact HO256.out))) (Kd.R_lt (by zrow_; exact HO259.out))) (Kd.R_lt (by zrow_; exact HO263.out))) (Kd.R_lt (by zrow_; exact HO266.out))) (Kd.R_lt (by zrow_; exact HO270.out))) (below_size (by zb_))); have n9_ := Aside0.mk (below_step (by zb_) hb); clear HO245; clear HO249; clear HO252; clear HO256; clear HO259; clear HO263; clear HO266; clear HO270; clear HB; have HO245 := n0_; have HO249 := n1_; have HO252 := n2_; have HO256 := n3_; have HO259 := n4_; have HO263 := n5_; have HO266 := n6_; have HO270 := n7_; have HO273 := n8_; have HB := n9_; clear n0_ n1_ n2_ n3_ n4_ n5_ n6_ n7_ n8_ n9_; clear hb ho32; obtain ⟨Ao33, co33, eo33⟩ := Kd.R_slice HO273.out; subst eo33) | ((with_reducible refine gate_callee (f := 7) rfl ?_); refine goesL_ (some 34) rfl rfl Try.func7 (by kernel_rfl) rfl #[.slice Ao33 y271.length co33] rfl (by zargs_) ?_; (with_reducible refine (class_Put.calls _ _ y271 t274 t275 _ ?side1 ?side2 A5.out).mono ?_); (case side1 => repeat (first | exact (Kd.R_reads' HO273.out).2.2 | (with_reducible refine Kd.C_alloc ?_ _) | (with_reducible refine Kd.C_drewN ?_ _) | (with_reducible refine Kd.C_drew ?_))); (case side2 => exact (Kd.R_reads' HO273.out).2.1); rintro e w34 ⟨v276, rfl, ho0, hb⟩; refine ⟨_, rfl, ?_⟩; have n0_ := Aside0.mk (Kd.R_elder' (by zrow_; exact HO245.out) (Kd.R_base ho0) hb); have n1_ := Aside0.mk (Kd.R_elder' (by zrow_; exact HO249.out) (Kd.R_base ho0) hb); have n2_ := Aside0.mk (Kd.R_elder' (by zrow_; exact HO252.out) (Kd.R_base ho0) hb); have n3_ := Aside0.mk (Kd.R_elder' (by zrow_; exact HO256.out) (Kd.R_base ho0) hb); have n4_ := Aside0.mk (Kd.R_elder' (by zrow_; exact HO259.out) (Kd.R_base ho0) hb); have n5_ := Aside0.mk (Kd.R_elder' (by zrow_; exact HO263.out) (Kd.R_base ho0) hb); have n6_ := Aside0.mk (Kd.R_elder' (by zrow_; exact HO266.out) (Kd.R_base ho0) hb); have n7_ := Aside0.mk (Kd.R_elder' (by zrow_; exact HO270.out) (Kd.R_base ho0) hb); have n8_ := Aside0.mk (Kd.R_elder' (by zrow_; exact HO273.out) (Kd.R_base ho0) hb); have n9_ := Aside0.mk (Kd.R_lower (Kd.R_new' (Kd.R_new' (Kd.R_new' (Kd.R_new' ho0 (Kd.R_lt (by zrow_; exact HO245.out))) (Kd.R_lt (by zrow_; exact HO252.out))) (Kd.R_lt (by zrow_; exact HO259.out))) (Kd.R_lt (by zrow_; exact HO266.out))) (below_size (by zb_))); have n10_ := Aside0.mk (below_step (by zb_) hb); clear HO245; clear HO249; clear HO252; clear HO256; clear HO259; clear HO263; clear HO266; clear HO270; clear HO273; clear HB; have HO245 := n0_; have HO249 := n1_; have HO252 := n2_; have HO256 := n3_; have HO259 := n4_; have HO263 := n5_; have HO266 := n6_; have HO270 := n7_; have HO273 := n8_; have HO277 := n9_; have HB := n10_; clear n0_ n1_ n2_ n3_ n4_ n5_ n6_ n7_ n8_ n9_ n10_; zclr_; (try clear ho0); obtain ⟨Ao35, co35, eo35⟩ := Kd.R_slice HO249.out; subst eo35; have p278 : 0 ≤ (0 : Int) := (by omega); have q278 : 0 < (t246.length : Int) := of_decide_eq_true (by first | (with_reducible assumption) | assumption); obtain ⟨ad278, A278_2, c278_2, A278_3, c278_3, A278_4, c278_4, A278_5, c278_5, e278, hx278_0, hx278_1, hx278_2, hx278_3, hx278_4, hx278_5, hl278_2, hi278_2, hl278_3, hi278_3, hl278_4, hi278_4, hl278_5, hi278_5⟩ := at_T38 (Kd.R_reads' HO249.out).2.2 0 p278 q278; cases e278; obtain ⟨ce278, hce278, hMe278, hcc278⟩ := Kd.R_get HO249.out z38 0 p278 (by first | exact q278 | exact of_decide_eq_true (by first | (with_reducible assumption) | assumption) | (have e_ := (Kd.R_reads' HO249.out).1; omega)); obtain ⟨ve278_2, ve278_3, ve278_4, ve278_5, rfl, ge278_2, ge278_3, ge278_4, ge278_5⟩ := k38_openM hMe278; have hv278_2 := hcc278 2 _ rfl; rw [add_field _ _ 2 (by omega)] at hv278_2; replace hv278_2 := Option.some.inj (hv278_2.symm.trans hx278_2); rw [hv278_2] at ge278_2; have HL278_2 := Aside0.mk (show Kd.R k41 41 _ _ _ _ ((rd_T38 t246 0).f2) from ge278_2); clear hv278_2 ge278_2; have hv278_3 := hcc278 3 _ rfl; rw [add_field _ _ 3 (by omega)] at hv278_3; replace hv278_3 := Option.some.inj (hv278_3.symm.trans hx278_3); rw [hv278_3] at ge278_3; have HL278_3 := Aside0.mk (show Kd.R k44 44 _ _ _ _ ((rd_T38 t246 0).f3) from ge278_3); clear hv278_3 ge278_3; have hv278_4 := hcc278 4 _ rfl; rw [add_field _ _ 4 (by omega)] at hv278_4; replace hv278_4 := Option.some.inj (hv278_4.symm.trans hx278_4); rw [hv278_4] at ge278_4; have HL278_4 := Aside0.mk (show Kd.R (Kd.int .u16) 23 _ _ _ _ ((rd_T38 t246 0).f4) from ge278_4); clear hv278_4 ge278_4; have hv278_5 := hcc278 5 _ rfl; rw [add_field _ _ 5 (by omega)] at hv278_5; replace hv278_5 := Option.some.inj (hv278_5.symm.trans hx278_5); rw [hv278_5] at ge278_5; have HL278_5 := Aside0.mk (show Kd.R k66 66 _ _ _ _ ((rd_T38 t246 0).f5) from ge278_5); clear hv278_5 ge278_5; clear hcc278 hce278; have qi278 : (0 < t246.length) = True := eq_true (by omega); (try rw [show ((0 : Int)).toNat = 0 from rfl] at hx278_0); (try rw [show 0 * 6 = 0 from rfl] at hx278_0); (try rw [Addr.add_zero'] at hx278_0); (try rw [show ((0 : Int)).toNat = 0 from rfl] at hx278_1); (try rw [show 0 * 6 = 0 from rfl] at hx278_1); (try rw [Addr.add_zero'] at hx278_1); (try rw [show ((0 : Int)).toNat = 0 from rfl] at hx278_2); (try rw [show 0 * 6 = 0 from rfl] at hx278_2); (try rw [Addr.add_zero'] at hx278_2); (try rw [show ((0 : Int)).toNat = 0 from rfl] at hx278_3); (try rw [show 0 * 6 = 0 from rfl] at hx278_3); (try rw [Addr.add_zero'] at hx278_3); (try rw [show ((0 : Int)).toNat = 0 from rfl] at hx278_4); (try rw [show 0 * 6 = 0 from rfl] at hx278_4); (try rw [Addr.add_zero'] at hx278_4); (try rw [show ((0 : Int)).toNat = 0 from rfl] at hx278_5); (try rw [show 0 * 6 = 0 from rfl] at hx278_5); (try rw [Addr.add_zero'] at hx278_5); have HR278_2 := Aside0.mk hi278_2; have HC278_2 := Aside0.mk hl278_2; clear hi278_2 hl278_2; have HR278_3 := Aside0.mk hi278_3; have HC278_3 := Aside0.mk hl278_3; clear hi278_3 hl278_3; have HR278_4 := Aside0.mk hi278_4; have HC278_4 := Aside0.mk hl278_4; clear hi278_4 hl278_4; have HR278_5 := Aside0.mk hi278_5; have HC278_5 := Aside0.mk hl278_5; clear hi278_5 hl278_5; replace p278 := eq_true p278; replace q278 := eq_true q278; have p279 : 0 ≤ (0 : Int) := (by omega); have q279 : 0 < (t246.length : Int) := of_decide_eq_true (by first | (with_reducible assumption) | assumption); obtain ⟨ad279, A279_2, c279_2, A279_3, c279_3, A279_4, c279_4, A279_5, c279_5, e279, hx279_0, hx279_1, hx279_2, hx279_3, hx279_4, hx279_5, hl279_2, hi279_2, hl279_3, hi279_3, hl279_4, hi279_4, hl279_5, hi279_5⟩ := at_T38 (Kd.R_reads' HO249.out).2.2 0 p279 q279; obtain rfl : ad278 = ad279 := (by injection e279); obtain ⟨ce279, hce279, hMe279, hcc279⟩ := Kd.R_get HO249.out z38 0 p279 (by first | exact q279 | exact of_decide_eq_true (by first | (with_reducible assumption) | assumption) | (have e_ := (Kd.R_reads' HO249.out).1; omega)); obtain ⟨ve279_2, ve279_3, ve279_4, ve279_5, rfl, ge279_2, ge279_3, ge279_4, ge279_5⟩ := k38_openM hMe279; have hv279_2 := hcc279 2 _ rfl; rw [add_field _ _ 2 (by omega)] at hv279_2; replace hv279_2 := Option.some.inj (hv279_2.symm.trans hx279_2); rw [hv279_2] at ge279_2; have HL279_2 := Aside0.mk (show Kd.R k41 41 _ _ _ _ ((rd_T38 t246 0).f2) from ge279_2); clear hv279_2 ge279_2; have hv279_3 := hcc279 3 _ rfl; rw [add_field _ _ 3 (by omega)] at hv279_3; replace hv279_3 := Option.some.inj (hv279_3.symm.trans hx279_3); rw [hv279_3] at ge279_3; have HL279_3 := Aside0.mk (show Kd.R k44 44 _ _ _ _ ((rd_T38 t246 0).f3) from ge279_3); clear hv279_3 ge279_3; have hv279_4 := hcc279 4 _ rfl; rw [add_field _ _ 4 (by omega)] at hv279_4; replace hv279_4 := Option.some.inj (hv279_4.symm.trans hx279_4); rw [hv279_4] at ge279_4; have HL279_4 := Aside0.mk (show Kd.R (Kd.int .u16) 23 _ _ _ _ ((rd_T38 t246 0).f4) from ge279_4); clear hv279_4 ge279_4; have hv279_5 := hcc279 5 _ rfl; rw [add_field _ _ 5 (by omega)] at hv279_5; replace hv279_5 := Option.some.inj (hv279_5.symm.trans hx279_5); rw [hv279_5] at ge279_5; have HL279_5 := Aside0.mk (show Kd.R k66 66 _ _ _ _ ((rd_T38 t246 0).f5) from ge279_5); clear hv279_5 ge279_5; clear hcc279 hce279; have qi279 : (0 < t246.length) = True := eq_true (by omega); (try rw [show ((0 : Int)).toNat = 0 from rfl] at hx279_0); (try rw [show 0 * 6 = 0 from rfl] at hx279_0); (try rw [Addr.add_zero'] at hx279_0); (try rw [show ((0 : Int)).toNat = 0 from rfl] at hx279_1); (try rw [show 0 * 6 = 0 from rfl] at hx279_1); (try rw [Addr.add_zero'] at hx279_1); (try rw [show ((0 : Int)).toNat = 0 from rfl] at hx279_2); (try rw [show 0 * 6 = 0 from rfl] at hx279_2); (try rw [Addr.add_zero'] at hx279_2); (try rw [show ((0 : Int)).toNat = 0 from rfl] at hx279_3); (try rw [show 0 * 6 = 0 from rfl] at hx279_3); (try rw [Addr.add_zero'] at hx279_3); (try rw [show ((0 : Int)).toNat = 0 from rfl] at hx279_4); (try rw [show 0 * 6 = 0 from rfl] at hx279_4); (try rw [Addr.add_zero'] at hx279_4); (try rw [show ((0 : Int)).toNat = 0 from rfl] at hx279_5); (try rw [show 0 * 6 = 0 from rfl] at hx279_5); (try rw [Addr.add_zero'] at hx279_5); have HR279_2 := Aside0.mk hi279_2; have HC279_2 := Aside0.mk hl279_2; clear hi279_2 hl279_2; have HR279_3 := Aside0.mk hi279_3; have HC279_3 := Aside0.mk hl279_3; clear hi279_3 hl279_3; have HR279_4 := Aside0.mk hi279_4; have HC279_4 := Aside0.mk hl279_4; clear hi279_4 hl279_4; have HR279_5 := Aside0.mk hi279_5; have HC279_5 := Aside0.mk hl279_5; clear hi279_5 hl279_5; replace p279 := eq_true p279; replace q279 := eq_true q279; have ea_ := Option.some.inj (hx278_2.symm.trans hx279_2); injection ea_ with ea_ en_ ec_; subst ea_; subst ec_; clear en_; have ea_ := Option.some.inj (hx278_3.symm.trans hx279_3); injection ea_ with ea_ en_ ec_; subst ea_; subst ec_; clear en_; have ea_ := Option.some.inj (hx278_4.symm.trans hx279_4); injection ea_ with ea_ en_ ec_; subst ea_; subst ec_; clear en_; have ea_ := Option.some.inj (hx278_5.symm.trans hx279_5); injection ea_ with ea_ en_ ec_; subst ea_; subst ec_; clear en_; obtain ⟨Ao36, co36, eo36⟩ := Kd.R_slice HO256.out; subst eo36))
                    go_ret
                    exact ⟨by zrg_, by zb_⟩
                  · rw [if_neg c14] at H
                    exact absurd H (by simp)
                · rw [if_neg c13] at H
                  exact absurd H (by simp)
              · rw [if_neg c12] at H
                exact absurd H (by simp)
            · rw [if_neg c11] at H
              exact absurd H (by simp)
          · rw [if_neg c10] at H
            exact absurd H (by simp)
        · rw [if_neg c9] at H
          exact absurd H (by simp)
      · rw [if_neg c8] at H
        exact absurd H (by simp)
    · rw [if_neg c7] at H
      exact absurd H (by simp)
  · rw [if_neg c6] at H
    exact absurd H (by simp)

/-! ### garderobelaw08_ClassCuts: function 3 -/
def garderobelaw08_ClassCuts.j0 : Nat → Int → Int → List Int → Bool → Option (Bool)
  | 0, _, _, _, _ => none
  | k + 1, x1, x2, x7, x25 => if x25 = true then ((garderobelaw08_works.f k).bind fun t284 => (some t284)) else (if (x7.length : Int) = 0 then (none) else (if 0 ≤ (Int.tmod (wrap64 (x1)) (x7.length : Int)) then (if (Int.tmod (wrap64 (x1)) (x7.length : Int)) ≤ (x7.length : Int) then ((class_Get.f k (x7.take ((Int.tmod (wrap64 (x1)) (x7.length : Int)) : Int).toNat)).bind fun bt289 => (if x7.length < 140737488355328 then ((class_Get.f k (x7 ++ [x2])).bind fun bt296 => (if bt289.2 = 4 then (if bt296.2 = 5 then ((garderobelaw08_works.f k).bind fun t300 => (some t300)) else (none)) else (none))) else (none))) else (none)) else (none)))
def garderobelaw08_ClassCuts.f (k : Nat) (l0 : List (S38)) (a1 : Int) (a2 : Int) : Option (Bool) := (class_Put.f l0).bind fun bt280 => (if bt280.2 = 0 then (garderobelaw08_ClassCuts.j0 k a1 a2 bt280.1 ((bt280.1.length : Int) == 0)) else (garderobelaw08_ClassCuts.j0 k a1 a2 bt280.1 true))
theorem garderobelaw08_ClassCuts.mono_l : ∀ k, (∀ y0 y1 y2 y3, LeO (garderobelaw08_ClassCuts.j0 k y0 y1 y2 y3) (garderobelaw08_ClassCuts.j0 (k + 1) y0 y1 y2 y3))
  | 0 => fun _ _ _ _ r h => by simp [garderobelaw08_ClassCuts.j0] at h
  | k + 1 => by
    have ih0 := garderobelaw08_ClassCuts.mono_l k
    · intro y0 y1 y2 y3
      unfold garderobelaw08_ClassCuts.j0
      repeat' first
      | (with_reducible exact ih0 _ _ _ _)
      | (with_reducible exact class_Get.mono _ _)
      | (with_reducible exact garderobelaw08_works.mono _)
      | (with_reducible exact LeO.refl _)
      | (with_reducible exact LeO.none _)
      | (with_reducible refine LeO.ite ?_ ?_)
      | (with_reducible refine LeO.bind ?_ (fun _ => ?_))
      | exact ih0 _ _ _ _
      | exact class_Get.mono _ _
      | exact garderobelaw08_works.mono _
      | exact LeO.none _
      | refine LeO.ite ?_ ?_
      | refine LeO.bind ?_ (fun _ => ?_)
theorem garderobelaw08_ClassCuts.mono : ∀ a0 a1 a2 k, LeO (garderobelaw08_ClassCuts.f k a0 a1 a2) (garderobelaw08_ClassCuts.f (k + 1) a0 a1 a2) := by
  intro a0 a1 a2 k
  have ih0 := garderobelaw08_ClassCuts.mono_l k
  unfold garderobelaw08_ClassCuts.f
  repeat' first
      | (with_reducible exact ih0 _ _ _ _)
      | (with_reducible exact class_Get.mono _ _)
      | (with_reducible exact garderobelaw08_works.mono _)
      | (with_reducible exact LeO.refl _)
      | (with_reducible exact LeO.none _)
      | (with_reducible refine LeO.ite ?_ ?_)
      | (with_reducible refine LeO.bind ?_ (fun _ => ?_))
      | exact ih0 _ _ _ _
      | exact class_Get.mono _ _
      | exact garderobelaw08_works.mono _
      | exact LeO.none _
      | refine LeO.ite ?_ ?_
      | refine LeO.bind ?_ (fun _ => ?_)
set_option maxHeartbeats 8000000 in
set_option maxRecDepth 100000 in
theorem garderobelaw08_ClassCuts.calls (k : Nat) (A0 : Option Addr) (c0 : Nat) (l0 : List (S38)) (a1 : Int) (a2 : Int) (r : Bool) (w : World) (hr0 : Kd.C k38 w A0 l0.length l0) (hc0 : l0.length ≤ c0) (h : garderobelaw08_ClassCuts.f k l0 a1 a2 = some r) :
    Calls Try.prog 3 #[.slice A0 l0.length c0, .int .u16 a1, .int .u8 a2] w fun e w' => e = .returned (.bool r) ∧ Below w.heap.size w w' := by
  have HR0 := Aside0.mk hr0
  have HC0 := Aside0.mk hc0
  clear hr0 hc0
  have HB := Aside0.mk (Below.refl w.heap.size w)
  have H : ((class_Put.f l0).bind fun bt280 => (if bt280.2 = 0 then (garderobelaw08_ClassCuts.j0 k a1 a2 bt280.1 ((bt280.1.length : Int) == 0)) else (garderobelaw08_ClassCuts.j0 k a1 a2 bt280.1 true))) = some r := h
  clear h
  replace H := Option.bind_eq_some_iff.mp H
  obtain ⟨⟨t280, t281⟩, A40, H⟩ := H
  replace H : (if t281 = 0 then (garderobelaw08_ClassCuts.j0 k a1 a2 t280 ((t280.length : Int) == 0)) else (garderobelaw08_ClassCuts.j0 k a1 a2 t280 true)) = some r := H
  have A4 := Aside0.mk A40
  clear A40
  have HC5 := Aside0.mk H
  clear H
  go_enter Try.func3, Try.ntmps3
  go_upto_region 2 with (first | ((with_reducible refine gate_callee (f := 7) rfl ?_); refine goesL_ (some 16) rfl rfl Try.func7 (by kernel_rfl) rfl #[.slice A0 l0.length c0] rfl (by zargs_) ?_; (with_reducible refine (class_Put.calls _ _ l0 t280 t281 _ ?side1 ?side2 A4.out).mono ?_); (case side1 => repeat (first | exact HR0.out | (with_reducible refine Kd.C_alloc ?_ _) | (with_reducible refine Kd.C_drewN ?_ _) | (with_reducible refine Kd.C_drew ?_))); (case side2 => exact HC0.out); rintro e w6 ⟨v282, rfl, ho0, hb⟩; refine ⟨_, rfl, ?_⟩; have n0_ := Aside0.mk (Kd.R_lower ho0 (below_size (by zb_))); have n1_ := Aside0.mk (below_step (by zb_) hb); clear HB; have HO283 := n0_; have HB := n1_; clear n0_ n1_; zclr_; (try clear ho0)))
  (try simp only [Act.put, List.setIfInBounds_toArray, List.set_cons_zero, List.set_cons_succ])
  go_cut [25] (fun v25 wc => ∃ (kq : Nat) (x25_4 : Bool), v25 = .bool x25_4 ∧ Aside0 (garderobelaw08_ClassCuts.j0 kq a1 a2 t280 x25_4 = some r) ∧ Aside0 (kq ≤ k) ∧ Aside0 (Kd.R (Kd.int .u8) 5 wc w.heap.size (fun _ => True) v282 t280) ∧ Aside0 (Below w.heap.size w wc))
  case first =>
    have H := HC5.out
    clear HC5
    by_cases c7 : t281 = 0
    · rw [if_pos c7] at H
      have c7b0 : (t281 == 0) = true := beq_iff_eq.mpr c7
      have c7b1 : (t281 != 0) = false := bne_eq_false_iff_eq.mpr c7
      clear c7
      (first | rw [c7b0] | (simp only [i64_w, i32_w]; rw [c7b0]) | skip)
      have H' := Aside0.mk H
      clear H
      obtain ⟨Ao8, co8, eo8⟩ := Kd.R_slice HO283.out
      subst eo8
      go_wp2
      go_meet
      case rel => exact ⟨_, (((t280.length : Int) == 0)), (by zrf_), H', ⟨by first | omega | exact Nat.le_refl _⟩, ⟨by zrow_; exact HO283.out⟩, ⟨by zb_⟩⟩
    · rw [if_neg c7] at H
      have c7b0 : (t281 == 0) = false := beq_eq_false_iff_ne.mpr c7
      have c7b1 : (t281 != 0) = true := bne_iff_ne.mpr c7
      (first | rw [c7b0] | (simp only [i64_w, i32_w]; rw [c7b0]) | skip)
      have H' := Aside0.mk H
      clear H
      go_wp2
      go_meet
      case rel => exact ⟨_, (true), (by zrf_), H', ⟨by first | omega | exact Nat.le_refl _⟩, ⟨by zrow_; exact HO283.out⟩, ⟨by zb_⟩⟩
  case rest =>
    clear HC5
    try clear p2
    try clear c3
    try clear c7
    try clear c7b0
    try clear c7b1
    obtain ⟨kq, x25_4, rfl, HA, HJ4, HO_7, HB⟩ := hcut
    cases kq with
    | zero => exact absurd HA.out (by simp [garderobelaw08_ClassCuts.j0])
    | succ kj4 =>
      have H := HA.out
      clear HA
      simp only [garderobelaw08_ClassCuts.j0] at H
      by_cases c9 : x25_4 = true
      · subst c9
        have H1 : ((garderobelaw08_works.f kj4).bind fun t284 => (some t284)) = some r := by rw [if_pos rfl] at H; exact H
        clear H
        have H := H1
        clear H1
        replace H := Option.bind_eq_some_iff.mp H
        obtain ⟨t284, A100, H⟩ := H
        replace H : (some t284) = some r := H
        have A10 := Aside0.mk A100
        clear A100
        obtain rfl := Option.some.inj H
        go_wp2_with (first | ((with_reducible refine gate_callee (f := 8) rfl ?_); refine goesL_ (some 26) rfl rfl Try.func8 (by kernel_rfl) rfl #[] rfl (by zargs_) ?_; (with_reducible refine (garderobelaw08_works.calls kj4  t284 _ A10.out).mono ?_); rintro e w11 ⟨rfl, hb⟩; refine ⟨_, rfl, ?_⟩; have n0_ := Aside0.mk (Kd.R_below (by zrow_; exact HO_7.out) hb); have n1_ := Aside0.mk (below_step (by zb_) hb); clear HO_7; clear HB; have HO_7 := n0_; have HB := n1_; clear n0_ n1_; zclr_))
        go_ret
        exact ⟨by zrg_, by zb_⟩
      · replace c9 := Bool.eq_false_iff.mpr c9
        subst c9
        have H1 : (if (t280.length : Int) = 0 then (none) else (if 0 ≤ (Int.tmod (wrap64 (a1)) (t280.length : Int)) then (if (Int.tmod (wrap64 (a1)) (t280.length : Int)) ≤ (t280.length : Int) then ((class_Get.f kj4 (t280.take ((Int.tmod (wrap64 (a1)) (t280.length : Int)) : Int).toNat)).bind fun bt289 => (if t280.length < 140737488355328 then ((class_Get.f kj4 (t280 ++ [a2])).bind fun bt296 => (if bt289.2 = 4 then (if bt296.2 = 5 then ((garderobelaw08_works.f kj4).bind fun t300 => (some t300)) else (none)) else (none))) else (none))) else (none)) else (none))) = some r := by rw [if_neg (show ¬ (false = true) by decide)] at H; exact H
        clear H
        have H := H1
        clear H1
        by_cases c12 : (t280.length : Int) = 0
        · rw [if_pos c12] at H
          exact absurd H (by simp)
        · rw [if_neg c12] at H
          have c12b0 : ((t280.length : Int) == 0) = false := beq_eq_false_iff_ne.mpr c12
          have c12b1 : ((t280.length : Int) != 0) = true := bne_iff_ne.mpr c12
          have c12b2 : ¬ (t280 = []) := fun h_ => c12 (by rw [h_]; rfl)
          obtain ⟨ji13, hji13⟩ : ∃ j_ : Int, (Int.tmod (wrap64 (a1)) (t280.length : Int)) = j_ := ⟨_, rfl⟩
          replace H : (if 0 ≤ (ji13) then (if (ji13) ≤ (t280.length : Int) then ((class_Get.f kj4 (t280.take ((ji13) : Int).toNat)).bind fun bt289 => (if t280.length < 140737488355328 then ((class_Get.f kj4 (t280 ++ [a2])).bind fun bt296 => (if bt289.2 = 4 then (if bt296.2 = 5 then ((garderobelaw08_works.f kj4).bind fun t300 => (some t300)) else (none)) else (none))) else (none))) else (none)) else (none)) = some r := by first | (rw [hji13] at H; exact H) | (simp only [hji13] at H ⊢; exact H)
          by_cases c14 : 0 ≤ (ji13)
          · rw [if_pos c14] at H
            have c14b0 := eq_true c14
            have c14b1 : decide (0 ≤ (ji13)) = true := decide_eq_true c14
            clear c14
            by_cases c15 : (ji13) ≤ (t280.length : Int)
            · rw [if_pos c15] at H
              have c15b0 := eq_true c15
              have c15b1 : decide ((ji13) ≤ (t280.length : Int)) = true := decide_eq_true c15
              clear c15
              obtain ⟨y285, hy285⟩ : ∃ y_ : List Int, y_ = (t280.take ((ji13) : Int).toNat) := ⟨_, rfl⟩
              replace H : ((class_Get.f kj4 y285).bind fun bt289 => (if t280.length < 140737488355328 then ((class_Get.f kj4 (t280 ++ [a2])).bind fun bt296 => (if bt289.2 = 4 then (if bt296.2 = 5 then ((garderobelaw08_works.f kj4).bind fun t300 => (some t300)) else (none)) else (none))) else (none))) = some r := by first | (rw [hy285]; with_reducible exact H) | (have H2_ := (Option.bind_some _ _).symm.trans H; rw [hy285]; with_reducible exact H2_) | (have H2_ := (Option.bind_some _ _).symm.trans H; with_reducible exact H2_) | with_reducible exact H | (rw [hy285]; exact H) | exact H
              have Ny285 := Aside0.mk hy285
              clear hy285
              replace H := Option.bind_eq_some_iff.mp H
              obtain ⟨⟨t289, t290⟩, A160, H⟩ := H
              replace H : (if t280.length < 140737488355328 then ((class_Get.f kj4 (t280 ++ [a2])).bind fun bt296 => (if t290 = 4 then (if bt296.2 = 5 then ((garderobelaw08_works.f kj4).bind fun t300 => (some t300)) else (none)) else (none))) else (none)) = some r := H
              have A16 := Aside0.mk A160
              clear A160
              by_cases c17 : t280.length < 140737488355328
              · rw [if_pos c17] at H
                have LMc17 := Aside0.mk c17
                clear c17
                obtain ⟨y293, hy293⟩ : ∃ y_ : List Int, y_ = (t280 ++ [a2]) := ⟨_, rfl⟩
                replace H : ((class_Get.f kj4 y293).bind fun bt296 => (if t290 = 4 then (if bt296.2 = 5 then ((garderobelaw08_works.f kj4).bind fun t300 => (some t300)) else (none)) else (none))) = some r := by first | (rw [hy293]; with_reducible exact H) | (have H2_ := (Option.bind_some _ _).symm.trans H; rw [hy293]; with_reducible exact H2_) | (have H2_ := (Option.bind_some _ _).symm.trans H; with_reducible exact H2_) | with_reducible exact H | (rw [hy293]; exact H) | exact H
                have Ny293 := Aside0.mk hy293
                clear hy293
                replace H := Option.bind_eq_some_iff.mp H
                obtain ⟨⟨t296, t297⟩, A180, H⟩ := H
                replace H : (if t290 = 4 then (if t297 = 5 then ((garderobelaw08_works.f kj4).bind fun t300 => (some t300)) else (none)) else (none)) = some r := H
                have A18 := Aside0.mk A180
                clear A180
                by_cases c19 : t290 = 4
                · rw [if_pos c19] at H
                  have c19b0 : (t290 == 4) = true := beq_iff_eq.mpr c19
                  have c19b1 : (t290 != 4) = false := bne_eq_false_iff_eq.mpr c19
                  clear c19
                  by_cases c20 : t297 = 5
                  · rw [if_pos c20] at H
                    have c20b0 : (t297 == 5) = true := beq_iff_eq.mpr c20
                    have c20b1 : (t297 != 5) = false := bne_eq_false_iff_eq.mpr c20
                    clear c20
                    replace H := Option.bind_eq_some_iff.mp H
                    obtain ⟨t300, A210, H⟩ := H
                    replace H : (some t300) = some r := H
                    have A21 := Aside0.mk A210
                    clear A210
                    obtain rfl := Option.some.inj H
                    obtain ⟨Ao22, co22, eo22⟩ := Kd.R_slice HO_7.out
                    subst eo22
                    have q23 : ((ji13) : Int) ≤ ((t280.length : Int) : Int) := of_decide_eq_true (by first | (with_reducible assumption) | assumption)
                    obtain ⟨i023, hi023, _, hsz23, _⟩ := info_parts info5
                    have hroom23 : t280.length ≤ co22 := (Kd.R_reads' HO_7.out).2.1
                    have hC23 : Kd.C (Kd.int .u8) _ Ao22 t280.length t280 := (Kd.R_reads' HO_7.out).2.2
                    have hcut23 : ∀ W : World, (Instr.slice 24 (.slice Ao22 t280.length co22) none (some (.int .i64 ji13)) (some (.int .i64 ji13))).run Try.prog W = .ok (.slice Ao22 ((ji13) : Int).toNat ((ji13) : Int).toNat) W := fun W => Go.Proofs.YtjbpdmkalegacaaW.Mine.upto3_of 24 5 .i64 .i64 Try.underlying24 hi023 hsz23 Ao22 t280.length co22 ji13 (of_decide_eq_true (by first | (with_reducible assumption) | assumption)) (by have h1_ := q23; have h2_ := hroom23; omega) W
                    have hr23 := Kd.C_take (m := ((ji13) : Int).toNat) hC23 (by omega)
                    have hy23 : y285.length = ((ji13) : Int).toNat := (by rw [Ny285.out, List.length_take]; omega)
                    rw [← Ny285.out] at hr23
                    rw [← hy23] at hcut23
                    have HR288 := Aside0.mk hr23
                    have HC288 := Aside0.mk (Nat.le_refl y285.length)
                    clear hr23 hC23 hroom23 hi023 hsz23
                    have KY23 := Aside0.mk hy23
                    clear hy23
                    have KL23 := Aside0.mk (show ((ji13) : Int).toNat ≤ t280.length from by omega)
                    replace q23 := eq_true q23
                    go_wp2_with (first | ((with_reducible refine gate_callee (f := 9) rfl ?_); refine goesL_ (some 37) rfl rfl Try.func9 (by kernel_rfl) rfl #[.slice Ao22 y285.length y285.length] rfl (by zargs_) ?_; (with_reducible refine (class_Get.calls kj4 _ _ y285 t289 t290 _ ?side1 ?side2 A16.out).mono ?_); (case side1 => repeat (first | exact (by repeat (first | (with_reducible exact HR288.out) | (with_reducible refine Kd.C_alloc ?_ _) | (with_reducible refine Kd.C_drewN ?_ _) | (with_reducible refine Kd.C_drew ?_) | exact HR288.out)) | (with_reducible refine Kd.C_alloc ?_ _) | (with_reducible refine Kd.C_drewN ?_ _) | (with_reducible refine Kd.C_drew ?_))); (case side2 => exact HC288.out); rintro e w24 ⟨v291, rfl, ho0, hb⟩; refine ⟨_, rfl, ?_⟩; have n0_ := Aside0.mk (Kd.R_below (by zrow_; exact HO_7.out) hb); have n1_ := Aside0.mk (Kd.R_lower (Kd.R_new' ho0 (Kd.R_lt (by zrow_; exact HO_7.out))) (below_size (by zb_))); have n2_ := Aside0.mk (Kd.C_below (by repeat (first | (with_reducible exact HR288.out) | (with_reducible refine Kd.C_alloc ?_ _) | (with_reducible refine Kd.C_drewN ?_ _) | (with_reducible refine Kd.C_drew ?_) | exact HR288.out)) hb); have n3_ := Aside0.mk (below_step (by zb_) hb); clear HO_7; clear HR288; clear HB; have HO_7 := n0_; have HO292 := n1_; have HR288 := n2_; have HB := n3_; clear n0_ n1_ n2_ n3_; zclr_; (try clear ho0)) | ((with_reducible refine gate_builtin (b := .append) (xs := #[.tmp 41, .tmp 43]) rfl ?_); (try (refine gate_guard (by rfl) ?_; dsimp only)); at_builtin; refine Kd.R_append (Kd.int .u8) (w0 := w) w.heap.size rfl (.tmp 41) (.tmp 43) 24 5 (.int .u8 0) 1 rfl Try.underlying24 info5 rfl (by decide) (by omega) (.slice Ao22 t280.length co22) t280 a2 [.int .u8 a2] (fun _ => True) (fun _ => False) rfl rfl ?aP (fun _ hk => hk.elim) ?aF ?aO ?aB ?aS ?aL ?_; (case aP => exact rfl); (case aB => exact (by zb_)); (case aF => exact (fun _ _ => trivial)); (case aO => exact (by zrow_; exact HO_7.out)); (case aS => exact (below_size (by zb_))); (case aL => have := LMc17.out; omega); intro v294 w25 ho hb hg hat; rw [← Ny293.out] at ho; have n0_ := Aside0.mk (Kd.R_after (ok := (fun _ => True)) (by zrow_; exact HO292.out) hg hat); have n1_ := Aside0.mk (hb); have n2_ := Aside0.mk (ho); clear HO292; clear HB; clear HO_7; have HO292 := n0_; have HB := n1_; have HO295 := n2_; clear n0_ n1_ n2_; clear ho hb hg hat; obtain ⟨Ao26, co26, eo26⟩ := Kd.R_slice HO295.out; subst eo26) | ((with_reducible refine gate_callee (f := 9) rfl ?_); refine goesL_ (some 45) rfl rfl Try.func9 (by kernel_rfl) rfl #[.slice Ao26 y293.length co26] rfl (by zargs_) ?_; (with_reducible refine (class_Get.calls kj4 _ _ y293 t296 t297 _ ?side1 ?side2 A18.out).mono ?_); (case side1 => repeat (first | exact (Kd.R_reads' HO295.out).2.2 | (with_reducible refine Kd.C_alloc ?_ _) | (with_reducible refine Kd.C_drewN ?_ _) | (with_reducible refine Kd.C_drew ?_))); (case side2 => exact (Kd.R_reads' HO295.out).2.1); rintro e w27 ⟨v298, rfl, ho0, hb⟩; refine ⟨_, rfl, ?_⟩; have n0_ := Aside0.mk (Kd.R_elder' (by zrow_; exact HO292.out) (Kd.R_base ho0) hb); have n1_ := Aside0.mk (Kd.R_below (by zrow_; exact HO295.out) hb); have n2_ := Aside0.mk (Kd.R_lower (Kd.R_new' (Kd.R_new' ho0 (Kd.R_lt (by zrow_; exact HO292.out))) (Kd.R_lt (by zrow_; exact HO295.out))) (below_size (by zb_))); have n3_ := Aside0.mk (below_step (by zb_) hb); clear HO292; clear HO295; clear HB; have HO292 := n0_; have HO295 := n1_; have HO299 := n2_; have HB := n3_; clear n0_ n1_ n2_ n3_; zclr_; (try clear ho0)) | (go_at_call 8; (with_reducible refine (garderobelaw08_works.calls kj4  t300 _ A21.out).mono ?_); rintro e w28 ⟨rfl, hb⟩; have n0_ := Aside0.mk (Kd.R_below (by zrow_; exact HO292.out) hb); have n1_ := Aside0.mk (Kd.R_below (by zrow_; exact HO295.out) hb); have n2_ := Aside0.mk (Kd.R_below (by zrow_; exact HO299.out) hb); have n3_ := Aside0.mk (below_step (by zb_) hb); clear HO292; clear HO295; clear HO299; clear HB; have HO292 := n0_; have HO295 := n1_; have HO299 := n2_; have HB := n3_; clear n0_ n1_ n2_ n3_; zclr_))
                    go_ret
                    exact ⟨by first | rfl | (simp [errW_none, errW_some] <;> rfl) | (simp only [← hji13]; first | rfl | (simp [errW_none, errW_some] <;> rfl)) | (simp [*, errW_none, errW_some] <;> rfl), by zb_⟩
                  · rw [if_neg c20] at H
                    exact absurd H (by simp)
                · rw [if_neg c19] at H
                  exact absurd H (by simp)
              · rw [if_neg c17] at H
                exact absurd H (by simp)
            · rw [if_neg c15] at H
              exact absurd H (by simp)
          · rw [if_neg c14] at H
            exact absurd H (by simp)

end Go.Proofs.Ytjbpdmkalegacaa.PClassCuts
