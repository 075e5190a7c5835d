-- laid by fake.py, a program of this session's, over the kit's print
import Derived.Test.YtjbpdmkalegacaaMiniX
import Derived.Test.YtjbpdmkalegacaaPClassBackx0
import Derived.Test.YtjbpdmkalegacaaPClassBackx1
import Derived.Test.YtjbpdmkalegacaaPClassBackx3
import Derived.Test.YtjbpdmkalegacaaPClassBackx4
namespace Go.Proofs.Ytjbpdmkalegacaa.PClassBack
open Go.RowKit Go.Proofs.YtjbpdmkalegacaaW.PrintWords Go.Proofs.YtjbpdmkalegacaaW.PrintLast Go.Proofs.YtjbpdmkalegacaaW.PrintMore Go.Proofs.YtjbpdmkalegacaaW.Mine
attribute [local go_sem] Go.Proofs.YtjbpdmkalegacaaW.Mine.isSome_set max2_int min2_int max_two min_two max_three min_three max_four min_four   -- for this text's walks alone
set_option linter.unusedVariables false
set_option linter.unusedSimpArgs false

attribute [local go_sem high] eqA44
/-! ### garderobelaw08_works: function 8 -/
def garderobelaw08_works.f (k : Nat)  : Option (Bool) := (class_Get.f k (([1, 1, 0] : List Int))).bind fun bt246 => ((class_Get.f k (([0] : List Int))).bind fun bt253 => ((class_Get.f k (([1, 8, 0, 0, 0, 0, 0] : List Int))).bind fun bt260 => ((class_Get.f k (([1, 8] : List Int))).bind fun bt267 => ((class_Put.f (([(⟨1, 0, ([] : List (S41)), ([] : List (S44)), ([] : List Int), ([] : List (S66))⟩ : S38)] : List (S38)))).bind fun bt274 => (if bt246.2 = 0 then (if (bt246.1.length : Int) = 1 then (if 0 < (bt246.1.length : Int) then (if ((rd_T38 bt246.1 0).f0) = 1 then (if ((rd_T38 bt246.1 0).f1) = 65535 then (if bt253.2 = 0 then (if (bt253.1.length : Int) = 0 then (if bt260.2 = 5 then (if bt267.2 = 4 then (some (bt274.2 == 2)) else (none)) else (none)) else (none)) else (none)) else (none)) else (none)) else (none)) else (none)) else (none))))))
theorem garderobelaw08_works.mono : ∀ k, LeO (garderobelaw08_works.f k ) (garderobelaw08_works.f (k + 1) ) := by
  intro  k
  unfold garderobelaw08_works.f
  repeat' first
      | (with_reducible exact class_Get.mono _ _)
      | (with_reducible exact LeO.refl _)
      | (with_reducible exact LeO.none _)
      | (with_reducible refine LeO.ite ?_ ?_)
      | (with_reducible refine LeO.bind ?_ (fun _ => ?_))
      | exact class_Get.mono _ _
      | exact LeO.none _
      | refine LeO.ite ?_ ?_
      | refine LeO.bind ?_ (fun _ => ?_)
set_option maxHeartbeats 8000000 in
set_option maxRecDepth 100000 in
theorem garderobelaw08_works.calls (k : Nat)  (r : Bool) (w : World) (h : garderobelaw08_works.f k  = some r) :
    Calls Try.prog 8 #[] w fun e w' => e = .returned (.bool r) ∧ Below w.heap.size w w' := by
  have hu38 := Try.underlying38
  have HB := Aside0.mk (Below.refl w.heap.size w)
  have H : ((class_Get.f k (([1, 1, 0] : List Int))).bind fun bt246 => ((class_Get.f k (([0] : List Int))).bind fun bt253 => ((class_Get.f k (([1, 8, 0, 0, 0, 0, 0] : List Int))).bind fun bt260 => ((class_Get.f k (([1, 8] : List Int))).bind fun bt267 => ((class_Put.f (([(⟨1, 0, ([] : List (S41)), ([] : List (S44)), ([] : List Int), ([] : List (S66))⟩ : S38)] : List (S38)))).bind fun bt274 => (if bt246.2 = 0 then (if (bt246.1.length : Int) = 1 then (if 0 < (bt246.1.length : Int) then (if ((rd_T38 bt246.1 0).f0) = 1 then (if ((rd_T38 bt246.1 0).f1) = 65535 then (if bt253.2 = 0 then (if (bt253.1.length : Int) = 0 then (if bt260.2 = 5 then (if bt267.2 = 4 then (some (bt274.2 == 2)) else (none)) else (none)) else (none)) else (none)) else (none)) else (none)) else (none)) else (none)) else (none))))))) = some r := h
  clear h
  obtain ⟨y243, hy243⟩ : ∃ y_ : List Int, y_ = (([1, 1, 0] : List Int)) := ⟨_, rfl⟩
  replace H : ((class_Get.f k y243).bind fun bt246 => ((class_Get.f k (([0] : List Int))).bind fun bt253 => ((class_Get.f k (([1, 8, 0, 0, 0, 0, 0] : List Int))).bind fun bt260 => ((class_Get.f k (([1, 8] : List Int))).bind fun bt267 => ((class_Put.f (([(⟨1, 0, ([] : List (S41)), ([] : List (S44)), ([] : List Int), ([] : List (S66))⟩ : S38)] : List (S38)))).bind fun bt274 => (if bt246.2 = 0 then (if (bt246.1.length : Int) = 1 then (if 0 < (bt246.1.length : Int) then (if ((rd_T38 bt246.1 0).f0) = 1 then (if ((rd_T38 bt246.1 0).f1) = 65535 then (if bt253.2 = 0 then (if (bt253.1.length : Int) = 0 then (if bt260.2 = 5 then (if bt267.2 = 4 then (some (bt274.2 == 2)) else (none)) else (none)) else (none)) else (none)) else (none)) else (none)) else (none)) else (none)) else (none))))))) = some r := by first | (rw [hy243]; with_reducible exact H) | (have H2_ := (Option.bind_some _ _).symm.trans H; rw [hy243]; with_reducible exact H2_) | (have H2_ := (Option.bind_some _ _).symm.trans H; with_reducible exact H2_) | with_reducible exact H | (rw [hy243]; exact H) | exact H
  have Ny243 := Aside0.mk hy243
  clear hy243
  replace H := Option.bind_eq_some_iff.mp H
  obtain ⟨⟨t246, t247⟩, A10, H⟩ := H
  replace H : ((class_Get.f k (([0] : List Int))).bind fun bt253 => ((class_Get.f k (([1, 8, 0, 0, 0, 0, 0] : List Int))).bind fun bt260 => ((class_Get.f k (([1, 8] : List Int))).bind fun bt267 => ((class_Put.f (([(⟨1, 0, ([] : List (S41)), ([] : List (S44)), ([] : List Int), ([] : List (S66))⟩ : S38)] : List (S38)))).bind fun bt274 => (if t247 = 0 then (if (t246.length : Int) = 1 then (if 0 < (t246.length : Int) then (if ((rd_T38 t246 0).f0) = 1 then (if ((rd_T38 t246 0).f1) = 65535 then (if bt253.2 = 0 then (if (bt253.1.length : Int) = 0 then (if bt260.2 = 5 then (if bt267.2 = 4 then (some (bt274.2 == 2)) else (none)) else (none)) else (none)) else (none)) else (none)) else (none)) else (none)) else (none)) else (none)))))) = some r := H
  have A1 := Aside0.mk A10
  clear A10
  obtain ⟨y250, hy250⟩ : ∃ y_ : List Int, y_ = (([0] : List Int)) := ⟨_, rfl⟩
  replace H : ((class_Get.f k y250).bind fun bt253 => ((class_Get.f k (([1, 8, 0, 0, 0, 0, 0] : List Int))).bind fun bt260 => ((class_Get.f k (([1, 8] : List Int))).bind fun bt267 => ((class_Put.f (([(⟨1, 0, ([] : List (S41)), ([] : List (S44)), ([] : List Int), ([] : List (S66))⟩ : S38)] : List (S38)))).bind fun bt274 => (if t247 = 0 then (if (t246.length : Int) = 1 then (if 0 < (t246.length : Int) then (if ((rd_T38 t246 0).f0) = 1 then (if ((rd_T38 t246 0).f1) = 65535 then (if bt253.2 = 0 then (if (bt253.1.length : Int) = 0 then (if bt260.2 = 5 then (if bt267.2 = 4 then (some (bt274.2 == 2)) else (none)) else (none)) else (none)) else (none)) else (none)) else (none)) else (none)) else (none)) else (none)))))) = some r := by first | (rw [hy250]; with_reducible exact H) | (have H2_ := (Option.bind_some _ _).symm.trans H; rw [hy250]; with_reducible exact H2_) | (have H2_ := (Option.bind_some _ _).symm.trans H; with_reducible exact H2_) | with_reducible exact H | (rw [hy250]; exact H) | exact H
  have Ny250 := Aside0.mk hy250
  clear hy250
  replace H := Option.bind_eq_some_iff.mp H
  obtain ⟨⟨t253, t254⟩, A20, H⟩ := H
  replace H : ((class_Get.f k (([1, 8, 0, 0, 0, 0, 0] : List Int))).bind fun bt260 => ((class_Get.f k (([1, 8] : List Int))).bind fun bt267 => ((class_Put.f (([(⟨1, 0, ([] : List (S41)), ([] : List (S44)), ([] : List Int), ([] : List (S66))⟩ : S38)] : List (S38)))).bind fun bt274 => (if t247 = 0 then (if (t246.length : Int) = 1 then (if 0 < (t246.length : Int) then (if ((rd_T38 t246 0).f0) = 1 then (if ((rd_T38 t246 0).f1) = 65535 then (if t254 = 0 then (if (t253.length : Int) = 0 then (if bt260.2 = 5 then (if bt267.2 = 4 then (some (bt274.2 == 2)) else (none)) else (none)) else (none)) else (none)) else (none)) else (none)) else (none)) else (none)) else (none))))) = some r := H
  have A2 := Aside0.mk A20
  clear A20
  obtain ⟨y257, hy257⟩ : ∃ y_ : List Int, y_ = (([1, 8, 0, 0, 0, 0, 0] : List Int)) := ⟨_, rfl⟩
  replace H : ((class_Get.f k y257).bind fun bt260 => ((class_Get.f k (([1, 8] : List Int))).bind fun bt267 => ((class_Put.f (([(⟨1, 0, ([] : List (S41)), ([] : List (S44)), ([] : List Int), ([] : List (S66))⟩ : S38)] : List (S38)))).bind fun bt274 => (if t247 = 0 then (if (t246.length : Int) = 1 then (if 0 < (t246.length : Int) then (if ((rd_T38 t246 0).f0) = 1 then (if ((rd_T38 t246 0).f1) = 65535 then (if t254 = 0 then (if (t253.length : Int) = 0 then (if bt260.2 = 5 then (if bt267.2 = 4 then (some (bt274.2 == 2)) else (none)) else (none)) else (none)) else (none)) else (none)) else (none)) else (none)) else (none)) else (none))))) = some r := by first | (rw [hy257]; with_reducible exact H) | (have H2_ := (Option.bind_some _ _).symm.trans H; rw [hy257]; with_reducible exact H2_) | (have H2_ := (Option.bind_some _ _).symm.trans H; with_reducible exact H2_) | with_reducible exact H | (rw [hy257]; exact H) | exact H
  have Ny257 := Aside0.mk hy257
  clear hy257
  replace H := Option.bind_eq_some_iff.mp H
  obtain ⟨⟨t260, t261⟩, A30, H⟩ := H
  replace H : ((class_Get.f k (([1, 8] : List Int))).bind fun bt267 => ((class_Put.f (([(⟨1, 0, ([] : List (S41)), ([] : List (S44)), ([] : List Int), ([] : List (S66))⟩ : S38)] : List (S38)))).bind fun bt274 => (if t247 = 0 then (if (t246.length : Int) = 1 then (if 0 < (t246.length : Int) then (if ((rd_T38 t246 0).f0) = 1 then (if ((rd_T38 t246 0).f1) = 65535 then (if t254 = 0 then (if (t253.length : Int) = 0 then (if t261 = 5 then (if bt267.2 = 4 then (some (bt274.2 == 2)) else (none)) else (none)) else (none)) else (none)) else (none)) else (none)) else (none)) else (none)) else (none)))) = some r := H
  have A3 := Aside0.mk A30
  clear A30
  obtain ⟨y264, hy264⟩ : ∃ y_ : List Int, y_ = (([1, 8] : List Int)) := ⟨_, rfl⟩
  replace H : ((class_Get.f k y264).bind fun bt267 => ((class_Put.f (([(⟨1, 0, ([] : List (S41)), ([] : List (S44)), ([] : List Int), ([] : List (S66))⟩ : S38)] : List (S38)))).bind fun bt274 => (if t247 = 0 then (if (t246.length : Int) = 1 then (if 0 < (t246.length : Int) then (if ((rd_T38 t246 0).f0) = 1 then (if ((rd_T38 t246 0).f1) = 65535 then (if t254 = 0 then (if (t253.length : Int) = 0 then (if t261 = 5 then (if bt267.2 = 4 then (some (bt274.2 == 2)) else (none)) else (none)) else (none)) else (none)) else (none)) else (none)) else (none)) else (none)) else (none)))) = some r := by first | (rw [hy264]; with_reducible exact H) | (have H2_ := (Option.bind_some _ _).symm.trans H; rw [hy264]; with_reducible exact H2_) | (have H2_ := (Option.bind_some _ _).symm.trans H; with_reducible exact H2_) | with_reducible exact H | (rw [hy264]; exact H) | exact H
  have Ny264 := Aside0.mk hy264
  clear hy264
  replace H := Option.bind_eq_some_iff.mp H
  obtain ⟨⟨t267, t268⟩, A40, H⟩ := H
  replace H : ((class_Put.f (([(⟨1, 0, ([] : List (S41)), ([] : List (S44)), ([] : List Int), ([] : List (S66))⟩ : S38)] : List (S38)))).bind fun bt274 => (if t247 = 0 then (if (t246.length : Int) = 1 then (if 0 < (t246.length : Int) then (if ((rd_T38 t246 0).f0) = 1 then (if ((rd_T38 t246 0).f1) = 65535 then (if t254 = 0 then (if (t253.length : Int) = 0 then (if t261 = 5 then (if t268 = 4 then (some (bt274.2 == 2)) else (none)) else (none)) else (none)) else (none)) else (none)) else (none)) else (none)) else (none)) else (none))) = some r := H
  have A4 := Aside0.mk A40
  clear A40
  obtain ⟨y271, hy271⟩ : ∃ y_ : List (S38), y_ = (([(⟨1, 0, ([] : List (S41)), ([] : List (S44)), ([] : List Int), ([] : List (S66))⟩ : S38)] : List (S38))) := ⟨_, rfl⟩
  replace H : ((class_Put.f y271).bind fun bt274 => (if t247 = 0 then (if (t246.length : Int) = 1 then (if 0 < (t246.length : Int) then (if ((rd_T38 t246 0).f0) = 1 then (if ((rd_T38 t246 0).f1) = 65535 then (if t254 = 0 then (if (t253.length : Int) = 0 then (if t261 = 5 then (if t268 = 4 then (some (bt274.2 == 2)) else (none)) else (none)) else (none)) else (none)) else (none)) else (none)) else (none)) else (none)) else (none))) = some r := by first | (rw [hy271]; with_reducible exact H) | (have H2_ := (Option.bind_some _ _).symm.trans H; rw [hy271]; with_reducible exact H2_) | (have H2_ := (Option.bind_some _ _).symm.trans H; with_reducible exact H2_) | with_reducible exact H | (rw [hy271]; exact H) | exact H
  have Ny271 := Aside0.mk hy271
  clear hy271
  replace H := Option.bind_eq_some_iff.mp H
  obtain ⟨⟨t274, t275⟩, A50, H⟩ := H
  replace H : (if t247 = 0 then (if (t246.length : Int) = 1 then (if 0 < (t246.length : Int) then (if ((rd_T38 t246 0).f0) = 1 then (if ((rd_T38 t246 0).f1) = 65535 then (if t254 = 0 then (if (t253.length : Int) = 0 then (if t261 = 5 then (if t268 = 4 then (some (t275 == 2)) else (none)) else (none)) else (none)) else (none)) else (none)) else (none)) else (none)) else (none)) else (none)) = some r := H
  have A5 := Aside0.mk A50
  clear A50
  by_cases c6 : t247 = 0
  · rw [if_pos c6] at H
    have c6b0 : (t247 == 0) = true := beq_iff_eq.mpr c6
    have c6b1 : (t247 != 0) = false := bne_eq_false_iff_eq.mpr c6
    clear c6
    by_cases c7 : (t246.length : Int) = 1
    · rw [if_pos c7] at H
      have c7b0 : ((t246.length : Int) == 1) = true := beq_iff_eq.mpr c7
      have c7b1 : ((t246.length : Int) != 1) = false := bne_eq_false_iff_eq.mpr c7
      clear c7
      by_cases c8 : 0 < (t246.length : Int)
      · rw [if_pos c8] at H
        have c8b0 : decide (0 < (t246.length : Int)) = true := decide_eq_true c8
        have c8b1 : decide (0 < t246.length) = true := decide_eq_true (by omega)
        clear c8
        by_cases c9 : ((rd_T38 t246 0).f0) = 1
        · rw [if_pos c9] at H
          have c9b0 : (((rd_T38 t246 0).f0) == 1) = true := beq_iff_eq.mpr c9
          have c9b1 : (((rd_T38 t246 0).f0) != 1) = false := bne_eq_false_iff_eq.mpr c9
          clear c9
          by_cases c10 : ((rd_T38 t246 0).f1) = 65535
          · rw [if_pos c10] at H
            have c10b0 : (((rd_T38 t246 0).f1) == 65535) = true := beq_iff_eq.mpr c10
            have c10b1 : (((rd_T38 t246 0).f1) != 65535) = false := bne_eq_false_iff_eq.mpr c10
            clear c10
            by_cases c11 : t254 = 0
            · rw [if_pos c11] at H
              have c11b0 : (t254 == 0) = true := beq_iff_eq.mpr c11
              have c11b1 : (t254 != 0) = false := bne_eq_false_iff_eq.mpr c11
              clear c11
              by_cases c12 : (t253.length : Int) = 0
              · rw [if_pos c12] at H
                have c12b0 : ((t253.length : Int) == 0) = true := beq_iff_eq.mpr c12
                have c12b1 : ((t253.length : Int) != 0) = false := bne_eq_false_iff_eq.mpr c12
                clear c12
                by_cases c13 : t261 = 5
                · rw [if_pos c13] at H
                  have c13b0 : (t261 == 5) = true := beq_iff_eq.mpr c13
                  have c13b1 : (t261 != 5) = false := bne_eq_false_iff_eq.mpr c13
                  clear c13
                  by_cases c14 : t268 = 4
                  · rw [if_pos c14] at H
                    have c14b0 : (t268 == 4) = true := beq_iff_eq.mpr c14
                    have c14b1 : (t268 != 4) = false := bne_eq_false_iff_eq.mpr c14
                    clear c14
                    obtain rfl := Option.some.inj H
                    go_enter Try.func8, Try.ntmps8
                    go_wp2_with (first | ((with_reducible refine gate_dst (N := 12) rfl ?_); (try (refine gate_guard (by rfl) ?_; dsimp only)); refine Kd.R_lit (Kd.int .u8) _ 5 ?hg (N := 12) ?hd (xs := ([1, 1, 0] : List Int)) (inner := [.int .u8 1, .int .u8 1, .int .u8 0]) (ok := fun _ => True) (okp := fun _ => True) ?hr ?hp (fun _ hk => hk) trivial (Below.refl _ _) (Nat.le_refl _) (by simp) ?_; (case hd => rfl); (case hg => rfl); (case hr => first | (go_simp; done) | (go_simp; rfl)); (case hp => exact (Reps.one (show Kd.M (Kd.int .u8) _ _ _ 1 [.int .u8 1] from rfl) (Reps.one (show Kd.M (Kd.int .u8) _ _ _ 1 [.int .u8 1] from rfl) (Reps.one (show Kd.M (Kd.int .u8) _ _ _ 0 [.int .u8 0] from rfl) (Reps.none _ _))))); intro v244 w15 ho16 hb hg_ hnew_; clear hg_ hnew_; (first | rw [← Ny243.out] at ho16 | (simp only [Int.reduceToNat] at ho16; rw [← Ny243.out] at ho16)); have n0_ := Aside0.mk (Kd.R_lower ho16 (below_size (zb))); have n1_ := Aside0.mk (below_step (zb) hb); clear HB; have HO245 := n0_; have HB := n1_; clear n0_ n1_; clear hb ho16; obtain ⟨Ao17, co17, eo17⟩ := Kd.R_slice HO245.out; subst eo17) | ((with_reducible refine gate_callee (f := 9) rfl ?_); refine goesL_ (some 13) rfl rfl Try.func9 (by kernel_rfl) rfl #[.slice Ao17 y243.length co17] rfl zargs ?_; (with_reducible refine (class_Get.calls k _ _ y243 t246 t247 _ ?side1 ?side2 A1.out).mono ?_); (case side1 => repeat (first | exact (Kd.R_reads' HO245.out).2.2 | (with_reducible refine Kd.C_alloc ?_ _) | (with_reducible refine Kd.C_drewN ?_ _) | (with_reducible refine Kd.C_drew ?_))); (case side2 => exact (Kd.R_reads' HO245.out).2.1); rintro e w18 ⟨v248, rfl, ho0, hb⟩; refine ⟨_, rfl, ?_⟩; have n0_ := Aside0.mk (Kd.R_below (by (with_reducible repeat (first | apply Kd.R_alloc | apply Kd.R_drewN | apply Kd.R_drew)); exact HO245.out) hb); have n1_ := Aside0.mk (Kd.R_lower (Kd.R_new' ho0 (Kd.R_lt (by (with_reducible repeat (first | apply Kd.R_alloc | apply Kd.R_drewN | apply Kd.R_drew)); exact HO245.out))) (below_size (zb))); have n2_ := Aside0.mk (below_step (zb) hb); clear HO245; clear HB; have HO245 := n0_; have HO249 := n1_; have HB := n2_; clear n0_ n1_ n2_; (try clear hb); (try clear hb2); (try clear hk); (try clear hi); (try clear ho0)) | ((with_reducible refine gate_dst (N := 17) rfl ?_); (try (refine gate_guard (by rfl) ?_; dsimp only)); refine Kd.R_lit (Kd.int .u8) _ 5 ?hg (N := 17) ?hd (xs := ([0] : List Int)) (inner := [.int .u8 0]) (ok := fun _ => True) (okp := fun _ => True) ?hr ?hp (fun _ hk => hk) trivial (Below.refl _ _) (Nat.le_refl _) (by simp) ?_; (case hd => rfl); (case hg => rfl); (case hr => first | (go_simp; done) | (go_simp; rfl)); (case hp => exact (Reps.one (show Kd.M (Kd.int .u8) _ _ _ 0 [.int .u8 0] from rfl) (Reps.none _ _))); intro v251 w19 ho20 hb hg_ hnew_; clear hg_ hnew_; (first | rw [← Ny250.out] at ho20 | (simp only [Int.reduceToNat] at ho20; rw [← Ny250.out] at ho20)); have n0_ := Aside0.mk (Kd.R_elder' (by (with_reducible repeat (first | apply Kd.R_alloc | apply Kd.R_drewN | apply Kd.R_drew)); exact HO245.out) (Kd.R_base ho20) hb); have n1_ := Aside0.mk (Kd.R_elder' (by (with_reducible repeat (first | apply Kd.R_alloc | apply Kd.R_drewN | apply Kd.R_drew)); exact HO249.out) (Kd.R_base ho20) hb); have n2_ := Aside0.mk (Kd.R_lower (Kd.R_new' ho20 (Kd.R_lt (by (with_reducible repeat (first | apply Kd.R_alloc | apply Kd.R_drewN | apply Kd.R_drew)); exact HO245.out))) (below_size (zb))); have n3_ := Aside0.mk (below_step (zb) hb); clear HO245; clear HO249; clear HB; have HO245 := n0_; have HO249 := n1_; have HO252 := n2_; have HB := n3_; clear n0_ n1_ n2_ n3_; clear hb ho20; obtain ⟨Ao21, co21, eo21⟩ := Kd.R_slice HO252.out; subst eo21) | ((with_reducible refine gate_callee (f := 9) rfl ?_); refine goesL_ (some 18) rfl rfl Try.func9 (by kernel_rfl) rfl #[.slice Ao21 y250.length co21] rfl zargs ?_; (with_reducible refine (class_Get.calls k _ _ y250 t253 t254 _ ?side1 ?side2 A2.out).mono ?_); (case side1 => repeat (first | exact (Kd.R_reads' HO252.out).2.2 | (with_reducible refine Kd.C_alloc ?_ _) | (with_reducible refine Kd.C_drewN ?_ _) | (with_reducible refine Kd.C_drew ?_))); (case side2 => exact (Kd.R_reads' HO252.out).2.1); rintro e w22 ⟨v255, rfl, ho0, hb⟩; refine ⟨_, rfl, ?_⟩; have n0_ := Aside0.mk (Kd.R_below (by (with_reducible repeat (first | apply Kd.R_alloc | apply Kd.R_drewN | apply Kd.R_drew)); exact HO245.out) hb); have n1_ := Aside0.mk (Kd.R_elder' (by (with_reducible repeat (first | apply Kd.R_alloc | apply Kd.R_drewN | apply Kd.R_drew)); exact HO249.out) (Kd.R_base ho0) hb); have n2_ := Aside0.mk (Kd.R_below (by (with_reducible repeat (first | apply Kd.R_alloc | apply Kd.R_drewN | apply Kd.R_drew)); exact HO252.out) hb); have n3_ := Aside0.mk (Kd.R_lower (Kd.R_new' (Kd.R_new' (Kd.R_new' ho0 (Kd.R_lt (by (with_reducible repeat (first | apply Kd.R_alloc | apply Kd.R_drewN | apply Kd.R_drew)); exact HO245.out))) (Kd.R_lt (by (with_reducible repeat (first | apply Kd.R_alloc | apply Kd.R_drewN | apply Kd.R_drew)); exact HO249.out))) (Kd.R_lt (by (with_reducible repeat (first | apply Kd.R_alloc | apply Kd.R_drewN | apply Kd.R_drew)); exact HO252.out))) (below_size (zb))); have n4_ := Aside0.mk (below_step (zb) hb); clear HO245; clear HO249; clear HO252; clear HB; have HO245 := n0_; have HO249 := n1_; have HO252 := n2_; have HO256 := n3_; have HB := n4_; clear n0_ n1_ n2_ n3_ n4_; (try clear hb); (try clear hb2); (try clear hk); (try clear hi); (try clear ho0)) | ((with_reducible refine gate_dst (N := 22) rfl ?_); (try (refine gate_guard (by rfl) ?_; dsimp only)); refine Kd.R_lit (Kd.int .u8) _ 5 ?hg (N := 22) ?hd (xs := ([1, 8, 0, 0, 0, 0, 0] : List Int)) (inner := [.int .u8 1, .int .u8 8, .int .u8 0, .int .u8 0, .int .u8 0, .int .u8 0, .int .u8 0]) (ok := fun _ => True) (okp := fun _ => True) ?hr ?hp (fun _ hk => hk) trivial (Below.refl _ _) (Nat.le_refl _) (by simp) ?_; (case hd => rfl); (case hg => rfl); (case hr => first | (go_simp; done) | (go_simp; rfl)); (case hp => exact (Reps.one (show Kd.M (Kd.int .u8) _ _ _ 1 [.int .u8 1] from rfl) (Reps.one (show Kd.M (Kd.int .u8) _ _ _ 8 [.int .u8 8] from rfl) (Reps.one (show Kd.M (Kd.int .u8) _ _ _ 0 [.int .u8 0] from rfl) (Reps.one (show Kd.M (Kd.int .u8) _ _ _ 0 [.int .u8 0] from rfl) (Reps.one (show Kd.M (Kd.int .u8) _ _ _ 0 [.int .u8 0] from rfl) (Reps.one (show Kd.M (Kd.int .u8) _ _ _ 0 [.int .u8 0] from rfl) (Reps.one (show Kd.M (Kd.int .u8) _ _ _ 0 [.int .u8 0] from rfl) (Reps.none _ _))))))))); intro v258 w23 ho24 hb hg_ hnew_; clear hg_ hnew_; (first | rw [← Ny257.out] at ho24 | (simp only [Int.reduceToNat] at ho24; rw [← Ny257.out] at ho24)); have n0_ := Aside0.mk (Kd.R_elder' (by (with_reducible repeat (first | apply Kd.R_alloc | apply Kd.R_drewN | apply Kd.R_drew)); exact HO245.out) (Kd.R_base ho24) hb); have n1_ := Aside0.mk (Kd.R_elder' (by (with_reducible repeat (first | apply Kd.R_alloc | apply Kd.R_drewN | apply Kd.R_drew)); exact HO249.out) (Kd.R_base ho24) hb); have n2_ := Aside0.mk (Kd.R_elder' (by (with_reducible repeat (first | apply Kd.R_alloc | apply Kd.R_drewN | apply Kd.R_drew)); exact HO252.out) (Kd.R_base ho24) hb); have n3_ := Aside0.mk (Kd.R_elder' (by (with_reducible repeat (first | apply Kd.R_alloc | apply Kd.R_drewN | apply Kd.R_drew)); exact HO256.out) (Kd.R_base ho24) hb); have n4_ := Aside0.mk (Kd.R_lower (Kd.R_new' (Kd.R_new' ho24 (Kd.R_lt (by (with_reducible repeat (first | apply Kd.R_alloc | apply Kd.R_drewN | apply Kd.R_drew)); exact HO245.out))) (Kd.R_lt (by (with_reducible repeat (first | apply Kd.R_alloc | apply Kd.R_drewN | apply Kd.R_drew)); exact HO252.out))) (below_size (zb))); have n5_ := Aside0.mk (below_step (zb) hb); clear HO245; clear HO249; clear HO252; clear HO256; clear HB; have HO245 := n0_; have HO249 := n1_; have HO252 := n2_; have HO256 := n3_; have HO259 := n4_; have HB := n5_; clear n0_ n1_ n2_ n3_ n4_ n5_; clear hb ho24; obtain ⟨Ao25, co25, eo25⟩ := Kd.R_slice HO259.out; subst eo25) | ((with_reducible refine gate_callee (f := 9) rfl ?_); refine goesL_ (some 23) rfl rfl Try.func9 (by kernel_rfl) rfl #[.slice Ao25 y257.length co25] rfl zargs ?_; (with_reducible refine (class_Get.calls k _ _ y257 t260 t261 _ ?side1 ?side2 A3.out).mono ?_); (case side1 => repeat (first | exact (Kd.R_reads' HO259.out).2.2 | (with_reducible refine Kd.C_alloc ?_ _) | (with_reducible refine Kd.C_drewN ?_ _) | (with_reducible refine Kd.C_drew ?_))); (case side2 => exact (Kd.R_reads' HO259.out).2.1); rintro e w26 ⟨v262, rfl, ho0, hb⟩; refine ⟨_, rfl, ?_⟩; have n0_ := Aside0.mk (Kd.R_below (by (with_reducible repeat (first | apply Kd.R_alloc | apply Kd.R_drewN | apply Kd.R_drew)); exact HO245.out) hb); have n1_ := Aside0.mk (Kd.R_elder' (by (with_reducible repeat (first | apply Kd.R_alloc | apply Kd.R_drewN | apply Kd.R_drew)); exact HO249.out) (Kd.R_base ho0) hb); have n2_ := Aside0.mk (Kd.R_below (by (with_reducible repeat (first | apply Kd.R_alloc | apply Kd.R_drewN | apply Kd.R_drew)); exact HO252.out) hb); have n3_ := Aside0.mk (Kd.R_elder' (by (with_reducible repeat (first | apply Kd.R_alloc | apply Kd.R_drewN | apply Kd.R_drew)); exact HO256.out) (Kd.R_base ho0) hb); have n4_ := Aside0.mk (Kd.R_below (by (with_reducible repeat (first | apply Kd.R_alloc | apply Kd.R_drewN | apply Kd.R_drew)); exact HO259.out) hb); have n5_ := Aside0.mk (Kd.R_lower (Kd.R_new' (Kd.R_new' (Kd.R_new' (Kd.R_new' (Kd.R_new' ho0 (Kd.R_lt (by (with_reducible repeat (first | apply Kd.R_alloc | apply Kd.R_drewN | apply Kd.R_drew)); exact HO245.out))) (Kd.R_lt (by (with_reducible repeat (first | apply Kd.R_alloc | apply Kd.R_drewN | apply Kd.R_drew)); exact HO249.out))) (Kd.R_lt (by (with_reducible repeat (first | apply Kd.R_alloc | apply Kd.R_drewN | apply Kd.R_drew)); exact HO252.out))) (Kd.R_lt (by (with_reducible repeat (first | apply Kd.R_alloc | apply Kd.R_drewN | apply Kd.R_drew)); exact HO256.out))) (Kd.R_lt (by (with_reducible repeat (first | apply Kd.R_alloc | apply Kd.R_drewN | apply Kd.R_drew)); exact HO259.out))) (below_size (zb))); have n6_ := Aside0.mk (below_step (zb) hb); clear HO245; clear HO249; clear HO252; clear HO256; clear HO259; clear HB; have HO245 := n0_; have HO249 := n1_; have HO252 := n2_; have HO256 := n3_; have HO259 := n4_; have HO263 := n5_; have HB := n6_; clear n0_ n1_ n2_ n3_ n4_ n5_ n6_; (try clear hb); (try clear hb2); (try clear hk); (try clear hi); (try clear ho0)) | ((with_reducible refine gate_dst (N := 27) rfl ?_); (try (refine gate_guard (by rfl) ?_; dsimp only)); refine Kd.R_lit (Kd.int .u8) _ 5 ?hg (N := 27) ?hd (xs := ([1, 8] : List Int)) (inner := [.int .u8 1, .int .u8 8]) (ok := fun _ => True) (okp := fun _ => True) ?hr ?hp (fun _ hk => hk) trivial (Below.refl _ _) (Nat.le_refl _) (by simp) ?_; (case hd => rfl); (case hg => rfl); (case hr => first | (go_simp; done) | (go_simp; rfl)); (case hp => exact (Reps.one (show Kd.M (Kd.int .u8) _ _ _ 1 [.int .u8 1] from rfl) (Reps.one (show Kd.M (Kd.int .u8) _ _ _ 8 [.int .u8 8] from rfl) (Reps.none _ _)))); intro v265 w27 ho28 hb hg_ hnew_; clear hg_ hnew_; (first | rw [← Ny264.out] at ho28 | (simp only [Int.reduceToNat] at ho28; rw [← Ny264.out] at ho28)); have n0_ := Aside0.mk (Kd.R_elder' (by (with_reducible repeat (first | apply Kd.R_alloc | apply Kd.R_drewN | apply Kd.R_drew)); exact HO245.out) (Kd.R_base ho28) hb); have n1_ := Aside0.mk (Kd.R_elder' (by (with_reducible repeat (first | apply Kd.R_alloc | apply Kd.R_drewN | apply Kd.R_drew)); exact HO249.out) (Kd.R_base ho28) hb); have n2_ := Aside0.mk (Kd.R_elder' (by (with_reducible repeat (first | apply Kd.R_alloc | apply Kd.R_drewN | apply Kd.R_drew)); exact HO252.out) (Kd.R_base ho28) hb); have n3_ := Aside0.mk (Kd.R_elder' (by (with_reducible repeat (first | apply Kd.R_alloc | apply Kd.R_drewN | apply Kd.R_drew)); exact HO256.out) (Kd.R_base ho28) hb); have n4_ := Aside0.mk (Kd.R_elder' (by (with_reducible repeat (first | apply Kd.R_alloc | apply Kd.R_drewN | apply Kd.R_drew)); exact HO259.out) (Kd.R_base ho28) hb); have n5_ := Aside0.mk (Kd.R_elder' (by (with_reducible repeat (first | apply Kd.R_alloc | apply Kd.R_drewN | apply Kd.R_drew)); exact HO263.out) (Kd.R_base ho28) hb); have n6_ := Aside0.mk (Kd.R_lower (Kd.R_new' (Kd.R_new' (Kd.R_new' ho28 (Kd.R_lt (by (with_reducible repeat (first | apply Kd.R_alloc | apply Kd.R_drewN | apply Kd.R_drew)); exact HO245.out))) (Kd.R_lt (by (with_reducible repeat (first | apply Kd.R_alloc | apply Kd.R_drewN | apply Kd.R_drew)); exact HO252.out))) (Kd.R_lt (by (with_reducible repeat (first | apply Kd.R_alloc | apply Kd.R_drewN | apply Kd.R_drew)); exact HO259.out))) (below_size (zb))); have n7_ := Aside0.mk (below_step (zb) hb); clear HO245; clear HO249; clear HO252; clear HO256; clear HO259; clear HO263; clear HB; have HO245 := n0_; have HO249 := n1_; have HO252 := n2_; have HO256 := n3_; have HO259 := n4_; have HO263 := n5_; have HO266 := n6_; have HB := n7_; clear n0_ n1_ n2_ n3_ n4_ n5_ n6_ n7_; clear hb ho28; obtain ⟨Ao29, co29, eo29⟩ := Kd.R_slice HO266.out; subst eo29) | ((with_reducible refine gate_callee (f := 9) rfl ?_); refine goesL_ (some 28) rfl rfl Try.func9 (by kernel_rfl) rfl #[.slice Ao29 y264.length co29] rfl zargs ?_; (with_reducible refine (class_Get.calls k _ _ y264 t267 t268 _ ?side1 ?side2 A4.out).mono ?_); (case side1 => repeat (first | exact (Kd.R_reads' HO266.out).2.2 | (with_reducible refine Kd.C_alloc ?_ _) | (with_reducible refine Kd.C_drewN ?_ _) | (with_reducible refine Kd.C_drew ?_))); (case side2 => exact (Kd.R_reads' HO266.out).2.1); rintro e w30 ⟨v269, rfl, ho0, hb⟩; refine ⟨_, rfl, ?_⟩; have n0_ := Aside0.mk (Kd.R_below (by (with_reducible repeat (first | apply Kd.R_alloc | apply Kd.R_drewN | apply Kd.R_drew)); exact HO245.out) hb); have n1_ := Aside0.mk (Kd.R_elder' (by (with_reducible repeat (first | apply Kd.R_alloc | apply Kd.R_drewN | apply Kd.R_drew)); exact HO249.out) (Kd.R_base ho0) hb); have n2_ := Aside0.mk (Kd.R_below (by (with_reducible repeat (first | apply Kd.R_alloc | apply Kd.R_drewN | apply Kd.R_drew)); exact HO252.out) hb); have n3_ := Aside0.mk (Kd.R_elder' (by (with_reducible repeat (first | apply Kd.R_alloc | apply Kd.R_drewN | apply Kd.R_drew)); exact HO256.out) (Kd.R_base ho0) hb); have n4_ := Aside0.mk (Kd.R_below (by (with_reducible repeat (first | apply Kd.R_alloc | apply Kd.R_drewN | apply Kd.R_drew)); exact HO259.out) hb); have n5_ := Aside0.mk (Kd.R_elder' (by (with_reducible repeat (first | apply Kd.R_alloc | apply Kd.R_drewN | apply Kd.R_drew)); exact HO263.out) (Kd.R_base ho0) hb); have n6_ := Aside0.mk (Kd.R_below (by (with_reducible repeat (first | apply Kd.R_alloc | apply Kd.R_drewN | apply Kd.R_drew)); exact HO266.out) hb); have n7_ := Aside0.mk (Kd.R_lower (Kd.R_new' (Kd.R_new' (Kd.R_new' (Kd.R_new' (Kd.R_new' (Kd.R_new' (Kd.R_new' ho0 (Kd.R_lt (by (with_reducible repeat (first | apply Kd.R_alloc | apply Kd.R_drewN | apply Kd.R_drew)); exact HO245.out))) (Kd.R_lt (by (with_reducible repeat (first | apply Kd.R_alloc | apply Kd.R_drewN | apply Kd.R_drew)); exact HO249.out))) (Kd.R_lt (by (with_reducible repeat (first | apply Kd.R_alloc | apply Kd.R_drewN | apply Kd.R_drew)); exact HO252.out))) (Kd.R_lt (by (with_reducible repeat (first | apply Kd.R_alloc | apply Kd.R_drewN | apply Kd.R_drew)); exact HO256.out))) (Kd.R_lt (by (with_reducible repeat (first | apply Kd.R_alloc | apply Kd.R_drewN | apply Kd.R_drew)); exact HO259.out))) (Kd.R_lt (by (with_reducible repeat (first | apply Kd.R_alloc | apply Kd.R_drewN | apply Kd.R_drew)); exact HO263.out))) (Kd.R_lt (by (with_reducible repeat (first | apply Kd.R_alloc | apply Kd.R_drewN | apply Kd.R_drew)); exact HO266.out))) (below_size (zb))); have n8_ := Aside0.mk (below_step (zb) hb); clear HO245; clear HO249; clear HO252; clear HO256; clear HO259; clear HO263; clear HO266; clear HB; have HO245 := n0_; have HO249 := n1_; have HO252 := n2_; have HO256 := n3_; have HO259 := n4_; have HO263 := n5_; have HO266 := n6_; have HO270 := n7_; have HB := n8_; clear n0_ n1_ n2_ n3_ n4_ n5_ n6_ n7_ n8_; (try clear hb); (try clear hb2); (try clear hk); (try clear hi); (try clear ho0)) | ((with_reducible refine gate_dst (N := 33) rfl ?_); (try (refine gate_guard (by rfl) ?_; dsimp only)); refine Kd.R_lit k38 _ 38 ?hg (N := 33) ?hd (xs := ([(⟨1, 0, ([] : List (S41)), ([] : List (S44)), ([] : List Int), ([] : List (S66))⟩ : S38)] : List (S38))) (inner := [.int .u8 1, .int .u16 0, .slice none 0 0, .slice none 0 0, .slice none 0 0, .slice none 0 0]) (ok := fun _ => True) (okp := fun _ => True) ?hr ?hp (fun _ hk => hk) trivial (Below.refl _ _) (Nat.le_refl _) (by simp) ?_; (case hd => rfl); (case hg => rfl); (case hr => first | (go_simp; done) | (go_simp; rfl)); (case hp => exact (Reps.c6 (show Kd.M k38 _ _ _ (⟨1, 0, ([] : List (S41)), ([] : List (S44)), ([] : List Int), ([] : List (S66))⟩ : S38) [.int .u8 1, .int .u16 0, .slice none 0 0, .slice none 0 0, .slice none 0 0, .slice none 0 0] from (k38_mkM _ _ _ (⟨1, 0, ([] : List (S41)), ([] : List (S44)), ([] : List Int), ([] : List (S66))⟩ : S38) (Kd.R_nil _ _ _ _ _) (Kd.R_nil _ _ _ _ _) (Kd.R_nil _ _ _ _ _) (Kd.R_nil _ _ _ _ _))) (Reps.none _ _))); intro v272 w31 ho32 hb hg_ hnew_; clear hg_ hnew_; (first | rw [← Ny271.out] at ho32 | (simp only [Int.reduceToNat] at ho32; rw [← Ny271.out] at ho32)); have n0_ := Aside0.mk (Kd.R_below (by (with_reducible repeat (first | apply Kd.R_alloc | apply Kd.R_drewN | apply Kd.R_drew)); exact HO245.out) hb); have n1_ := Aside0.mk (Kd.R_elder' (by (with_reducible repeat (first | apply Kd.R_alloc | apply Kd.R_drewN | apply Kd.R_drew)); exact HO249.out) (Kd.R_base ho32) hb); have n2_ := Aside0.mk (Kd.R_below (by (with_reducible repeat (first | apply Kd.R_alloc | apply Kd.R_drewN | apply Kd.R_drew)); exact HO252.out) hb); have n3_ := Aside0.mk (Kd.R_elder' (by (with_reducible repeat (first | apply Kd.R_alloc | apply Kd.R_drewN | apply Kd.R_drew)); exact HO256.out) (Kd.R_base ho32) hb); have n4_ := Aside0.mk (Kd.R_below (by (with_reducible repeat (first | apply Kd.R_alloc | apply Kd.R_drewN | apply Kd.R_drew)); exact HO259.out) hb); have n5_ := Aside0.mk (Kd.R_elder' (by (with_reducible repeat (first | apply Kd.R_alloc | apply Kd.R_drewN | apply Kd.R_drew)); exact HO263.out) (Kd.R_base ho32) hb); have n6_ := Aside0.mk (Kd.R_below (by (with_reducible repeat (first | apply Kd.R_alloc | apply Kd.R_drewN | apply Kd.R_drew)); exact HO266.out) hb); have n7_ := Aside0.mk (Kd.R_elder' (by (with_reducible repeat (first | apply Kd.R_alloc | apply Kd.R_drewN | apply Kd.R_drew)); exact HO270.out) (Kd.R_base ho32) hb); have n8_ := Aside0.mk (Kd.R_lower (Kd.R_new' (Kd.R_new' (Kd.R_new' (Kd.R_new' (Kd.R_new' (Kd.R_new' (Kd.R_new' (Kd.R_new' ho32 (Kd.R_lt (by (with_reducible repeat (first | apply Kd.R_alloc | apply Kd.R_drewN | apply Kd.R_drew)); exact HO245.out))) (Kd.R_lt (by (with_reducible repeat (first | apply Kd.R_alloc | apply Kd.R_drewN | apply Kd.R_drew)); exact HO249.out))) (Kd.R_lt (by (with_reducible repeat (first | apply Kd.R_alloc | apply Kd.R_drewN | apply Kd.R_drew)); exact HO252.out))) (Kd.R_lt (by (with_reducible repeat (first | apply Kd.R_alloc | apply Kd.R_drewN | apply Kd.R_drew)); exact HO256.out))) (Kd.R_lt (by (with_reducible repeat (first | apply Kd.R_alloc | apply Kd.R_drewN | apply Kd.R_drew)); exact HO259.out))) (Kd.R_lt (by (with_reducible repeat (first | apply Kd.R_alloc | apply Kd.R_drewN | apply Kd.R_drew)); exact HO263.out))) (Kd.R_lt (by (with_reducible repeat (first | apply Kd.R_alloc | apply Kd.R_drewN | apply Kd.R_drew)); exact HO266.out))) (Kd.R_lt (by (with_reducible repeat (first | apply Kd.R_alloc | apply Kd.R_drewN | apply Kd.R_drew)); exact HO270.out))) (below_size (zb))); have n9_ := Aside0.mk (below_step (zb) hb); clear HO245; clear HO249; clear HO252; clear HO256; clear HO259; clear HO263; clear HO266; clear HO270; clear HB; have HO245 := n0_; have HO249 := n1_; have HO252 := n2_; have HO256 := n3_; have HO259 := n4_; have HO263 := n5_; have HO266 := n6_; have HO270 := n7_; have HO273 := n8_; have HB := n9_; clear n0_ n1_ n2_ n3_ n4_ n5_ n6_ n7_ n8_ n9_; clear hb ho32; obtain ⟨Ao33, co33, eo33⟩ := Kd.R_slice HO273.out; subst eo33) | ((with_reducible refine gate_callee (f := 7) rfl ?_); refine goesL_ (some 34) rfl rfl Try.func7 (by kernel_rfl) rfl #[.slice Ao33 y271.length co33] rfl zargs ?_; (with_reducible refine (class_Put.calls _ _ y271 t274 t275 _ ?side1 ?side2 A5.out).mono ?_); (case side1 => repeat (first | exact (Kd.R_reads' HO273.out).2.2 | (with_reducible refine Kd.C_alloc ?_ _) | (with_reducible refine Kd.C_drewN ?_ _) | (with_reducible refine Kd.C_drew ?_))); (case side2 => exact (Kd.R_reads' HO273.out).2.1); rintro e w34 ⟨v276, rfl, ho0, hb⟩; refine ⟨_, rfl, ?_⟩; have n0_ := Aside0.mk (Kd.R_elder' (by (with_reducible repeat (first | apply Kd.R_alloc | apply Kd.R_drewN | apply Kd.R_drew)); exact HO245.out) (Kd.R_base ho0) hb); have n1_ := Aside0.mk (Kd.R_elder' (by (with_reducible repeat (first | apply Kd.R_alloc | apply Kd.R_drewN | apply Kd.R_drew)); exact HO249.out) (Kd.R_base ho0) hb); have n2_ := Aside0.mk (Kd.R_elder' (by (with_reducible repeat (first | apply Kd.R_alloc | apply Kd.R_drewN | apply Kd.R_drew)); exact HO252.out) (Kd.R_base ho0) hb); have n3_ := Aside0.mk (Kd.R_elder' (by (with_reducible repeat (first | apply Kd.R_alloc | apply Kd.R_drewN | apply Kd.R_drew)); exact HO256.out) (Kd.R_base ho0) hb); have n4_ := Aside0.mk (Kd.R_elder' (by (with_reducible repeat (first | apply Kd.R_alloc | apply Kd.R_drewN | apply Kd.R_drew)); exact HO259.out) (Kd.R_base ho0) hb); have n5_ := Aside0.mk (Kd.R_elder' (by (with_reducible repeat (first | apply Kd.R_alloc | apply Kd.R_drewN | apply Kd.R_drew)); exact HO263.out) (Kd.R_base ho0) hb); have n6_ := Aside0.mk (Kd.R_elder' (by (with_reducible repeat (first | apply Kd.R_alloc | apply Kd.R_drewN | apply Kd.R_drew)); exact HO266.out) (Kd.R_base ho0) hb); have n7_ := Aside0.mk (Kd.R_elder' (by (with_reducible repeat (first | apply Kd.R_alloc | apply Kd.R_drewN | apply Kd.R_drew)); exact HO270.out) (Kd.R_base ho0) hb); have n8_ := Aside0.mk (Kd.R_elder' (by (with_reducible repeat (first | apply Kd.R_alloc | apply Kd.R_drewN | apply Kd.R_drew)); exact HO273.out) (Kd.R_base ho0) hb); have n9_ := Aside0.mk (Kd.R_lower (Kd.R_new' (Kd.R_new' (Kd.R_new' (Kd.R_new' ho0 (Kd.R_lt (by (with_reducible repeat (first | apply Kd.R_alloc | apply Kd.R_drewN | apply Kd.R_drew)); exact HO245.out))) (Kd.R_lt (by (with_reducible repeat (first | apply Kd.R_alloc | apply Kd.R_drewN | apply Kd.R_drew)); exact HO252.out))) (Kd.R_lt (by (with_reducible repeat (first | apply Kd.R_alloc | apply Kd.R_drewN | apply Kd.R_drew)); exact HO259.out))) (Kd.R_lt (by (with_reducible repeat (first | apply Kd.R_alloc | apply Kd.R_drewN | apply Kd.R_drew)); exact HO266.out))) (below_size (zb))); have n10_ := Aside0.mk (below_step (zb) hb); clear HO245; clear HO249; clear HO252; clear HO256; clear HO259; clear HO263; clear HO266; clear HO270; clear HO273; clear HB; have HO245 := n0_; have HO249 := n1_; have HO252 := n2_; have HO256 := n3_; have HO259 := n4_; have HO263 := n5_; have HO266 := n6_; have HO270 := n7_; have HO273 := n8_; have HO277 := n9_; have HB := n10_; clear n0_ n1_ n2_ n3_ n4_ n5_ n6_ n7_ n8_ n9_ n10_; (try clear hb); (try clear hb2); (try clear hk); (try clear hi); (try clear ho0); obtain ⟨Ao35, co35, eo35⟩ := Kd.R_slice HO249.out; subst eo35; have p278 : 0 ≤ (0 : Int) := (by omega); have q278 : 0 < (t246.length : Int) := of_decide_eq_true (by first | (with_reducible assumption) | assumption); obtain ⟨ad278, A278_2, c278_2, A278_3, c278_3, A278_4, c278_4, A278_5, c278_5, e278, hx278_0, hx278_1, hx278_2, hx278_3, hx278_4, hx278_5, hl278_2, hi278_2, hl278_3, hi278_3, hl278_4, hi278_4, hl278_5, hi278_5⟩ := at_T38 (Kd.R_reads' HO249.out).2.2 0 p278 q278; cases e278; obtain ⟨ce278, hce278, hMe278, hcc278⟩ := Kd.R_get HO249.out z38 0 p278 (by first | exact q278 | exact of_decide_eq_true (by first | (with_reducible assumption) | assumption) | (have e_ := (Kd.R_reads' HO249.out).1; omega)); obtain ⟨ve278_2, ve278_3, ve278_4, ve278_5, rfl, ge278_2, ge278_3, ge278_4, ge278_5⟩ := k38_openM hMe278; have hv278_2 := hcc278 2 _ rfl; rw [add_field _ _ 2 (by omega)] at hv278_2; replace hv278_2 := Option.some.inj (hv278_2.symm.trans hx278_2); rw [hv278_2] at ge278_2; have HL278_2 := Aside0.mk (show Kd.R k41 41 _ _ _ _ ((rd_T38 t246 0).f2) from ge278_2); clear hv278_2 ge278_2; have hv278_3 := hcc278 3 _ rfl; rw [add_field _ _ 3 (by omega)] at hv278_3; replace hv278_3 := Option.some.inj (hv278_3.symm.trans hx278_3); rw [hv278_3] at ge278_3; have HL278_3 := Aside0.mk (show Kd.R k44 44 _ _ _ _ ((rd_T38 t246 0).f3) from ge278_3); clear hv278_3 ge278_3; have hv278_4 := hcc278 4 _ rfl; rw [add_field _ _ 4 (by omega)] at hv278_4; replace hv278_4 := Option.some.inj (hv278_4.symm.trans hx278_4); rw [hv278_4] at ge278_4; have HL278_4 := Aside0.mk (show Kd.R (Kd.int .u16) 23 _ _ _ _ ((rd_T38 t246 0).f4) from ge278_4); clear hv278_4 ge278_4; have hv278_5 := hcc278 5 _ rfl; rw [add_field _ _ 5 (by omega)] at hv278_5; replace hv278_5 := Option.some.inj (hv278_5.symm.trans hx278_5); rw [hv278_5] at ge278_5; have HL278_5 := Aside0.mk (show Kd.R k66 66 _ _ _ _ ((rd_T38 t246 0).f5) from ge278_5); clear hv278_5 ge278_5; clear hcc278 hce278; have qi278 : (0 < t246.length) = True := eq_true (by omega); (try rw [show ((0 : Int)).toNat = 0 from rfl] at hx278_0); (try rw [show 0 * 6 = 0 from rfl] at hx278_0); (try rw [Addr.add_zero'] at hx278_0); (try rw [show ((0 : Int)).toNat = 0 from rfl] at hx278_1); (try rw [show 0 * 6 = 0 from rfl] at hx278_1); (try rw [Addr.add_zero'] at hx278_1); (try rw [show ((0 : Int)).toNat = 0 from rfl] at hx278_2); (try rw [show 0 * 6 = 0 from rfl] at hx278_2); (try rw [Addr.add_zero'] at hx278_2); (try rw [show ((0 : Int)).toNat = 0 from rfl] at hx278_3); (try rw [show 0 * 6 = 0 from rfl] at hx278_3); (try rw [Addr.add_zero'] at hx278_3); (try rw [show ((0 : Int)).toNat = 0 from rfl] at hx278_4); (try rw [show 0 * 6 = 0 from rfl] at hx278_4); (try rw [Addr.add_zero'] at hx278_4); (try rw [show ((0 : Int)).toNat = 0 from rfl] at hx278_5); (try rw [show 0 * 6 = 0 from rfl] at hx278_5); (try rw [Addr.add_zero'] at hx278_5); have HR278_2 := Aside0.mk hi278_2; have HC278_2 := Aside0.mk hl278_2; clear hi278_2 hl278_2; have HR278_3 := Aside0.mk hi278_3; have HC278_3 := Aside0.mk hl278_3; clear hi278_3 hl278_3; have HR278_4 := Aside0.mk hi278_4; have HC278_4 := Aside0.mk hl278_4; clear hi278_4 hl278_4; have HR278_5 := Aside0.mk hi278_5; have HC278_5 := Aside0.mk hl278_5; clear hi278_5 hl278_5; replace p278 := eq_true p278; replace q278 := eq_true q278; have p279 : 0 ≤ (0 : Int) := (by omega); have q279 : 0 < (t246.length : Int) := of_decide_eq_true (by first | (with_reducible assumption) | assumption); obtain ⟨ad279, A279_2, c279_2, A279_3, c279_3, A279_4, c279_4, A279_5, c279_5, e279, hx279_0, hx279_1, hx279_2, hx279_3, hx279_4, hx279_5, hl279_2, hi279_2, hl279_3, hi279_3, hl279_4, hi279_4, hl279_5, hi279_5⟩ := at_T38 (Kd.R_reads' HO249.out).2.2 0 p279 q279; obtain rfl : ad278 = ad279 := (by injection e279); obtain ⟨ce279, hce279, hMe279, hcc279⟩ := Kd.R_get HO249.out z38 0 p279 (by first | exact q279 | exact of_decide_eq_true (by first | (with_reducible assumption) | assumption) | (have e_ := (Kd.R_reads' HO249.out).1; omega)); obtain ⟨ve279_2, ve279_3, ve279_4, ve279_5, rfl, ge279_2, ge279_3, ge279_4, ge279_5⟩ := k38_openM hMe279; have hv279_2 := hcc279 2 _ rfl; rw [add_field _ _ 2 (by omega)] at hv279_2; replace hv279_2 := Option.some.inj (hv279_2.symm.trans hx279_2); rw [hv279_2] at ge279_2; have HL279_2 := Aside0.mk (show Kd.R k41 41 _ _ _ _ ((rd_T38 t246 0).f2) from ge279_2); clear hv279_2 ge279_2; have hv279_3 := hcc279 3 _ rfl; rw [add_field _ _ 3 (by omega)] at hv279_3; replace hv279_3 := Option.some.inj (hv279_3.symm.trans hx279_3); rw [hv279_3] at ge279_3; have HL279_3 := Aside0.mk (show Kd.R k44 44 _ _ _ _ ((rd_T38 t246 0).f3) from ge279_3); clear hv279_3 ge279_3; have hv279_4 := hcc279 4 _ rfl; rw [add_field _ _ 4 (by omega)] at hv279_4; replace hv279_4 := Option.some.inj (hv279_4.symm.trans hx279_4); rw [hv279_4] at ge279_4; have HL279_4 := Aside0.mk (show Kd.R (Kd.int .u16) 23 _ _ _ _ ((rd_T38 t246 0).f4) from ge279_4); clear hv279_4 ge279_4; have hv279_5 := hcc279 5 _ rfl; rw [add_field _ _ 5 (by omega)] at hv279_5; replace hv279_5 := Option.some.inj (hv279_5.symm.trans hx279_5); rw [hv279_5] at ge279_5; have HL279_5 := Aside0.mk (show Kd.R k66 66 _ _ _ _ ((rd_T38 t246 0).f5) from ge279_5); clear hv279_5 ge279_5; clear hcc279 hce279; have qi279 : (0 < t246.length) = True := eq_true (by omega); (try rw [show ((0 : Int)).toNat = 0 from rfl] at hx279_0); (try rw [show 0 * 6 = 0 from rfl] at hx279_0); (try rw [Addr.add_zero'] at hx279_0); (try rw [show ((0 : Int)).toNat = 0 from rfl] at hx279_1); (try rw [show 0 * 6 = 0 from rfl] at hx279_1); (try rw [Addr.add_zero'] at hx279_1); (try rw [show ((0 : Int)).toNat = 0 from rfl] at hx279_2); (try rw [show 0 * 6 = 0 from rfl] at hx279_2); (try rw [Addr.add_zero'] at hx279_2); (try rw [show ((0 : Int)).toNat = 0 from rfl] at hx279_3); (try rw [show 0 * 6 = 0 from rfl] at hx279_3); (try rw [Addr.add_zero'] at hx279_3); (try rw [show ((0 : Int)).toNat = 0 from rfl] at hx279_4); (try rw [show 0 * 6 = 0 from rfl] at hx279_4); (try rw [Addr.add_zero'] at hx279_4); (try rw [show ((0 : Int)).toNat = 0 from rfl] at hx279_5); (try rw [show 0 * 6 = 0 from rfl] at hx279_5); (try rw [Addr.add_zero'] at hx279_5); have HR279_2 := Aside0.mk hi279_2; have HC279_2 := Aside0.mk hl279_2; clear hi279_2 hl279_2; have HR279_3 := Aside0.mk hi279_3; have HC279_3 := Aside0.mk hl279_3; clear hi279_3 hl279_3; have HR279_4 := Aside0.mk hi279_4; have HC279_4 := Aside0.mk hl279_4; clear hi279_4 hl279_4; have HR279_5 := Aside0.mk hi279_5; have HC279_5 := Aside0.mk hl279_5; clear hi279_5 hl279_5; replace p279 := eq_true p279; replace q279 := eq_true q279; have ea_ := Option.some.inj (hx278_2.symm.trans hx279_2); injection ea_ with ea_ en_ ec_; subst ea_; subst ec_; clear en_; have ea_ := Option.some.inj (hx278_3.symm.trans hx279_3); injection ea_ with ea_ en_ ec_; subst ea_; subst ec_; clear en_; have ea_ := Option.some.inj (hx278_4.symm.trans hx279_4); injection ea_ with ea_ en_ ec_; subst ea_; subst ec_; clear en_; have ea_ := Option.some.inj (hx278_5.symm.trans hx279_5); injection ea_ with ea_ en_ ec_; subst ea_; subst ec_; clear en_; obtain ⟨Ao36, co36, eo36⟩ := Kd.R_slice HO256.out; subst eo36))
                    go_ret
                    exact ⟨by first | rfl | (simp [errW_none, errW_some] <;> rfl) | (simp [*, errW_none, errW_some] <;> rfl), zb⟩
                  · rw [if_neg c14] at H
                    exact absurd H (by simp)
                · rw [if_neg c13] at H
                  exact absurd H (by simp)
              · rw [if_neg c12] at H
                exact absurd H (by simp)
            · rw [if_neg c11] at H
              exact absurd H (by simp)
          · rw [if_neg c10] at H
            exact absurd H (by simp)
        · rw [if_neg c9] at H
          exact absurd H (by simp)
      · rw [if_neg c8] at H
        exact absurd H (by simp)
    · rw [if_neg c7] at H
      exact absurd H (by simp)
  · rw [if_neg c6] at H
    exact absurd H (by simp)

/-! ### garderoberef08_IsIface: function 33 -/
def garderoberef08_IsIface.f (a0_0 : Int) (a0_1 : Int) (l0_2 : List (S41)) (l0_3 : List (S44)) (l0_4 : List Int) (l0_5 : List (S66)) : Option (Bool) := some ((Int.tmod a0_0 2) == 1)
set_option maxHeartbeats 8000000 in
set_option maxRecDepth 100000 in
theorem garderoberef08_IsIface.calls (a0_0 : Int) (a0_1 : Int) (A0_2 : Option Addr) (c0_2 : Nat) (l0_2 : List (S41)) (A0_3 : Option Addr) (c0_3 : Nat) (l0_3 : List (S44)) (A0_4 : Option Addr) (c0_4 : Nat) (l0_4 : List Int) (A0_5 : Option Addr) (c0_5 : Nat) (l0_5 : List (S66)) (r : Bool) (w : World) (hr0_2 : Kd.C k41 w A0_2 l0_2.length l0_2) (hc0_2 : l0_2.length ≤ c0_2) (hr0_3 : Kd.C k44 w A0_3 l0_3.length l0_3) (hc0_3 : l0_3.length ≤ c0_3) (hr0_4 : Kd.C (Kd.int .u16) w A0_4 l0_4.length l0_4) (hc0_4 : l0_4.length ≤ c0_4) (hr0_5 : Kd.C k66 w A0_5 l0_5.length l0_5) (hc0_5 : l0_5.length ≤ c0_5) (h : garderoberef08_IsIface.f a0_0 a0_1 l0_2 l0_3 l0_4 l0_5 = some r) :
    Calls Try.prog 33 #[.agg #[.int .u8 a0_0, .int .u16 a0_1, .slice A0_2 l0_2.length c0_2, .slice A0_3 l0_3.length c0_3, .slice A0_4 l0_4.length c0_4, .slice A0_5 l0_5.length c0_5]] w fun e w' => e = .returned (.bool r) ∧ Below w.heap.size w w' := by
  have hu38 := Try.underlying38
  have HR0_2 := Aside0.mk hr0_2
  have HC0_2 := Aside0.mk hc0_2
  clear hr0_2 hc0_2
  have HR0_3 := Aside0.mk hr0_3
  have HC0_3 := Aside0.mk hc0_3
  clear hr0_3 hc0_3
  have HR0_4 := Aside0.mk hr0_4
  have HC0_4 := Aside0.mk hc0_4
  clear hr0_4 hc0_4
  have HR0_5 := Aside0.mk hr0_5
  have HC0_5 := Aside0.mk hc0_5
  clear hr0_5 hc0_5
  have HB := Aside0.mk (Below.refl w.heap.size w)
  have H : (some ((Int.tmod a0_0 2) == 1)) = some r := h
  clear h
  obtain rfl := Option.some.inj H
  go_enter Try.func33, Try.ntmps33
  go_wp2_with (first | ((with_reducible refine gate_dst (N := 1) rfl ?_); refine zbox (N := 1) (cs := #[.int .u8 a0_0, .int .u16 a0_1, .slice A0_2 l0_2.length c0_2, .slice A0_3 l0_3.length c0_3, .slice A0_4 l0_4.length c0_4, .slice A0_5 l0_5.length c0_5]) (t := 38) ?_; intro gb280 hg w2 hbox hb; have n0_ := Aside0.mk (below_step (zb) hb); have n1_ := Aside0.mk (hbox); have n2_ := Aside0.mk ((by rw [hg]; exact (below_size (zb)) : w.heap.size ≤ gb280)); have n3_ := Aside0.mk ((by rw [hg]; exact (below_size (zb)) : w.heap.size ≤ gb280)); clear HB; have HB := n0_; have BK280 := n1_; have GW280 := n2_; have GE280 := n3_; clear n0_ n1_ n2_ n3_; clear hb hbox hg; obtain ⟨hcz3_0, hcz3_1, hcz3_2, hcz3_3, hcz3_4, hcz3_5⟩ := cells6 BK280.out; obtain ⟨hfz3_0, hfz3_1, hfz3_2, hfz3_3, hfz3_4, hfz3_5⟩ := froz6 BK280.out))
  go_ret
  exact ⟨by first | rfl | (simp [errW_none, errW_some] <;> rfl) | (simp [*, errW_none, errW_some] <;> rfl), zb⟩

/-! ### garderoberef04_classed: function 61 -/
def garderoberef04_classed.f (a0 : Int) : Option (Bool) := if a0 = 4 then (some true) else (some (a0 == 8))
set_option maxHeartbeats 8000000 in
set_option maxRecDepth 100000 in
theorem garderoberef04_classed.calls (a0 : Int) (r : Bool) (w : World) (h : garderoberef04_classed.f a0 = some r) :
    Calls Try.prog 61 #[.int .u8 a0] w fun e w' => e = .returned (.bool r) ∧ Drawn0 w w' := by
  have H : (if a0 = 4 then (some true) else (some (a0 == 8))) = some r := h
  clear h
  by_cases c2 : a0 = 4
  · rw [if_pos c2] at H
    have c2b0 : (a0 == 4) = true := beq_iff_eq.mpr c2
    have c2b1 : (a0 != 4) = false := bne_eq_false_iff_eq.mpr c2
    clear c2
    obtain rfl := Option.some.inj H
    go_enter Try.func61, Try.ntmps61
    go_wp2
    go_ret
    exact ⟨by first | rfl | (simp; done) | (simp [*]; done), by repeat (first | exact Drawn0.refl _ | apply Drawn0.step)⟩
  · rw [if_neg c2] at H
    have c2b0 : (a0 == 4) = false := beq_eq_false_iff_ne.mpr c2
    have c2b1 : (a0 != 4) = true := bne_iff_ne.mpr c2
    obtain rfl := Option.some.inj H
    go_enter Try.func61, Try.ntmps61
    go_wp2
    go_ret
    exact ⟨by first | rfl | (simp; done) | (simp [*]; done), by repeat (first | exact Drawn0.refl _ | apply Drawn0.step)⟩

/-! ### garderoberef04_May: function 35 -/
def garderoberef04_May.f (a0_0 : Int) (a0_1 : Int) : Option (Bool) := if a0_0 ≥ 1 then (if a0_0 ≤ 8 then ((garderoberef04_classed.f a0_0).bind fun t282 => (if t282 = true then (some true) else (some (a0_1 == 0)))) else (some false)) else (some false)
set_option maxHeartbeats 8000000 in
set_option maxRecDepth 100000 in
theorem garderoberef04_May.calls (a0_0 : Int) (a0_1 : Int) (r : Bool) (w : World) (h : garderoberef04_May.f a0_0 a0_1 = some r) :
    Calls Try.prog 35 #[.agg #[.int .u8 a0_0, .int .u16 a0_1]] w fun e w' => e = .returned (.bool r) ∧ Below w.heap.size w w' := by
  have hu44 := Try.underlying44
  have HB := Aside0.mk (Below.refl w.heap.size w)
  have H : (if a0_0 ≥ 1 then (if a0_0 ≤ 8 then ((garderoberef04_classed.f a0_0).bind fun t282 => (if t282 = true then (some true) else (some (a0_1 == 0)))) else (some false)) else (some false)) = some r := h
  clear h
  by_cases c2 : a0_0 ≥ 1
  · rw [if_pos c2] at H
    have c2b0 : decide (1 ≤ a0_0) = true := decide_eq_true c2
    clear c2
    by_cases c3 : a0_0 ≤ 8
    · rw [if_pos c3] at H
      have c3b0 : decide (a0_0 ≤ 8) = true := decide_eq_true c3
      clear c3
      replace H := Option.bind_eq_some_iff.mp H
      obtain ⟨t282, A40, H⟩ := H
      replace H : (if t282 = true then (some true) else (some (a0_1 == 0))) = some r := H
      have A4 := Aside0.mk A40
      clear A40
      by_cases c5 : t282 = true
      · subst c5
        have H1 : (some true) = some r := by rw [if_pos rfl] at H; exact H
        clear H
        have H := H1
        clear H1
        obtain rfl := Option.some.inj H
        go_enter Try.func35, Try.ntmps35
        go_wp2_with (first | ((with_reducible refine gate_dst (N := 1) rfl ?_); refine zbox (N := 1) (cs := #[.int .u8 a0_0, .int .u16 a0_1]) (t := 44) ?_; intro gb281 hg w6 hbox hb; have n0_ := Aside0.mk (below_step (zb) hb); have n1_ := Aside0.mk (hbox); have n2_ := Aside0.mk ((by rw [hg]; exact (below_size (zb)) : w.heap.size ≤ gb281)); have n3_ := Aside0.mk ((by rw [hg]; exact (below_size (zb)) : w.heap.size ≤ gb281)); clear HB; have HB := n0_; have BK281 := n1_; have GW281 := n2_; have GE281 := n3_; clear n0_ n1_ n2_ n3_; clear hb hbox hg; obtain ⟨hcz7_0, hcz7_1⟩ := cells2 BK281.out; obtain ⟨hfz7_0, hfz7_1⟩ := froz2 BK281.out) | (go_at_call 61; (with_reducible refine (garderoberef04_classed.calls a0_0 true _ A4.out).mono ?_); rintro e w' ⟨rfl, ⟨nd, rfl⟩⟩))
        go_ret
        exact ⟨by first | rfl | (simp [errW_none, errW_some] <;> rfl) | (simp [*, errW_none, errW_some] <;> rfl), zb⟩
      · replace c5 := Bool.eq_false_iff.mpr c5
        subst c5
        have H1 : (some (a0_1 == 0)) = some r := by rw [if_neg (show ¬ (false = true) by decide)] at H; exact H
        clear H
        have H := H1
        clear H1
        obtain rfl := Option.some.inj H
        go_enter Try.func35, Try.ntmps35
        go_wp2_with (first | ((with_reducible refine gate_dst (N := 1) rfl ?_); refine zbox (N := 1) (cs := #[.int .u8 a0_0, .int .u16 a0_1]) (t := 44) ?_; intro gb281 hg w8 hbox hb; have n0_ := Aside0.mk (below_step (zb) hb); have n1_ := Aside0.mk (hbox); have n2_ := Aside0.mk ((by rw [hg]; exact (below_size (zb)) : w.heap.size ≤ gb281)); have n3_ := Aside0.mk ((by rw [hg]; exact (below_size (zb)) : w.heap.size ≤ gb281)); clear HB; have HB := n0_; have BK281 := n1_; have GW281 := n2_; have GE281 := n3_; clear n0_ n1_ n2_ n3_; clear hb hbox hg; obtain ⟨hcz9_0, hcz9_1⟩ := cells2 BK281.out; obtain ⟨hfz9_0, hfz9_1⟩ := froz2 BK281.out) | (go_at_call 61; (with_reducible refine (garderoberef04_classed.calls a0_0 false _ A4.out).mono ?_); rintro e w' ⟨rfl, ⟨nd, rfl⟩⟩))
        go_ret
        exact ⟨by first | rfl | (simp [errW_none, errW_some] <;> rfl) | (simp [*, errW_none, errW_some] <;> rfl), zb⟩
    · rw [if_neg c3] at H
      have c3b0 : decide (a0_0 ≤ 8) = false := decide_eq_false c3
      clear c3
      obtain rfl := Option.some.inj H
      go_enter Try.func35, Try.ntmps35
      go_wp2_with (first | ((with_reducible refine gate_dst (N := 1) rfl ?_); refine zbox (N := 1) (cs := #[.int .u8 a0_0, .int .u16 a0_1]) (t := 44) ?_; intro gb281 hg w10 hbox hb; have n0_ := Aside0.mk (below_step (zb) hb); have n1_ := Aside0.mk (hbox); have n2_ := Aside0.mk ((by rw [hg]; exact (below_size (zb)) : w.heap.size ≤ gb281)); have n3_ := Aside0.mk ((by rw [hg]; exact (below_size (zb)) : w.heap.size ≤ gb281)); clear HB; have HB := n0_; have BK281 := n1_; have GW281 := n2_; have GE281 := n3_; clear n0_ n1_ n2_ n3_; clear hb hbox hg; obtain ⟨hcz11_0, hcz11_1⟩ := cells2 BK281.out; obtain ⟨hfz11_0, hfz11_1⟩ := froz2 BK281.out))
      go_ret
      exact ⟨by first | rfl | (simp [errW_none, errW_some] <;> rfl) | (simp [*, errW_none, errW_some] <;> rfl), zb⟩
  · rw [if_neg c2] at H
    have c2b0 : decide (1 ≤ a0_0) = false := decide_eq_false c2
    clear c2
    obtain rfl := Option.some.inj H
    go_enter Try.func35, Try.ntmps35
    go_wp2_with (first | ((with_reducible refine gate_dst (N := 1) rfl ?_); refine zbox (N := 1) (cs := #[.int .u8 a0_0, .int .u16 a0_1]) (t := 44) ?_; intro gb281 hg w12 hbox hb; have n0_ := Aside0.mk (below_step (zb) hb); have n1_ := Aside0.mk (hbox); have n2_ := Aside0.mk ((by rw [hg]; exact (below_size (zb)) : w.heap.size ≤ gb281)); have n3_ := Aside0.mk ((by rw [hg]; exact (below_size (zb)) : w.heap.size ≤ gb281)); clear HB; have HB := n0_; have BK281 := n1_; have GW281 := n2_; have GE281 := n3_; clear n0_ n1_ n2_ n3_; clear hb hbox hg; obtain ⟨hcz13_0, hcz13_1⟩ := cells2 BK281.out; obtain ⟨hfz13_0, hfz13_1⟩ := froz2 BK281.out))
    go_ret
    exact ⟨by first | rfl | (simp [errW_none, errW_some] <;> rfl) | (simp [*, errW_none, errW_some] <;> rfl), zb⟩

/-! ### garderoberef04_MaySig: function 34 -/
mutual
def garderoberef04_MaySig.j0 : Nat → Bool → List (S44) → Int → Int → Option (Bool)
  | 0, _, _, _, _ => none
  | k + 1, x19, x284000, x284001, x284002 => if x19 = true then (some false) else (garderoberef04_MaySig.l0 k 0 x284000 x284001 x284002)
def garderoberef04_MaySig.l0 : Nat → Int → List (S44) → Int → Int → Option (Bool)
  | 0, _, _, _, _ => none
  | k + 1, x3, x284000, x284001, x284002 => if x3 < (x284000.length : Int) then (if 0 ≤ x3 then ((garderoberef04_May.f ((rd_T44 x284000 x3).f0) ((rd_T44 x284000 x3).f1)).bind fun t286 => (if t286 = true then (garderoberef04_MaySig.l0 k (wrap64 (x3 + 1)) x284000 x284001 x284002) else (some false))) else (none)) else (some true)
end
def garderoberef04_MaySig.f (k : Nat) (l0_0 : List (S44)) (a0_1 : Int) (a0_2 : Int) : Option (Bool) := if (!(a0_1 == 0) || (!(a0_2 == 0))) = true then ((garderoberef04_May.f a0_1 a0_2).bind fun t284 => (if t284 = true then (garderoberef04_MaySig.j0 k (decide ((l0_0.length : Int) > 15)) l0_0 a0_1 a0_2) else (garderoberef04_MaySig.j0 k true l0_0 a0_1 a0_2))) else (garderoberef04_MaySig.j0 k (decide ((l0_0.length : Int) > 15)) l0_0 a0_1 a0_2)
theorem garderoberef04_MaySig.mono_l : ∀ k, (∀ y0 y1 y2 y3, LeO (garderoberef04_MaySig.j0 k y0 y1 y2 y3) (garderoberef04_MaySig.j0 (k + 1) y0 y1 y2 y3)) ∧ (∀ y0 y1 y2 y3, LeO (garderoberef04_MaySig.l0 k y0 y1 y2 y3) (garderoberef04_MaySig.l0 (k + 1) y0 y1 y2 y3))
  | 0 => ⟨fun _ _ _ _ r h => by simp [garderoberef04_MaySig.j0] at h, fun _ _ _ _ r h => by simp [garderoberef04_MaySig.l0] at h⟩
  | k + 1 => by
    obtain ⟨ih0, ih1⟩ := garderoberef04_MaySig.mono_l k
    refine ⟨?_, ?_⟩
    · intro y0 y1 y2 y3
      unfold garderoberef04_MaySig.j0
      repeat' first
      | (with_reducible exact ih0 _ _ _ _)
      | (with_reducible exact ih1 _ _ _ _)
      | (with_reducible exact LeO.refl _)
      | (with_reducible exact LeO.none _)
      | (with_reducible refine LeO.ite ?_ ?_)
      | (with_reducible refine LeO.bind ?_ (fun _ => ?_))
      | exact ih0 _ _ _ _
      | exact ih1 _ _ _ _
      | exact LeO.none _
      | refine LeO.ite ?_ ?_
      | refine LeO.bind ?_ (fun _ => ?_)
    · intro y0 y1 y2 y3
      unfold garderoberef04_MaySig.l0
      repeat' first
      | (with_reducible exact ih0 _ _ _ _)
      | (with_reducible exact ih1 _ _ _ _)
      | (with_reducible exact LeO.refl _)
      | (with_reducible exact LeO.none _)
      | (with_reducible refine LeO.ite ?_ ?_)
      | (with_reducible refine LeO.bind ?_ (fun _ => ?_))
      | exact ih0 _ _ _ _
      | exact ih1 _ _ _ _
      | exact LeO.none _
      | refine LeO.ite ?_ ?_
      | refine LeO.bind ?_ (fun _ => ?_)
theorem garderoberef04_MaySig.mono : ∀ a0 a1 a2 k, LeO (garderoberef04_MaySig.f k a0 a1 a2) (garderoberef04_MaySig.f (k + 1) a0 a1 a2) := by
  intro a0 a1 a2 k
  obtain ⟨ih0, ih1⟩ := garderoberef04_MaySig.mono_l k
  unfold garderoberef04_MaySig.f
  repeat' first
      | (with_reducible exact ih0 _ _ _ _)
      | (with_reducible exact ih1 _ _ _ _)
      | (with_reducible exact LeO.refl _)
      | (with_reducible exact LeO.none _)
      | (with_reducible refine LeO.ite ?_ ?_)
      | (with_reducible refine LeO.bind ?_ (fun _ => ?_))
      | exact ih0 _ _ _ _
      | exact ih1 _ _ _ _
      | exact LeO.none _
      | refine LeO.ite ?_ ?_
      | refine LeO.bind ?_ (fun _ => ?_)
set_option maxHeartbeats 8000000 in
set_option maxRecDepth 100000 in
theorem garderoberef04_MaySig.calls (k : Nat) (A0_0 : Option Addr) (c0_0 : Nat) (l0_0 : List (S44)) (a0_1 : Int) (a0_2 : Int) (r : Bool) (w : World) (hr0_0 : Kd.C k44 w A0_0 l0_0.length l0_0) (hc0_0 : l0_0.length ≤ c0_0) (h : garderoberef04_MaySig.f k l0_0 a0_1 a0_2 = some r) :
    Calls Try.prog 34 #[.agg #[.slice A0_0 l0_0.length c0_0, .int .u8 a0_1, .int .u16 a0_2]] w fun e w' => e = .returned (.bool r) ∧ Below w.heap.size w w' := by
  have hu66 := Try.underlying66
  have hu44 := Try.underlying44
  have HR0_0 := Aside0.mk hr0_0
  have HC0_0 := Aside0.mk hc0_0
  clear hr0_0 hc0_0
  have HB := Aside0.mk (Below.refl w.heap.size w)
  have H : (if (!(a0_1 == 0) || (!(a0_2 == 0))) = true then ((garderoberef04_May.f a0_1 a0_2).bind fun t284 => (if t284 = true then (garderoberef04_MaySig.j0 k (decide ((l0_0.length : Int) > 15)) l0_0 a0_1 a0_2) else (garderoberef04_MaySig.j0 k true l0_0 a0_1 a0_2))) else (garderoberef04_MaySig.j0 k (decide ((l0_0.length : Int) > 15)) l0_0 a0_1 a0_2)) = some r := h
  clear h
  have HC2 := Aside0.mk H
  clear H
  go_enter Try.func34, Try.ntmps34
  go_upto_region 1 with (first | ((with_reducible refine gate_dst (N := 1) rfl ?_); (try (refine gate_guard (by rfl) ?_; dsimp only)); refine zbox (N := 1) (cs := #[.slice A0_0 l0_0.length c0_0, .int .u8 a0_1, .int .u16 a0_2]) (t := 66) ?_; intro gb283 hg w3 hbox hb; have n0_ := Aside0.mk (below_step (zb) hb); have n1_ := Aside0.mk (hbox); have n2_ := Aside0.mk ((by rw [hg]; exact (below_size (zb)) : w.heap.size ≤ gb283)); have n3_ := Aside0.mk ((by rw [hg]; exact (below_size (zb)) : w.heap.size ≤ gb283)); clear HB; have HB := n0_; have BK283 := n1_; have GW283 := n2_; have GE283 := n3_; clear n0_ n1_ n2_ n3_; clear hb hbox hg))
  (try simp only [Act.put, List.setIfInBounds_toArray, List.set_cons_zero, List.set_cons_succ])
  go_cut [19] (fun v19 wc => ∃ (kq : Nat) (x19_1 : Bool), v19 = .bool x19_1 ∧ Aside0 (garderoberef04_MaySig.j0 kq x19_1 l0_0 a0_1 a0_2 = some r) ∧ Aside0 (kq ≤ k) ∧ Aside0 (wc.heap[gb283]? = some (.cells #[(.slice A0_0 l0_0.length c0_0), .int .u8 a0_1, .int .u16 a0_2] 66 (0, 0))) ∧ Aside0 (Below w.heap.size w wc))
  case first =>
    have H := HC2.out
    clear HC2
    by_cases c4 : (!(a0_1 == 0) || (!(a0_2 == 0))) = true
    · rw [if_pos c4] at H
      have c4b0 : (!(a0_1 == 0) || (!(a0_2 == 0))) = true := c4
      clear c4
      (first | rw [c4b0] | (simp only [i64_w, i32_w]; rw [c4b0]) | skip)
      replace H := Option.bind_eq_some_iff.mp H
      obtain ⟨t284, A50, H⟩ := H
      replace H : (if t284 = true then (garderoberef04_MaySig.j0 k (decide ((l0_0.length : Int) > 15)) l0_0 a0_1 a0_2) else (garderoberef04_MaySig.j0 k true l0_0 a0_1 a0_2)) = some r := H
      have A5 := Aside0.mk A50
      clear A50
      by_cases c6 : t284 = true
      · subst c6
        have H1 : (garderoberef04_MaySig.j0 k (decide ((l0_0.length : Int) > 15)) l0_0 a0_1 a0_2) = some r := by rw [if_pos rfl] at H; exact H
        clear H
        have H := H1
        clear H1
        have H' := Aside0.mk H
        clear H
        obtain ⟨hcz7_0, hcz7_1, hcz7_2⟩ := cells3 BK283.out
        obtain ⟨hfz7_0, hfz7_1, hfz7_2⟩ := froz3 BK283.out
        go_wp2_with (first | (go_at_call 35; (with_reducible refine (garderoberef04_May.calls a0_1 a0_2 true _ A5.out).mono ?_); rintro e w8 ⟨rfl, hb⟩; have n0_ := Aside0.mk (blk_below (g := gb283) (o := .cells #[.slice A0_0 l0_0.length c0_0, .int .u8 a0_1, .int .u16 a0_2] 66 (0, 0)) zk hb); have n1_ := Aside0.mk (below_step (zb) hb); clear BK283; clear HB; have BK283 := n0_; have HB := n1_; clear n0_ n1_; (try clear hb); (try clear hb2); (try clear hk); (try clear hi); obtain ⟨hcz9_0, hcz9_1, hcz9_2⟩ := cells3 BK283.out; obtain ⟨hfz9_0, hfz9_1, hfz9_2⟩ := froz3 BK283.out))
        go_meet
        case rel => exact ⟨_, (decide ((l0_0.length : Int) > 15)), (by first | rfl | (simp; done) | (simp [*]; done)), H', ⟨by first | omega | exact Nat.le_refl _⟩, ⟨by (with_reducible repeat (first | refine blk_drewN ?_ _ | refine blk_drew ?_ | refine blk_alloc ?_ _)); exact BK283.out⟩, ⟨zb⟩⟩
      · replace c6 := Bool.eq_false_iff.mpr c6
        subst c6
        have H1 : (garderoberef04_MaySig.j0 k true l0_0 a0_1 a0_2) = some r := by rw [if_neg (show ¬ (false = true) by decide)] at H; exact H
        clear H
        have H := H1
        clear H1
        have H' := Aside0.mk H
        clear H
        obtain ⟨hcz10_0, hcz10_1, hcz10_2⟩ := cells3 BK283.out
        obtain ⟨hfz10_0, hfz10_1, hfz10_2⟩ := froz3 BK283.out
        go_wp2_with (first | (go_at_call 35; (with_reducible refine (garderoberef04_May.calls a0_1 a0_2 false _ A5.out).mono ?_); rintro e w11 ⟨rfl, hb⟩; have n0_ := Aside0.mk (blk_below (g := gb283) (o := .cells #[.slice A0_0 l0_0.length c0_0, .int .u8 a0_1, .int .u16 a0_2] 66 (0, 0)) zk hb); have n1_ := Aside0.mk (below_step (zb) hb); clear BK283; clear HB; have BK283 := n0_; have HB := n1_; clear n0_ n1_; (try clear hb); (try clear hb2); (try clear hk); (try clear hi)))
        go_meet
        case rel => exact ⟨_, (true), (by first | rfl | (simp; done) | (simp [*]; done)), H', ⟨by first | omega | exact Nat.le_refl _⟩, ⟨by (with_reducible repeat (first | refine blk_drewN ?_ _ | refine blk_drew ?_ | refine blk_alloc ?_ _)); exact BK283.out⟩, ⟨zb⟩⟩
    · rw [if_neg c4] at H
      have c4b0 : (!(a0_1 == 0) || (!(a0_2 == 0))) = false := by simpa using c4
      clear c4
      (first | rw [c4b0] | (simp only [i64_w, i32_w]; rw [c4b0]) | skip)
      have H' := Aside0.mk H
      clear H
      obtain ⟨hcz12_0, hcz12_1, hcz12_2⟩ := cells3 BK283.out
      obtain ⟨hfz12_0, hfz12_1, hfz12_2⟩ := froz3 BK283.out
      go_wp2
      go_meet
      case rel => exact ⟨_, (decide ((l0_0.length : Int) > 15)), (by first | rfl | (simp; done) | (simp [*]; done)), H', ⟨by first | omega | exact Nat.le_refl _⟩, ⟨by (with_reducible repeat (first | refine blk_drewN ?_ _ | refine blk_drew ?_ | refine blk_alloc ?_ _)); exact BK283.out⟩, ⟨zb⟩⟩
  case rest =>
    clear HC2
    try clear p2
    try clear c3
    try clear c4
    try clear c4b0
    try clear c6
    try clear hcz10_0
    try clear hcz10_1
    try clear hcz10_2
    try clear hcz12_0
    try clear hcz12_1
    try clear hcz12_2
    try clear hcz7_0
    try clear hcz7_1
    try clear hcz7_2
    try clear hcz9_0
    try clear hcz9_1
    try clear hcz9_2
    try clear hfz10_0
    try clear hfz10_1
    try clear hfz10_2
    try clear hfz12_0
    try clear hfz12_1
    try clear hfz12_2
    try clear hfz7_0
    try clear hfz7_1
    try clear hfz7_2
    try clear hfz9_0
    try clear hfz9_1
    try clear hfz9_2
    obtain ⟨kq, x19_1, rfl, HA, HJ1, BK283, HB⟩ := hcut
    cases kq with
    | zero => exact absurd HA.out (by simp [garderoberef04_MaySig.j0])
    | succ kj1 =>
      have H := HA.out
      clear HA
      simp only [garderoberef04_MaySig.j0] at H
      by_cases c13 : x19_1 = true
      · subst c13
        have H1 : (some false) = some r := by rw [if_pos rfl] at H; exact H
        clear H
        have H := H1
        clear H1
        obtain rfl := Option.some.inj H
        go_wp2
        go_ret
        exact ⟨by first | rfl | (simp [errW_none, errW_some] <;> rfl) | (simp [*, errW_none, errW_some] <;> rfl), zb⟩
      · replace c13 := Bool.eq_false_iff.mpr c13
        subst c13
        have H1 : (garderoberef04_MaySig.l0 kj1 0 l0_0 a0_1 a0_2) = some r := by rw [if_neg (show ¬ (false = true) by decide)] at H; exact H
        clear H
        have H := H1
        clear H1
        have H' := Aside0.mk H
        clear H
        go_wp2
        go_loopg [3] kj1 (fun kq v3 w' => ∃ (x3_2 : Int), v3 = .int .i64 x3_2 ∧ Aside0 (garderoberef04_MaySig.l0 kq x3_2 l0_0 a0_1 a0_2 = some r) ∧ Aside0 (kq ≤ kj1) ∧ Aside0 (w'.heap[gb283]? = some (.cells #[(.slice A0_0 l0_0.length c0_0), .int .u8 a0_1, .int .u16 a0_2] 66 (0, 0))) ∧ Aside0 (Below w.heap.size w w'))
        case atStart => exact ⟨(0), (by first | rfl | (simp; done) | (simp [*]; done)), H', ⟨Nat.le_refl _⟩, ⟨by (with_reducible repeat (first | refine blk_drewN ?_ _ | refine blk_drew ?_ | refine blk_alloc ?_ _)); exact BK283.out⟩, ⟨zb⟩⟩
        case round =>
          clear H'
          try clear c1
          try clear p2
          try clear c3
          try clear c4
          try clear c4b0
          try clear c6
          try clear c13
          try clear hcz10_0
          try clear hcz10_1
          try clear hcz10_2
          try clear hcz12_0
          try clear hcz12_1
          try clear hcz12_2
          try clear hcz7_0
          try clear hcz7_1
          try clear hcz7_2
          try clear hcz9_0
          try clear hcz9_1
          try clear hcz9_2
          try clear hfz10_0
          try clear hfz10_1
          try clear hfz10_2
          try clear hfz12_0
          try clear hfz12_1
          try clear hfz12_2
          try clear hfz7_0
          try clear hfz7_1
          try clear hfz7_2
          try clear hfz9_0
          try clear hfz9_1
          try clear hfz9_2
          try clear p2
          obtain ⟨x3_2, rfl, HA, HK2, BK283, HB⟩ := hrel
          cases gk with
          | zero => exact absurd HA.out (by simp [garderoberef04_MaySig.l0])
          | succ k2 =>
            have H := HA.out
            clear HA
            simp only [garderoberef04_MaySig.l0] at H
            by_cases c14 : x3_2 < (l0_0.length : Int)
            · rw [if_pos c14] at H
              have c14b0 : decide (x3_2 < (l0_0.length : Int)) = true := decide_eq_true c14
              clear c14
              by_cases c15 : 0 ≤ x3_2
              · rw [if_pos c15] at H
                have c15b0 : decide (0 ≤ x3_2) = true := decide_eq_true c15
                clear c15
                replace H := Option.bind_eq_some_iff.mp H
                obtain ⟨t286, A160, H⟩ := H
                replace H : (if t286 = true then (garderoberef04_MaySig.l0 k2 (wrap64 (x3_2 + 1)) l0_0 a0_1 a0_2) else (some false)) = some r := H
                have A16 := Aside0.mk A160
                clear A160
                by_cases c17 : t286 = true
                · subst c17
                  have H1 : (garderoberef04_MaySig.l0 k2 (wrap64 (x3_2 + 1)) l0_0 a0_1 a0_2) = some r := by rw [if_pos rfl] at H; exact H
                  clear H
                  have H := H1
                  clear H1
                  have H' := Aside0.mk H
                  clear H
                  obtain ⟨hcz18_0, hcz18_1, hcz18_2⟩ := cells3 BK283.out
                  obtain ⟨hfz18_0, hfz18_1, hfz18_2⟩ := froz3 BK283.out
                  have p285 : 0 ≤ (x3_2 : Int) := of_decide_eq_true (by first | (with_reducible assumption) | assumption)
                  have q285 : x3_2 < (l0_0.length : Int) := of_decide_eq_true (by first | (with_reducible assumption) | assumption)
                  obtain ⟨ad285, e285, hx285_0, hx285_1⟩ := at_T44 HR0_0.out x3_2 p285 q285
                  cases e285
                  replace hx285_0 := (HB.out.cell (World.block_lt_of_cell? w _ hx285_0)).trans hx285_0
                  replace hx285_1 := (HB.out.cell (World.block_lt_of_cell? w _ hx285_1)).trans hx285_1
                  replace p285 := eq_true p285
                  replace q285 := eq_true q285
                  go_wp2_with (first | ((with_reducible refine gate_callee (f := 35) rfl ?_); refine goesL_ (some 32) rfl rfl Try.func35 (by kernel_rfl) rfl #[.agg #[.int .u8 ((rd_T44 l0_0 x3_2).f0), .int .u16 ((rd_T44 l0_0 x3_2).f1)]] rfl zargs ?_; (with_reducible refine (garderoberef04_May.calls ((rd_T44 l0_0 x3_2).f0) ((rd_T44 l0_0 x3_2).f1) true _ A16.out).mono ?_); rintro e w19 ⟨rfl, hb⟩; refine ⟨_, rfl, ?_⟩; have n0_ := Aside0.mk (blk_below (g := gb283) (o := .cells #[.slice (some ad285) l0_0.length c0_0, .int .u8 a0_1, .int .u16 a0_2] 66 (0, 0)) zk hb); have n1_ := Aside0.mk (below_step (zb) hb); clear BK283; clear HB; have BK283 := n0_; have HB := n1_; clear n0_ n1_; (try clear hb); (try clear hb2); (try clear hk); (try clear hi)))
                  go_roundg k2
                  case measure => have := HJ1.out; have := HK2.out; omega
                  case rel => exact ⟨(wrap64 (x3_2 + 1)), (by first | rfl | (simp; done) | (simp [*]; done)), H', ⟨by have := HJ1.out; have := HK2.out; omega⟩, ⟨by (with_reducible repeat (first | refine blk_drewN ?_ _ | refine blk_drew ?_ | refine blk_alloc ?_ _)); exact BK283.out⟩, ⟨zb⟩⟩
                · replace c17 := Bool.eq_false_iff.mpr c17
                  subst c17
                  have H1 : (some false) = some r := by rw [if_neg (show ¬ (false = true) by decide)] at H; exact H
                  clear H
                  have H := H1
                  clear H1
                  obtain rfl := Option.some.inj H
                  obtain ⟨hcz20_0, hcz20_1, hcz20_2⟩ := cells3 BK283.out
                  obtain ⟨hfz20_0, hfz20_1, hfz20_2⟩ := froz3 BK283.out
                  have p285 : 0 ≤ (x3_2 : Int) := of_decide_eq_true (by first | (with_reducible assumption) | assumption)
                  have q285 : x3_2 < (l0_0.length : Int) := of_decide_eq_true (by first | (with_reducible assumption) | assumption)
                  obtain ⟨ad285, e285, hx285_0, hx285_1⟩ := at_T44 HR0_0.out x3_2 p285 q285
                  cases e285
                  replace hx285_0 := (HB.out.cell (World.block_lt_of_cell? w _ hx285_0)).trans hx285_0
                  replace hx285_1 := (HB.out.cell (World.block_lt_of_cell? w _ hx285_1)).trans hx285_1
                  replace p285 := eq_true p285
                  replace q285 := eq_true q285
                  go_wp2_with (first | ((with_reducible refine gate_callee (f := 35) rfl ?_); refine goesL_ (some 32) rfl rfl Try.func35 (by kernel_rfl) rfl #[.agg #[.int .u8 ((rd_T44 l0_0 x3_2).f0), .int .u16 ((rd_T44 l0_0 x3_2).f1)]] rfl zargs ?_; (with_reducible refine (garderoberef04_May.calls ((rd_T44 l0_0 x3_2).f0) ((rd_T44 l0_0 x3_2).f1) false _ A16.out).mono ?_); rintro e w21 ⟨rfl, hb⟩; refine ⟨_, rfl, ?_⟩; have n0_ := Aside0.mk (blk_below (g := gb283) (o := .cells #[.slice (some ad285) l0_0.length c0_0, .int .u8 a0_1, .int .u16 a0_2] 66 (0, 0)) zk hb); have n1_ := Aside0.mk (below_step (zb) hb); clear BK283; clear HB; have BK283 := n0_; have HB := n1_; clear n0_ n1_; (try clear hb); (try clear hb2); (try clear hk); (try clear hi)))
                  go_ret
                  exact ⟨by first | rfl | (simp [errW_none, errW_some] <;> rfl) | (simp [*, errW_none, errW_some] <;> rfl), zb⟩
              · rw [if_neg c15] at H
                exact absurd H (by simp)
            · rw [if_neg c14] at H
              have c14b0 : decide (x3_2 < (l0_0.length : Int)) = false := decide_eq_false c14
              clear c14
              obtain rfl := Option.some.inj H
              obtain ⟨hcz22_0, hcz22_1, hcz22_2⟩ := cells3 BK283.out
              obtain ⟨hfz22_0, hfz22_1, hfz22_2⟩ := froz3 BK283.out
              go_wp2
              go_ret
              exact ⟨by first | rfl | (simp [errW_none, errW_some] <;> rfl) | (simp [*, errW_none, errW_some] <;> rfl), zb⟩

end Go.Proofs.Ytjbpdmkalegacaa.PClassBack
