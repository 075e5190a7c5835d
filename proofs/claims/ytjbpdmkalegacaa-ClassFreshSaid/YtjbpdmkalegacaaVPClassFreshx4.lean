/- Of ClassFresh's texts: what the law uses. -/
import Derived.Test.YtjbpdmkalegacaaVPClassFreshx0
import Derived.Test.YtjbpdmkalegacaaVPClassFreshx2
import Derived.Test.YtjbpdmkalegacaaVPClassFreshx3
namespace Go.Proofs.Ytjbpdmkalegacaa.PClassFresh
open Go.RowKit Go.Proofs.YtjbpdmkalegacaaW.PrintWords Go.Proofs.YtjbpdmkalegacaaW.PrintLast Go.Proofs.YtjbpdmkalegacaaW.PrintMore Go.Proofs.YtjbpdmkalegacaaW.Mine
attribute [local go_sem] Go.Proofs.YtjbpdmkalegacaaW.Mine.isSome_set max2_int min2_int max_two min_two max_three min_three max_four min_four   -- for this text's walks alone
set_option linter.unusedVariables false
set_option linter.unusedSimpArgs false
def ends_Get.l0 : Nat → Int → Int → List Int → Int → Int → Option (Int × Int)
  | 0, _, _, _, _, _ => none
  | k + 1, x9, x10, x23, x24, x25 => if x25 < x24 then (if 0 ≤ x25 then (if x25 < (x23.length : Int) then (ends_Get.l0 k x9 (Go.bits .or .u32 ((x10 * 256) % 4294967296) ((rd x23 x25) % 4294967296)) x23 x24 (wrap64 (x25 + 1))) else (none)) else (none)) else (some (x10, x9))
def ends_Get.f (k : Nat) (l0 : List Int) (a1 : Int) (a2 : Int) : Option (Int × Int) := (ends_may.f a2).bind fun t184 => (if t184 = true then ((ends_Part.f k l0 a1 a2).bind fun bt185 => (ends_Get.l0 k bt185.2 0 bt185.1 (bt185.1.length : Int) 0)) else (some (0, 2)))
set_option maxHeartbeats 8000000 in
set_option maxRecDepth 100000 in
theorem ends_Get.calls (k : Nat) (A0 : Option Addr) (c0 : Nat) (l0 : List Int) (a1 : Int) (a2 : Int) (r1 : Int) (r2 : Int) (w : World) (hr0 : Kd.C (Kd.int .u8) w A0 l0.length l0) (hc0 : l0.length ≤ c0) (h : ends_Get.f k l0 a1 a2 = some (r1, r2)) :
    Calls Try.prog 64 #[.slice A0 l0.length c0, .int .i64 a1, .int .i64 a2] w fun e w' => e = .returned (.tuple #[.int .u32 r1, .int .i64 r2]) ∧ Below w.heap.size w w' := by
  have HR0 := Aside0.mk hr0
  have HC0 := Aside0.mk hc0
  clear hr0 hc0
  have HB := Aside0.mk (Below.refl w.heap.size w)
  have H : ((ends_may.f a2).bind fun t184 => (if t184 = true then ((ends_Part.f k l0 a1 a2).bind fun bt185 => (ends_Get.l0 k bt185.2 0 bt185.1 (bt185.1.length : Int) 0)) else (some (0, 2)))) = some (r1, r2) := h
  clear h
  replace H := Option.bind_eq_some_iff.mp H
  obtain ⟨t184, A40, H⟩ := H
  replace H : (if t184 = true then ((ends_Part.f k l0 a1 a2).bind fun bt185 => (ends_Get.l0 k bt185.2 0 bt185.1 (bt185.1.length : Int) 0)) else (some (0, 2))) = some (r1, r2) := H
  have A4 := Aside0.mk A40
  clear A40
  by_cases c5 : t184 = true
  · subst c5
    have H1 : ((ends_Part.f k l0 a1 a2).bind fun bt185 => (ends_Get.l0 k bt185.2 0 bt185.1 (bt185.1.length : Int) 0)) = some (r1, r2) := by rw [if_pos rfl] at H; exact H
    clear H
    have H := H1
    clear H1
    replace H := Option.bind_eq_some_iff.mp H
    obtain ⟨⟨t185, t186⟩, A60, H⟩ := H
    replace H : (ends_Get.l0 k t186 0 t185 (t185.length : Int) 0) = some (r1, r2) := H
    have A6 := Aside0.mk A60
    clear A60
    have H' := Aside0.mk H
    clear H
    go_enter Try.func64, Try.ntmps64
    go_wp2_with (first | ((with_reducible refine gate_callee (f := 75) rfl ?_); refine goesL_ (some 14) rfl rfl Try.func75 (by kernel_rfl) rfl #[.int .i64 a2] rfl zargs ?_; (with_reducible refine (ends_may.calls a2 true _ A4.out).mono ?_); rintro e w' ⟨rfl, ⟨nd, rfl⟩⟩; refine ⟨_, rfl, ?_⟩) | ((with_reducible refine gate_callee (f := 76) rfl ?_); refine goesL_ (some 20) rfl rfl Try.func76 (by kernel_rfl) rfl #[.slice A0 l0.length c0, .int .i64 a1, .int .i64 a2] rfl zargs ?_; (with_reducible refine (ends_Part.calls k _ _ l0 a1 a2 t185 t186 _ ?side1 ?side2 A6.out).mono ?_); (case side1 => repeat (first | exact HR0.out | (with_reducible refine Kd.C_alloc ?_ _) | (with_reducible refine Kd.C_drewN ?_ _) | (with_reducible refine Kd.C_drew ?_))); (case side2 => exact HC0.out); rintro e w7 ⟨v187, rfl, ho0, hb⟩; refine ⟨_, rfl, ?_⟩; have n0_ := Aside0.mk (Kr.R_lower ho0 (below_size (zb))); have n1_ := Aside0.mk (below_step (zb) hb); clear HB; have HO188 := n0_; have HB := n1_; clear n0_ n1_; (try clear hb); (try clear hb2); (try clear hk); (try clear hi); (try clear ho0); obtain ⟨Ao8, co8, eo8⟩ := Kr.R_slice HO188.out; subst eo8))
    go_loopg [10, 25] k (fun kq v10 v25 w' => ∃ (x10_1 : Int) (x25_1 : Int), v10 = .int .u32 x10_1 ∧ v25 = .int .i64 x25_1 ∧ Aside0 (ends_Get.l0 kq t186 x10_1 t185 (t185.length : Int) x25_1 = some (r1, r2)) ∧ Aside0 (kq ≤ k) ∧ Aside0 (Kr.R (Kd.int .u8) 5 w' w.heap.size (fun _ => True) (.slice Ao8 t185.length co8) t185) ∧ Aside0 (Below w.heap.size w w'))
    case atStart => exact ⟨(0), (0), zs, zs, H', ⟨Nat.le_refl _⟩, ⟨by (with_reducible repeat (first | apply Kr.R_alloc | apply Kr.R_drewN | apply Kr.R_drew)); exact HO188.out⟩, ⟨zb⟩⟩
    case round =>
      clear H'
      try clear p2
      try clear c5
      try clear c6
      try clear c7
      obtain ⟨x10_1, x25_1, rfl, rfl, HA, HK1, HO_23, HB⟩ := hrel
      cases gk with
      | zero => exact absurd HA.out (by simp [ends_Get.l0])
      | succ k1 =>
        have H := HA.out
        clear HA
        simp only [ends_Get.l0] at H
        by_cases c9 : x25_1 < (t185.length : Int)
        · rw [if_pos c9] at H
          have c9b0 : decide (x25_1 < (t185.length : Int)) = true := decide_eq_true c9
          clear c9
          by_cases c10 : 0 ≤ x25_1
          · rw [if_pos c10] at H
            have c10b0 : decide (0 ≤ x25_1) = true := decide_eq_true c10
            clear c10
            by_cases c11 : x25_1 < (t185.length : Int)
            · rw [if_pos c11] at H
              have c11b0 : decide (x25_1 < (t185.length : Int)) = true := decide_eq_true c11
              clear c11
              have H' := Aside0.mk H
              clear H
              have p189 : 0 ≤ (x25_1 : Int) := of_decide_eq_true (by first | (with_reducible assumption) | assumption)
              have q189 : x25_1 < (t185.length : Int) := of_decide_eq_true (by first | (with_reducible assumption) | assumption)
              obtain ⟨ad189, e189, hx189_0⟩ := Kd.at_int (Kr.R_reads' HO_23.out).2.2 x25_1 p189 q189
              cases e189
              replace p189 := eq_true p189
              replace q189 := eq_true q189
              go_wp2
              go_roundg k1
              case measure => have := HK1.out; omega
              case rel => exact ⟨(Go.bits .or .u32 ((x10_1 * 256) % 4294967296) ((rd t185 x25_1) % 4294967296)), (wrap64 (x25_1 + 1)), zs, zs, H', ⟨by have := HK1.out; omega⟩, ⟨by (with_reducible repeat (first | apply Kr.R_alloc | apply Kr.R_drewN | apply Kr.R_drew)); exact HO_23.out⟩, ⟨zb⟩⟩
            · rw [if_neg c11] at H
              exact absurd H (by simp)
          · rw [if_neg c10] at H
            exact absurd H (by simp)
        · rw [if_neg c9] at H
          have c9b0 : decide (x25_1 < (t185.length : Int)) = false := decide_eq_false c9
          clear c9
          simp only [Option.some.injEq, Prod.mk.injEq] at H
          obtain ⟨rfl, rfl⟩ := H
          go_wp2
          go_ret2
          exact ⟨ze, zb⟩
  · replace c5 := Bool.eq_false_iff.mpr c5
    subst c5
    have H1 : (some (0, 2)) = some (r1, r2) := by rw [if_neg (show ¬ (false = true) by decide)] at H; exact H
    clear H
    have H := H1
    clear H1
    simp only [Option.some.injEq, Prod.mk.injEq] at H
    obtain ⟨rfl, rfl⟩ := H
    go_enter Try.func64, Try.ntmps64
    go_wp2_with (first | ((with_reducible refine gate_callee (f := 75) rfl ?_); refine goesL_ (some 14) rfl rfl Try.func75 (by kernel_rfl) rfl #[.int .i64 a2] rfl zargs ?_; (with_reducible refine (ends_may.calls a2 false _ A4.out).mono ?_); rintro e w' ⟨rfl, ⟨nd, rfl⟩⟩; refine ⟨_, rfl, ?_⟩))
    go_ret2
    exact ⟨ze, zb⟩
-- NOT PRINTED: function 43 (class_place_number)
-- NOT PRINTED: function 21 (api_Class_21)
def types_Get.f (k : Nat) (l0 : List Int) (a1 : Int) : Option (Int × Int × Int × Int) := (ends_Get.f k l0 a1 1).bind fun bt193 => (if bt193.2 = 0 then ((types_of.f k ((bt193.1) % 256)).bind fun t195 => (if t195 = 0 then (some (0, 0, 0, 5)) else ((types_of.f k ((bt193.1) % 256)).bind fun t196 => (if t196 = 1 then (some ((bt193.1) % 256, 0, wrap64 (a1 + 1), 0)) else ((ends_Get.f k l0 (wrap64 (a1 + 1)) 2).bind fun bt197 => (if bt197.2 = 0 then (some ((bt193.1) % 256, IntKind.u16.wrap (bt197.1), wrap64 (a1 + 3), 0)) else (some (0, 0, 0, bt197.2)))))))) else (some (0, 0, 0, bt193.2)))
set_option maxHeartbeats 8000000 in
set_option maxRecDepth 100000 in
theorem types_Get.calls (k : Nat) (A0 : Option Addr) (c0 : Nat) (l0 : List Int) (a1 : Int) (r1 : Int) (r2 : Int) (r3 : Int) (r4 : Int) (w : World) (hr0 : Kd.C (Kd.int .u8) w A0 l0.length l0) (hc0 : l0.length ≤ c0) (h : types_Get.f k l0 a1 = some (r1, r2, r3, r4)) :
    Calls Try.prog 71 #[.slice A0 l0.length c0, .int .i64 a1] w fun e w' => e = .returned (.tuple #[.agg #[.int .u8 r1, .int .u16 r2], .int .i64 r3, .int .i64 r4]) ∧ Below w.heap.size w w' := by
  have hu44 := Try.underlying44
  have HR0 := Aside0.mk hr0
  have HC0 := Aside0.mk hc0
  clear hr0 hc0
  have HB := Aside0.mk (Below.refl w.heap.size w)
  have H : ((ends_Get.f k l0 a1 1).bind fun bt193 => (if bt193.2 = 0 then ((types_of.f k ((bt193.1) % 256)).bind fun t195 => (if t195 = 0 then (some (0, 0, 0, 5)) else ((types_of.f k ((bt193.1) % 256)).bind fun t196 => (if t196 = 1 then (some ((bt193.1) % 256, 0, wrap64 (a1 + 1), 0)) else ((ends_Get.f k l0 (wrap64 (a1 + 1)) 2).bind fun bt197 => (if bt197.2 = 0 then (some ((bt193.1) % 256, IntKind.u16.wrap (bt197.1), wrap64 (a1 + 3), 0)) else (some (0, 0, 0, bt197.2)))))))) else (some (0, 0, 0, bt193.2)))) = some (r1, r2, r3, r4) := h
  clear h
  replace H := Option.bind_eq_some_iff.mp H
  obtain ⟨⟨t193, t194⟩, A30, H⟩ := H
  replace H : (if t194 = 0 then ((types_of.f k ((t193) % 256)).bind fun t195 => (if t195 = 0 then (some (0, 0, 0, 5)) else ((types_of.f k ((t193) % 256)).bind fun t196 => (if t196 = 1 then (some ((t193) % 256, 0, wrap64 (a1 + 1), 0)) else ((ends_Get.f k l0 (wrap64 (a1 + 1)) 2).bind fun bt197 => (if bt197.2 = 0 then (some ((t193) % 256, IntKind.u16.wrap (bt197.1), wrap64 (a1 + 3), 0)) else (some (0, 0, 0, bt197.2)))))))) else (some (0, 0, 0, t194))) = some (r1, r2, r3, r4) := H
  have A3 := Aside0.mk A30
  clear A30
  by_cases c4 : t194 = 0
  · rw [if_pos c4] at H
    have c4b0 : (t194 == 0) = true := beq_iff_eq.mpr c4
    have c4b1 : (t194 != 0) = false := bne_eq_false_iff_eq.mpr c4
    clear c4
    replace H := Option.bind_eq_some_iff.mp H
    obtain ⟨t195, A50, H⟩ := H
    replace H : (if t195 = 0 then (some (0, 0, 0, 5)) else ((types_of.f k ((t193) % 256)).bind fun t196 => (if t196 = 1 then (some ((t193) % 256, 0, wrap64 (a1 + 1), 0)) else ((ends_Get.f k l0 (wrap64 (a1 + 1)) 2).bind fun bt197 => (if bt197.2 = 0 then (some ((t193) % 256, IntKind.u16.wrap (bt197.1), wrap64 (a1 + 3), 0)) else (some (0, 0, 0, bt197.2))))))) = some (r1, r2, r3, r4) := H
    have A5 := Aside0.mk A50
    clear A50
    by_cases c6 : t195 = 0
    · rw [if_pos c6] at H
      have c6b0 : (t195 == 0) = true := beq_iff_eq.mpr c6
      have c6b1 : (t195 != 0) = false := bne_eq_false_iff_eq.mpr c6
      clear c6
      simp only [Option.some.injEq, Prod.mk.injEq] at H
      obtain ⟨rfl, rfl, rfl, rfl⟩ := H
      go_enter Try.func71, Try.ntmps71
      go_wp2_with (first | ((with_reducible refine gate_dst (N := 4) rfl ?_); refine zbox (N := 4) (cs := #[.int .u8 0, .int .u16 0]) (t := 44) ?_; intro gb192 hg w7 hbox hb; have n0_ := Aside0.mk (below_step (zb) hb); have n1_ := Aside0.mk (hbox); have n2_ := Aside0.mk ((by rw [hg]; exact (below_size (zb)) : w.heap.size ≤ gb192)); have n3_ := Aside0.mk ((by rw [hg]; exact (below_size (zb)) : w.heap.size ≤ gb192)); clear HB; have HB := n0_; have BK192 := n1_; have GW192 := n2_; have GE192 := n3_; clear n0_ n1_ n2_ n3_; clear hb hbox hg) | ((with_reducible refine gate_callee (f := 64) rfl ?_); refine goesL_ (some 12) rfl rfl Try.func64 (by kernel_rfl) rfl #[.slice A0 l0.length c0, .int .i64 a1, .int .i64 1] rfl zargs ?_; (with_reducible refine (ends_Get.calls k _ _ l0 a1 1 t193 t194 _ ?side1 ?side2 A3.out).mono ?_); (case side1 => exact zc (Kd.C_below HR0.out HB.out)); (case side2 => exact HC0.out); rintro e w8 ⟨rfl, hb⟩; refine ⟨_, rfl, ?_⟩; have n0_ := Aside0.mk (blk_below (g := gb192) (o := .cells #[.int .u8 0, .int .u16 0] 44 (0, 0)) zk hb); have n1_ := Aside0.mk (below_step (zb) hb); clear BK192; clear HB; have BK192 := n0_; have HB := n1_; clear n0_ n1_; (try clear hb); (try clear hb2); (try clear hk); (try clear hi)) | ((with_reducible refine gate_callee (f := 60) rfl ?_); refine goesL_ (some 23) rfl rfl Try.func60 (by kernel_rfl) rfl #[.int .u8 ((t193) % 256)] rfl zargs ?_; (with_reducible refine (types_of.calls k ((t193) % 256) t195 _ A5.out).mono ?_); rintro e w' ⟨rfl, ⟨nd, rfl⟩⟩; refine ⟨_, rfl, ?_⟩; (try (rw [drewN_self w8]; generalize hq_ : World.drewN w8 _ = w8; have n0_ : Aside0 (w8.heap[gb192]? = some (.cells #[.int .u8 0, .int .u16 0] 44 (0, 0))) := ⟨by rw [← hq_]; exact zk⟩; have n1_ : Aside0 (Below w.heap.size w w8) := ⟨by rw [← hq_]; exact (zb)⟩; clear BK192 HB hq_; have BK192 := n0_; have HB := n1_; clear n0_ n1_)); obtain ⟨hcz9_0, hcz9_1⟩ := cells2 BK192.out; obtain ⟨hfz9_0, hfz9_1⟩ := froz2 BK192.out))
      refine bodyPost_ret (results_ctt rfl _ _ gb192 44 #[.int .u8 0, .int .u16 0] (0, 0) _ rfl (by (with_reducible repeat (first | refine blk_drewN ?_ _ | refine blk_drew ?_ | refine blk_alloc ?_ _)); refine blk_put (cs := #[.int .u8 0, .int .u16 0]) ?_ 1 _ rfl; (with_reducible repeat (first | refine blk_drewN ?_ _ | refine blk_drew ?_ | refine blk_alloc ?_ _)); refine blk_put (cs := #[.int .u8 0, .int .u16 0]) ?_ 0 _ rfl; (with_reducible repeat (first | refine blk_drewN ?_ _ | refine blk_drew ?_ | refine blk_alloc ?_ _)); exact BK192.out) Try.underlying44 rfl (by kernel_rfl)) rfl ?_
      exact ⟨ze, zb⟩
    · rw [if_neg c6] at H
      have c6b0 : (t195 == 0) = false := beq_eq_false_iff_ne.mpr c6
      have c6b1 : (t195 != 0) = true := bne_iff_ne.mpr c6
      replace H := Option.bind_eq_some_iff.mp H
      obtain ⟨t196, A100, H⟩ := H
      replace H : (if t196 = 1 then (some ((t193) % 256, 0, wrap64 (a1 + 1), 0)) else ((ends_Get.f k l0 (wrap64 (a1 + 1)) 2).bind fun bt197 => (if bt197.2 = 0 then (some ((t193) % 256, IntKind.u16.wrap (bt197.1), wrap64 (a1 + 3), 0)) else (some (0, 0, 0, bt197.2))))) = some (r1, r2, r3, r4) := H
      have A10 := Aside0.mk A100
      clear A100
      by_cases c11 : t196 = 1
      · rw [if_pos c11] at H
        have c11b0 : (t196 == 1) = true := beq_iff_eq.mpr c11
        have c11b1 : (t196 != 1) = false := bne_eq_false_iff_eq.mpr c11
        clear c11
        simp only [Option.some.injEq, Prod.mk.injEq] at H
        obtain ⟨rfl, rfl, rfl, rfl⟩ := H
        go_enter Try.func71, Try.ntmps71
        go_wp2_with (first | ((with_reducible refine gate_dst (N := 4) rfl ?_); refine zbox (N := 4) (cs := #[.int .u8 0, .int .u16 0]) (t := 44) ?_; intro gb192 hg w12 hbox hb; have n0_ := Aside0.mk (below_step (zb) hb); have n1_ := Aside0.mk (hbox); have n2_ := Aside0.mk ((by rw [hg]; exact (below_size (zb)) : w.heap.size ≤ gb192)); have n3_ := Aside0.mk ((by rw [hg]; exact (below_size (zb)) : w.heap.size ≤ gb192)); clear HB; have HB := n0_; have BK192 := n1_; have GW192 := n2_; have GE192 := n3_; clear n0_ n1_ n2_ n3_; clear hb hbox hg) | ((with_reducible refine gate_callee (f := 64) rfl ?_); refine goesL_ (some 12) rfl rfl Try.func64 (by kernel_rfl) rfl #[.slice A0 l0.length c0, .int .i64 a1, .int .i64 1] rfl zargs ?_; (with_reducible refine (ends_Get.calls k _ _ l0 a1 1 t193 t194 _ ?side1 ?side2 A3.out).mono ?_); (case side1 => exact zc (Kd.C_below HR0.out HB.out)); (case side2 => exact HC0.out); rintro e w13 ⟨rfl, hb⟩; refine ⟨_, rfl, ?_⟩; have n0_ := Aside0.mk (blk_below (g := gb192) (o := .cells #[.int .u8 0, .int .u16 0] 44 (0, 0)) zk hb); have n1_ := Aside0.mk (below_step (zb) hb); clear BK192; clear HB; have BK192 := n0_; have HB := n1_; clear n0_ n1_; (try clear hb); (try clear hb2); (try clear hk); (try clear hi)) | ((with_reducible refine gate_callee (f := 60) rfl ?_); refine goesL_ (some 23) rfl rfl Try.func60 (by kernel_rfl) rfl #[.int .u8 ((t193) % 256)] rfl zargs ?_; (with_reducible refine (types_of.calls k ((t193) % 256) t195 _ A5.out).mono ?_); rintro e w' ⟨rfl, ⟨nd, rfl⟩⟩; refine ⟨_, rfl, ?_⟩; (try (rw [drewN_self w13]; generalize hq_ : World.drewN w13 _ = w13; have n0_ : Aside0 (w13.heap[gb192]? = some (.cells #[.int .u8 0, .int .u16 0] 44 (0, 0))) := ⟨by rw [← hq_]; exact zk⟩; have n1_ : Aside0 (Below w.heap.size w w13) := ⟨by rw [← hq_]; exact (zb)⟩; clear BK192 HB hq_; have BK192 := n0_; have HB := n1_; clear n0_ n1_)); obtain ⟨hcz14_0, hcz14_1⟩ := cells2 BK192.out; obtain ⟨hfz14_0, hfz14_1⟩ := froz2 BK192.out) | ((with_reducible refine gate_callee (f := 60) rfl ?_); refine goesL_ (some 31) rfl rfl Try.func60 (by kernel_rfl) rfl #[.int .u8 ((t193) % 256)] rfl zargs ?_; (with_reducible refine (types_of.calls k ((t193) % 256) t196 _ A10.out).mono ?_); rintro e w' ⟨rfl, ⟨nd, rfl⟩⟩; refine ⟨_, rfl, ?_⟩))
        refine bodyPost_ret (results_ctt rfl _ _ gb192 44 #[.int .u8 ((t193) % 256), .int .u16 0] (0, 0) _ rfl (by (with_reducible repeat (first | refine blk_drewN ?_ _ | refine blk_drew ?_ | refine blk_alloc ?_ _)); refine blk_put (cs := #[.int .u8 ((t193) % 256), .int .u16 0]) ?_ 1 _ rfl; (with_reducible repeat (first | refine blk_drewN ?_ _ | refine blk_drew ?_ | refine blk_alloc ?_ _)); refine blk_put (cs := #[.int .u8 ((t193) % 256), .int .u16 0]) ?_ 0 _ rfl; (with_reducible repeat (first | refine blk_drewN ?_ _ | refine blk_drew ?_ | refine blk_alloc ?_ _)); refine blk_put (cs := #[.int .u8 0, .int .u16 0]) ?_ 0 _ rfl; (with_reducible repeat (first | refine blk_drewN ?_ _ | refine blk_drew ?_ | refine blk_alloc ?_ _)); exact BK192.out) Try.underlying44 rfl (by kernel_rfl)) rfl ?_
        exact ⟨ze, zb⟩
      · rw [if_neg c11] at H
        have c11b0 : (t196 == 1) = false := beq_eq_false_iff_ne.mpr c11
        have c11b1 : (t196 != 1) = true := bne_iff_ne.mpr c11
        replace H := Option.bind_eq_some_iff.mp H
        obtain ⟨⟨t197, t198⟩, A150, H⟩ := H
        replace H : (if t198 = 0 then (some ((t193) % 256, IntKind.u16.wrap (t197), wrap64 (a1 + 3), 0)) else (some (0, 0, 0, t198))) = some (r1, r2, r3, r4) := H
        have A15 := Aside0.mk A150
        clear A150
        by_cases c16 : t198 = 0
        · rw [if_pos c16] at H
          have c16b0 : (t198 == 0) = true := beq_iff_eq.mpr c16
          have c16b1 : (t198 != 0) = false := bne_eq_false_iff_eq.mpr c16
          clear c16
          simp only [Option.some.injEq, Prod.mk.injEq] at H
          obtain ⟨rfl, rfl, rfl, rfl⟩ := H
          go_enter Try.func71, Try.ntmps71
          go_wp2_with (first | ((with_reducible refine gate_dst (N := 4) rfl ?_); refine zbox (N := 4) (cs := #[.int .u8 0, .int .u16 0]) (t := 44) ?_; intro gb192 hg w17 hbox hb; have n0_ := Aside0.mk (below_step (zb) hb); have n1_ := Aside0.mk (hbox); have n2_ := Aside0.mk ((by rw [hg]; exact (below_size (zb)) : w.heap.size ≤ gb192)); have n3_ := Aside0.mk ((by rw [hg]; exact (below_size (zb)) : w.heap.size ≤ gb192)); clear HB; have HB := n0_; have BK192 := n1_; have GW192 := n2_; have GE192 := n3_; clear n0_ n1_ n2_ n3_; clear hb hbox hg) | ((with_reducible refine gate_callee (f := 64) rfl ?_); refine goesL_ (some 12) rfl rfl Try.func64 (by kernel_rfl) rfl #[.slice A0 l0.length c0, .int .i64 a1, .int .i64 1] rfl zargs ?_; (with_reducible refine (ends_Get.calls k _ _ l0 a1 1 t193 t194 _ ?side1 ?side2 A3.out).mono ?_); (case side1 => exact zc (Kd.C_below HR0.out HB.out)); (case side2 => exact HC0.out); rintro e w18 ⟨rfl, hb⟩; refine ⟨_, rfl, ?_⟩; have n0_ := Aside0.mk (blk_below (g := gb192) (o := .cells #[.int .u8 0, .int .u16 0] 44 (0, 0)) zk hb); have n1_ := Aside0.mk (below_step (zb) hb); clear BK192; clear HB; have BK192 := n0_; have HB := n1_; clear n0_ n1_; (try clear hb); (try clear hb2); (try clear hk); (try clear hi)) | ((with_reducible refine gate_callee (f := 60) rfl ?_); refine goesL_ (some 23) rfl rfl Try.func60 (by kernel_rfl) rfl #[.int .u8 ((t193) % 256)] rfl zargs ?_; (with_reducible refine (types_of.calls k ((t193) % 256) t195 _ A5.out).mono ?_); rintro e w' ⟨rfl, ⟨nd, rfl⟩⟩; refine ⟨_, rfl, ?_⟩; (try (rw [drewN_self w18]; generalize hq_ : World.drewN w18 _ = w18; have n0_ : Aside0 (w18.heap[gb192]? = some (.cells #[.int .u8 0, .int .u16 0] 44 (0, 0))) := ⟨by rw [← hq_]; exact zk⟩; have n1_ : Aside0 (Below w.heap.size w w18) := ⟨by rw [← hq_]; exact (zb)⟩; clear BK192 HB hq_; have BK192 := n0_; have HB := n1_; clear n0_ n1_)); obtain ⟨hcz19_0, hcz19_1⟩ := cells2 BK192.out; obtain ⟨hfz19_0, hfz19_1⟩ := froz2 BK192.out) | ((with_reducible refine gate_callee (f := 60) rfl ?_); refine goesL_ (some 31) rfl rfl Try.func60 (by kernel_rfl) rfl #[.int .u8 ((t193) % 256)] rfl zargs ?_; (with_reducible refine (types_of.calls k ((t193) % 256) t196 _ A10.out).mono ?_); rintro e w' ⟨rfl, ⟨nd, rfl⟩⟩; refine ⟨_, rfl, ?_⟩) | ((with_reducible refine gate_callee (f := 64) rfl ?_); refine goesL_ (some 40) rfl rfl Try.func64 (by kernel_rfl) rfl #[.slice A0 l0.length c0, .int .i64 (wrap64 (a1 + 1)), .int .i64 2] rfl zargs ?_; (with_reducible refine (ends_Get.calls k _ _ l0 (wrap64 (a1 + 1)) 2 t197 t198 _ ?side1 ?side2 A15.out).mono ?_); (case side1 => exact Kd.C_below HR0.out (zb)); (case side2 => exact HC0.out); rintro e w20 ⟨rfl, hb⟩; refine ⟨_, rfl, ?_⟩; have n0_ := Aside0.mk (blk_below (g := gb192) (o := .cells #[.int .u8 ((t193) % 256), .int .u16 0] 44 (0, 0)) (by (with_reducible repeat (first | refine blk_drewN ?_ _ | refine blk_drew ?_ | refine blk_alloc ?_ _)); refine blk_put (cs := #[.int .u8 0, .int .u16 0]) ?_ 0 _ rfl; (with_reducible repeat (first | refine blk_drewN ?_ _ | refine blk_drew ?_ | refine blk_alloc ?_ _)); exact BK192.out) hb); have n1_ := Aside0.mk (below_step (zb) hb); clear BK192; clear HB; have BK192 := n0_; have HB := n1_; clear n0_ n1_; (try clear hb); (try clear hb2); (try clear hk); (try clear hi); obtain ⟨hcz21_0, hcz21_1⟩ := cells2 BK192.out; obtain ⟨hfz21_0, hfz21_1⟩ := froz2 BK192.out))
          refine bodyPost_ret (results_ctt rfl _ _ gb192 44 #[.int .u8 ((t193) % 256), .int .u16 (IntKind.u16.wrap (t197))] (0, 0) _ rfl (by (with_reducible repeat (first | refine blk_drewN ?_ _ | refine blk_drew ?_ | refine blk_alloc ?_ _)); refine blk_put (cs := #[.int .u8 ((t193) % 256), .int .u16 (IntKind.u16.wrap (t197))]) ?_ 1 _ rfl; (with_reducible repeat (first | refine blk_drewN ?_ _ | refine blk_drew ?_ | refine blk_alloc ?_ _)); refine blk_put (cs := #[.int .u8 ((t193) % 256), .int .u16 (IntKind.u16.wrap (t197))]) ?_ 0 _ rfl; (with_reducible repeat (first | refine blk_drewN ?_ _ | refine blk_drew ?_ | refine blk_alloc ?_ _)); refine blk_put (cs := #[.int .u8 ((t193) % 256), .int .u16 0]) ?_ 1 _ rfl; (with_reducible repeat (first | refine blk_drewN ?_ _ | refine blk_drew ?_ | refine blk_alloc ?_ _)); exact BK192.out) Try.underlying44 rfl (by kernel_rfl)) rfl ?_
          exact ⟨ze, zb⟩
        · rw [if_neg c16] at H
          have c16b0 : (t198 == 0) = false := beq_eq_false_iff_ne.mpr c16
          have c16b1 : (t198 != 0) = true := bne_iff_ne.mpr c16
          simp only [Option.some.injEq, Prod.mk.injEq] at H
          obtain ⟨rfl, rfl, rfl, rfl⟩ := H
          go_enter Try.func71, Try.ntmps71
          go_wp2_with (first | ((with_reducible refine gate_dst (N := 4) rfl ?_); refine zbox (N := 4) (cs := #[.int .u8 0, .int .u16 0]) (t := 44) ?_; intro gb192 hg w22 hbox hb; have n0_ := Aside0.mk (below_step (zb) hb); have n1_ := Aside0.mk (hbox); have n2_ := Aside0.mk ((by rw [hg]; exact (below_size (zb)) : w.heap.size ≤ gb192)); have n3_ := Aside0.mk ((by rw [hg]; exact (below_size (zb)) : w.heap.size ≤ gb192)); clear HB; have HB := n0_; have BK192 := n1_; have GW192 := n2_; have GE192 := n3_; clear n0_ n1_ n2_ n3_; clear hb hbox hg) | ((with_reducible refine gate_callee (f := 64) rfl ?_); refine goesL_ (some 12) rfl rfl Try.func64 (by kernel_rfl) rfl #[.slice A0 l0.length c0, .int .i64 a1, .int .i64 1] rfl zargs ?_; (with_reducible refine (ends_Get.calls k _ _ l0 a1 1 t193 t194 _ ?side1 ?side2 A3.out).mono ?_); (case side1 => exact zc (Kd.C_below HR0.out HB.out)); (case side2 => exact HC0.out); rintro e w23 ⟨rfl, hb⟩; refine ⟨_, rfl, ?_⟩; have n0_ := Aside0.mk (blk_below (g := gb192) (o := .cells #[.int .u8 0, .int .u16 0] 44 (0, 0)) zk hb); have n1_ := Aside0.mk (below_step (zb) hb); clear BK192; clear HB; have BK192 := n0_; have HB := n1_; clear n0_ n1_; (try clear hb); (try clear hb2); (try clear hk); (try clear hi)) | ((with_reducible refine gate_callee (f := 60) rfl ?_); refine goesL_ (some 23) rfl rfl Try.func60 (by kernel_rfl) rfl #[.int .u8 ((t193) % 256)] rfl zargs ?_; (with_reducible refine (types_of.calls k ((t193) % 256) t195 _ A5.out).mono ?_); rintro e w' ⟨rfl, ⟨nd, rfl⟩⟩; refine ⟨_, rfl, ?_⟩; (try (rw [drewN_self w23]; generalize hq_ : World.drewN w23 _ = w23; have n0_ : Aside0 (w23.heap[gb192]? = some (.cells #[.int .u8 0, .int .u16 0] 44 (0, 0))) := ⟨by rw [← hq_]; exact zk⟩; have n1_ : Aside0 (Below w.heap.size w w23) := ⟨by rw [← hq_]; exact (zb)⟩; clear BK192 HB hq_; have BK192 := n0_; have HB := n1_; clear n0_ n1_)); obtain ⟨hcz24_0, hcz24_1⟩ := cells2 BK192.out; obtain ⟨hfz24_0, hfz24_1⟩ := froz2 BK192.out) | ((with_reducible refine gate_callee (f := 60) rfl ?_); refine goesL_ (some 31) rfl rfl Try.func60 (by kernel_rfl) rfl #[.int .u8 ((t193) % 256)] rfl zargs ?_; (with_reducible refine (types_of.calls k ((t193) % 256) t196 _ A10.out).mono ?_); rintro e w' ⟨rfl, ⟨nd, rfl⟩⟩; refine ⟨_, rfl, ?_⟩) | ((with_reducible refine gate_callee (f := 64) rfl ?_); refine goesL_ (some 40) rfl rfl Try.func64 (by kernel_rfl) rfl #[.slice A0 l0.length c0, .int .i64 (wrap64 (a1 + 1)), .int .i64 2] rfl zargs ?_; (with_reducible refine (ends_Get.calls k _ _ l0 (wrap64 (a1 + 1)) 2 t197 t198 _ ?side1 ?side2 A15.out).mono ?_); (case side1 => exact Kd.C_below HR0.out (zb)); (case side2 => exact HC0.out); rintro e w25 ⟨rfl, hb⟩; refine ⟨_, rfl, ?_⟩; have n0_ := Aside0.mk (blk_below (g := gb192) (o := .cells #[.int .u8 ((t193) % 256), .int .u16 0] 44 (0, 0)) (by (with_reducible repeat (first | refine blk_drewN ?_ _ | refine blk_drew ?_ | refine blk_alloc ?_ _)); refine blk_put (cs := #[.int .u8 0, .int .u16 0]) ?_ 0 _ rfl; (with_reducible repeat (first | refine blk_drewN ?_ _ | refine blk_drew ?_ | refine blk_alloc ?_ _)); exact BK192.out) hb); have n1_ := Aside0.mk (below_step (zb) hb); clear BK192; clear HB; have BK192 := n0_; have HB := n1_; clear n0_ n1_; (try clear hb); (try clear hb2); (try clear hk); (try clear hi); obtain ⟨hcz26_0, hcz26_1⟩ := cells2 BK192.out; obtain ⟨hfz26_0, hfz26_1⟩ := froz2 BK192.out))
          refine bodyPost_ret (results_ctt rfl _ _ gb192 44 #[.int .u8 0, .int .u16 0] (0, 0) _ rfl (by (with_reducible repeat (first | refine blk_drewN ?_ _ | refine blk_drew ?_ | refine blk_alloc ?_ _)); refine blk_put (cs := #[.int .u8 0, .int .u16 0]) ?_ 1 _ rfl; (with_reducible repeat (first | refine blk_drewN ?_ _ | refine blk_drew ?_ | refine blk_alloc ?_ _)); refine blk_put (cs := #[.int .u8 ((t193) % 256), .int .u16 0]) ?_ 0 _ rfl; (with_reducible repeat (first | refine blk_drewN ?_ _ | refine blk_drew ?_ | refine blk_alloc ?_ _)); exact BK192.out) Try.underlying44 rfl (by kernel_rfl)) rfl ?_
          exact ⟨ze, zb⟩
  · rw [if_neg c4] at H
    have c4b0 : (t194 == 0) = false := beq_eq_false_iff_ne.mpr c4
    have c4b1 : (t194 != 0) = true := bne_iff_ne.mpr c4
    simp only [Option.some.injEq, Prod.mk.injEq] at H
    obtain ⟨rfl, rfl, rfl, rfl⟩ := H
    go_enter Try.func71, Try.ntmps71
    go_wp2_with (first | ((with_reducible refine gate_dst (N := 4) rfl ?_); refine zbox (N := 4) (cs := #[.int .u8 0, .int .u16 0]) (t := 44) ?_; intro gb192 hg w27 hbox hb; have n0_ := Aside0.mk (below_step (zb) hb); have n1_ := Aside0.mk (hbox); have n2_ := Aside0.mk ((by rw [hg]; exact (below_size (zb)) : w.heap.size ≤ gb192)); have n3_ := Aside0.mk ((by rw [hg]; exact (below_size (zb)) : w.heap.size ≤ gb192)); clear HB; have HB := n0_; have BK192 := n1_; have GW192 := n2_; have GE192 := n3_; clear n0_ n1_ n2_ n3_; clear hb hbox hg) | ((with_reducible refine gate_callee (f := 64) rfl ?_); refine goesL_ (some 12) rfl rfl Try.func64 (by kernel_rfl) rfl #[.slice A0 l0.length c0, .int .i64 a1, .int .i64 1] rfl zargs ?_; (with_reducible refine (ends_Get.calls k _ _ l0 a1 1 t193 t194 _ ?side1 ?side2 A3.out).mono ?_); (case side1 => exact zc (Kd.C_below HR0.out HB.out)); (case side2 => exact HC0.out); rintro e w28 ⟨rfl, hb⟩; refine ⟨_, rfl, ?_⟩; have n0_ := Aside0.mk (blk_below (g := gb192) (o := .cells #[.int .u8 0, .int .u16 0] 44 (0, 0)) zk hb); have n1_ := Aside0.mk (below_step (zb) hb); clear BK192; clear HB; have BK192 := n0_; have HB := n1_; clear n0_ n1_; (try clear hb); (try clear hb2); (try clear hk); (try clear hi); obtain ⟨hcz29_0, hcz29_1⟩ := cells2 BK192.out; obtain ⟨hfz29_0, hfz29_1⟩ := froz2 BK192.out))
    refine bodyPost_ret (results_ctt rfl _ _ gb192 44 #[.int .u8 0, .int .u16 0] (0, 0) _ rfl (by (with_reducible repeat (first | refine blk_drewN ?_ _ | refine blk_drew ?_ | refine blk_alloc ?_ _)); refine blk_put (cs := #[.int .u8 0, .int .u16 0]) ?_ 1 _ rfl; (with_reducible repeat (first | refine blk_drewN ?_ _ | refine blk_drew ?_ | refine blk_alloc ?_ _)); refine blk_put (cs := #[.int .u8 0, .int .u16 0]) ?_ 0 _ rfl; (with_reducible repeat (first | refine blk_drewN ?_ _ | refine blk_drew ?_ | refine blk_alloc ?_ _)); exact BK192.out) Try.underlying44 rfl (by kernel_rfl)) rfl ?_
    exact ⟨ze, zb⟩
mutual
def types_GetSig.j0 : Nat → List Int → Int → Int → Int → Bool → Int → Int → Option ((List (S44)) × Int × Int × Int × Int)
  | 0, _, _, _, _, _, _, _ => none
  | k + 1, x0, x1, x5, x6, x24, x200001, x200002 => if x24 = true then ((types_Get.f k x0 x1).bind fun bt202 => (types_GetSig.j1 k x0 bt202.2.2.1 bt202.2.2.2 bt202.1 bt202.2.1)) else (types_GetSig.j1 k x0 x5 x6 x200001 x200002)
def types_GetSig.j1 : Nat → List Int → Int → Int → Int → Int → Option ((List (S44)) × Int × Int × Int × Int)
  | 0, _, _, _, _, _ => none
  | k + 1, x0, x5, x6, x200001, x200002 => if x6 = 0 then ((ends_Get.f k x0 x5 1).bind fun bt206 => (if bt206.2 = 0 then (if bt206.1 > 15 then (some (([] : List (S44)), 0, 0, 0, 5)) else (types_GetSig.l0 k x0 (wrap64 (x5 + 1)) bt206.1 0 ([] : List (S44)) x200001 x200002)) else (some (([] : List (S44)), 0, 0, 0, bt206.2)))) else (some (([] : List (S44)), 0, 0, 0, x6))
def types_GetSig.l0 : Nat → List Int → Int → Int → Int → List (S44) → Int → Int → Option ((List (S44)) × Int × Int × Int × Int)
  | 0, _, _, _, _, _, _, _ => none
  | k + 1, x0, x5, x54, x55, x200000, x200001, x200002 => if x55 < x54 then ((types_Get.f k x0 x5).bind fun bt209 => (if bt209.2.2.2 = 0 then (if x200000.length < 35184372088832 then (types_GetSig.l0 k x0 bt209.2.2.1 x54 ((x55 + 1) % 4294967296) (x200000 ++ [(⟨bt209.1, bt209.2.1⟩ : S44)]) x200001 x200002) else (none)) else (some (([] : List (S44)), 0, 0, 0, bt209.2.2.2)))) else (some (x200000, x200001, x200002, x5, 0))
end
def types_GetSig.f (k : Nat) (l0 : List Int) (a1 : Int) : Option ((List (S44)) × Int × Int × Int × Int) := (ends_Get.f k l0 a1 1).bind fun bt200 => (if bt200.2 = 0 then (types_GetSig.j0 k l0 a1 (wrap64 (a1 + 1)) bt200.2 (((bt200.1) % 256) != 0) 0 0) else (types_GetSig.j0 k l0 a1 (wrap64 (a1 + 1)) bt200.2 false 0 0))
set_option maxHeartbeats 8000000 in
set_option maxRecDepth 100000 in
theorem types_GetSig.calls (k : Nat) (A0 : Option Addr) (c0 : Nat) (l0 : List Int) (a1 : Int) (r1 : List (S44)) (r2 : Int) (r3 : Int) (r4 : Int) (r5 : Int) (w : World) (hr0 : Kd.C (Kd.int .u8) w A0 l0.length l0) (hc0 : l0.length ≤ c0) (h : types_GetSig.f k l0 a1 = some (r1, r2, r3, r4, r5)) :
    Calls Try.prog 66 #[.slice A0 l0.length c0, .int .i64 a1] w fun e w' => ∃ v0_ : Value, e = .returned (.tuple #[.agg #[v0_, .int .u8 r2, .int .u16 r3], .int .i64 r4, .int .i64 r5]) ∧ Kd.R k44 44 w' w.heap.size (fun _ => True) v0_ r1 ∧ Below w.heap.size w w' := by
  have hu66 := Try.underlying66
  have hu44 := Try.underlying44
  have HR0 := Aside0.mk hr0
  have HC0 := Aside0.mk hc0
  clear hr0 hc0
  have HB := Aside0.mk (Below.refl w.heap.size w)
  have H : ((ends_Get.f k l0 a1 1).bind fun bt200 => (if bt200.2 = 0 then (types_GetSig.j0 k l0 a1 (wrap64 (a1 + 1)) bt200.2 (((bt200.1) % 256) != 0) 0 0) else (types_GetSig.j0 k l0 a1 (wrap64 (a1 + 1)) bt200.2 false 0 0))) = some (r1, r2, r3, r4, r5) := h
  clear h
  replace H := Option.bind_eq_some_iff.mp H
  obtain ⟨⟨t200, t201⟩, A30, H⟩ := H
  replace H : (if t201 = 0 then (types_GetSig.j0 k l0 a1 (wrap64 (a1 + 1)) t201 (((t200) % 256) != 0) 0 0) else (types_GetSig.j0 k l0 a1 (wrap64 (a1 + 1)) t201 false 0 0)) = some (r1, r2, r3, r4, r5) := H
  have A3 := Aside0.mk A30
  clear A30
  have HC4 := Aside0.mk H
  clear H
  go_enter Try.func66, Try.ntmps66
  go_upto_region 3 with (first | ((with_reducible refine gate_dst (N := 4) rfl ?_); refine zbox (N := 4) (cs := #[.slice none 0 0, .int .u8 0, .int .u16 0]) (t := 66) ?_; intro gb199 hg w5 hbox hb; have n0_ := Aside0.mk (below_step (zb) hb); have n1_ := Aside0.mk (hbox); have n2_ := Aside0.mk ((by rw [hg]; exact (below_size (zb)) : w.heap.size ≤ gb199)); have n3_ := Aside0.mk ((by rw [hg]; exact (below_size (zb)) : w.heap.size ≤ gb199)); clear HB; have HB := n0_; have BK199 := n1_; have GW199 := n2_; have GE199 := n3_; clear n0_ n1_ n2_ n3_; clear hb hbox hg) | ((with_reducible refine gate_callee (f := 64) rfl ?_); refine goesL_ (some 13) rfl rfl Try.func64 (by kernel_rfl) rfl #[.slice A0 l0.length c0, .int .i64 a1, .int .i64 1] rfl zargs ?_; (with_reducible refine (ends_Get.calls k _ _ l0 a1 1 t200 t201 _ ?side1 ?side2 A3.out).mono ?_); (case side1 => exact zc (Kd.C_below HR0.out HB.out)); (case side2 => exact HC0.out); rintro e w6 ⟨rfl, hb⟩; refine ⟨_, rfl, ?_⟩; have n0_ := Aside0.mk (blk_below (g := gb199) (o := .cells #[.slice none 0 0, .int .u8 0, .int .u16 0] 66 (0, 0)) zk hb); have n1_ := Aside0.mk (below_step (zb) hb); clear BK199; clear HB; have BK199 := n0_; have HB := n1_; clear n0_ n1_; (try clear hb); (try clear hb2); (try clear hk); (try clear hi)))
  (try simp only [Act.put, List.setIfInBounds_toArray, List.set_cons_zero, List.set_cons_succ])
  go_cut [24] (fun v24 wc => ∃ (kq : Nat) (x24_3 : Bool), v24 = .bool x24_3 ∧ Aside0 (types_GetSig.j0 kq l0 a1 (wrap64 (a1 + 1)) t201 x24_3 0 0 = some (r1, r2, r3, r4, r5)) ∧ Aside0 (kq ≤ k) ∧ Aside0 (wc.heap[gb199]? = some (.cells #[(.slice none 0 0), .int .u8 0, .int .u16 0] 66 (0, 0))) ∧ Aside0 (Below w.heap.size w wc))
  case first =>
    have H := HC4.out
    clear HC4
    by_cases c7 : t201 = 0
    · rw [if_pos c7] at H
      have c7b0 : (t201 == 0) = true := beq_iff_eq.mpr c7
      have c7b1 : (t201 != 0) = false := bne_eq_false_iff_eq.mpr c7
      clear c7
      (first | rw [c7b0] | (simp only [i64_w, i32_w]; rw [c7b0]) | skip)
      have H' := Aside0.mk H
      clear H
      go_wp2
      go_meet
      case rel => exact ⟨_, ((((t200) % 256) != 0)), zs, H', ⟨by first | omega | exact Nat.le_refl _⟩, ⟨by (with_reducible repeat (first | refine blk_drewN ?_ _ | refine blk_drew ?_ | refine blk_alloc ?_ _)); exact BK199.out⟩, ⟨zb⟩⟩
    · rw [if_neg c7] at H
      have c7b0 : (t201 == 0) = false := beq_eq_false_iff_ne.mpr c7
      have c7b1 : (t201 != 0) = true := bne_iff_ne.mpr c7
      (first | rw [c7b0] | (simp only [i64_w, i32_w]; rw [c7b0]) | skip)
      have H' := Aside0.mk H
      clear H
      go_wp2
      go_meet
      case rel => exact ⟨_, (false), zs, H', ⟨by first | omega | exact Nat.le_refl _⟩, ⟨by (with_reducible repeat (first | refine blk_drewN ?_ _ | refine blk_drew ?_ | refine blk_alloc ?_ _)); exact BK199.out⟩, ⟨zb⟩⟩
  case rest =>
    clear HC4
    try clear p2
    try clear c6
    try clear p6
    try clear c7
    try clear c7b0
    try clear c7b1
    obtain ⟨kq, x24_3, rfl, HA, HJ3, BK199, HB⟩ := hcut
    cases kq with
    | zero => exact absurd HA.out (by simp [types_GetSig.j0])
    | succ kj3 =>
      have H := HA.out
      clear HA
      simp only [types_GetSig.j0] at H
      have HC8 := Aside0.mk H
      clear H
      go_upto_if 24 with (fail)
      go_cut [5, 6] (fun v5 v6 wc => ∃ (kq : Nat) (x5_7 : Int) (x6_7 : Int) (x200001_7 : Int) (x200002_7 : Int), v5 = .int .i64 x5_7 ∧ v6 = .int .i64 x6_7 ∧ Aside0 (types_GetSig.j1 kq l0 x5_7 x6_7 x200001_7 x200002_7 = some (r1, r2, r3, r4, r5)) ∧ Aside0 (kq ≤ kj3) ∧ Aside0 (wc.heap[gb199]? = some (.cells #[(.slice none 0 0), .int .u8 x200001_7, .int .u16 x200002_7] 66 (0, 0))) ∧ Aside0 (Below w.heap.size w wc))
      case first =>
        have H := HC8.out
        clear HC8
        by_cases c9 : x24_3 = true
        · subst c9
          have H1 : ((types_Get.f kj3 l0 a1).bind fun bt202 => (types_GetSig.j1 kj3 l0 bt202.2.2.1 bt202.2.2.2 bt202.1 bt202.2.1)) = some (r1, r2, r3, r4, r5) := by rw [if_pos rfl] at H; exact H
          clear H
          have H := H1
          clear H1
          replace H := Option.bind_eq_some_iff.mp H
          obtain ⟨⟨t202, t203, t204, t205⟩, A100, H⟩ := H
          replace H : (types_GetSig.j1 kj3 l0 t204 t205 t202 t203) = some (r1, r2, r3, r4, r5) := H
          have A10 := Aside0.mk A100
          clear A100
          have H' := Aside0.mk H
          clear H
          go_wp2_with (first | ((with_reducible refine gate_callee (f := 71) rfl ?_); refine goesL_ (some 28) rfl rfl Try.func71 (by kernel_rfl) rfl #[.slice A0 l0.length c0, .int .i64 a1] rfl zargs ?_; (with_reducible refine (types_Get.calls kj3 _ _ l0 a1 t202 t203 t204 t205 _ ?side1 ?side2 A10.out).mono ?_); (case side1 => exact zc (Kd.C_below HR0.out HB.out)); (case side2 => exact HC0.out); rintro e w11 ⟨rfl, hb⟩; refine ⟨_, rfl, ?_⟩; have n0_ := Aside0.mk (blk_below (g := gb199) (o := .cells #[.slice none 0 0, .int .u8 0, .int .u16 0] 66 (0, 0)) zk hb); have n1_ := Aside0.mk (below_step (zb) hb); clear BK199; clear HB; have BK199 := n0_; have HB := n1_; clear n0_ n1_; (try clear hb); (try clear hb2); (try clear hk); (try clear hi); obtain ⟨hcz12_0, hcz12_1, hcz12_2⟩ := cells3 BK199.out; obtain ⟨hfz12_0, hfz12_1, hfz12_2⟩ := froz3 BK199.out))
          go_meet
          case rel => exact ⟨_, (t204), (t205), (t202), (t203), zs, zs, H', ⟨by have := HJ3.out; first | omega | exact Nat.le_refl _⟩, ⟨by (with_reducible repeat (first | refine blk_drewN ?_ _ | refine blk_drew ?_ | refine blk_alloc ?_ _)); refine blk_put (cs := #[.slice none 0 0, .int .u8 t202, .int .u16 0]) ?_ 2 _ rfl; (with_reducible repeat (first | refine blk_drewN ?_ _ | refine blk_drew ?_ | refine blk_alloc ?_ _)); refine blk_put (cs := #[.slice none 0 0, .int .u8 0, .int .u16 0]) ?_ 1 _ rfl; (with_reducible repeat (first | refine blk_drewN ?_ _ | refine blk_drew ?_ | refine blk_alloc ?_ _)); exact BK199.out⟩, ⟨zb⟩⟩
        · replace c9 := Bool.eq_false_iff.mpr c9
          subst c9
          have H1 : (types_GetSig.j1 kj3 l0 (wrap64 (a1 + 1)) t201 0 0) = some (r1, r2, r3, r4, r5) := by rw [if_neg (show ¬ (false = true) by decide)] at H; exact H
          clear H
          have H := H1
          clear H1
          have H' := Aside0.mk H
          clear H
          go_wp2
          go_meet
          case rel => exact ⟨_, ((wrap64 (a1 + 1))), (t201), (0), (0), zs, zs, H', ⟨by have := HJ3.out; first | omega | exact Nat.le_refl _⟩, ⟨by (with_reducible repeat (first | refine blk_drewN ?_ _ | refine blk_drew ?_ | refine blk_alloc ?_ _)); exact BK199.out⟩, ⟨zb⟩⟩
      case rest =>
        clear HC8
        try clear p2
        try clear c6
        try clear p6
        try clear c7
        try clear c7b0
        try clear c7b1
        try clear c9
        try clear hcz12_0
        try clear hcz12_1
        try clear hcz12_2
        try clear hfz12_0
        try clear hfz12_1
        try clear hfz12_2
        try clear p2
        try clear p6
        obtain ⟨kq, x5_7, x6_7, x200001_7, x200002_7, rfl, rfl, HA, HJ7, BK199, HB⟩ := hcut
        cases kq with
        | zero => exact absurd HA.out (by simp [types_GetSig.j1])
        | succ kj7 =>
          have H := HA.out
          clear HA
          simp only [types_GetSig.j1] at H
          by_cases c13 : x6_7 = 0
          · rw [if_pos c13] at H
            have c13b0 : (x6_7 == 0) = true := beq_iff_eq.mpr c13
            have c13b1 : (x6_7 != 0) = false := bne_eq_false_iff_eq.mpr c13
            clear c13
            replace H := Option.bind_eq_some_iff.mp H
            obtain ⟨⟨t206, t207⟩, A140, H⟩ := H
            replace H : (if t207 = 0 then (if t206 > 15 then (some (([] : List (S44)), 0, 0, 0, 5)) else (types_GetSig.l0 kj7 l0 (wrap64 (x5_7 + 1)) t206 0 ([] : List (S44)) x200001_7 x200002_7)) else (some (([] : List (S44)), 0, 0, 0, t207))) = some (r1, r2, r3, r4, r5) := H
            have A14 := Aside0.mk A140
            clear A140
            by_cases c15 : t207 = 0
            · rw [if_pos c15] at H
              have c15b0 : (t207 == 0) = true := beq_iff_eq.mpr c15
              have c15b1 : (t207 != 0) = false := bne_eq_false_iff_eq.mpr c15
              clear c15
              by_cases c16 : t206 > 15
              · rw [if_pos c16] at H
                have c16b0 : decide (15 < t206) = true := decide_eq_true c16
                clear c16
                simp only [Option.some.injEq, Prod.mk.injEq] at H
                obtain ⟨rfl, rfl, rfl, rfl, rfl⟩ := H
                go_wp2_with (first | ((with_reducible refine gate_callee (f := 64) rfl ?_); refine goesL_ (some 40) rfl rfl Try.func64 (by kernel_rfl) rfl #[.slice A0 l0.length c0, .int .i64 x5_7, .int .i64 1] rfl zargs ?_; (with_reducible refine (ends_Get.calls kj7 _ _ l0 x5_7 1 t206 t207 _ ?side1 ?side2 A14.out).mono ?_); (case side1 => exact zc (Kd.C_below HR0.out HB.out)); (case side2 => exact HC0.out); rintro e w17 ⟨rfl, hb⟩; refine ⟨_, rfl, ?_⟩; have n0_ := Aside0.mk (blk_below (g := gb199) (o := .cells #[.slice none 0 0, .int .u8 x200001_7, .int .u16 x200002_7] 66 (0, 0)) zk hb); have n1_ := Aside0.mk (below_step (zb) hb); clear BK199; clear HB; have BK199 := n0_; have HB := n1_; clear n0_ n1_; (try clear hb); (try clear hb2); (try clear hk); (try clear hi); obtain ⟨hcz18_0, hcz18_1, hcz18_2⟩ := cells3 BK199.out; obtain ⟨hfz18_0, hfz18_1, hfz18_2⟩ := froz3 BK199.out))
                refine bodyPost_ret (results_ctt rfl _ _ gb199 66 #[.slice none 0 0, .int .u8 0, .int .u16 0] (0, 0) _ rfl (by (with_reducible repeat (first | refine blk_drewN ?_ _ | refine blk_drew ?_ | refine blk_alloc ?_ _)); refine blk_put (cs := #[.slice none 0 0, .int .u8 0, .int .u16 x200002_7]) ?_ 2 _ rfl; (with_reducible repeat (first | refine blk_drewN ?_ _ | refine blk_drew ?_ | refine blk_alloc ?_ _)); refine blk_put (cs := #[.slice none 0 0, .int .u8 x200001_7, .int .u16 x200002_7]) ?_ 1 _ rfl; (with_reducible repeat (first | refine blk_drewN ?_ _ | refine blk_drew ?_ | refine blk_alloc ?_ _)); refine blk_put (cs := #[.slice none 0 0, .int .u8 x200001_7, .int .u16 x200002_7]) ?_ 0 _ rfl; (with_reducible repeat (first | refine blk_drewN ?_ _ | refine blk_drew ?_ | refine blk_alloc ?_ _)); exact BK199.out) Try.underlying66 rfl (by kernel_rfl)) rfl ?_
                exact ⟨_, ze, by first | exact Kd.R_nil _ _ _ _ _ | exact Kd.N_nil _ _ _ _ _ | exact Kd.V_nil _ _ _ _ _ | exact Kd.Q_nil _ _ _ _ _ | exact Kd.S_nil _ _ _ _ _, zb⟩
              · rw [if_neg c16] at H
                have c16b0 : decide (15 < t206) = false := decide_eq_false c16
                clear c16
                have H' := Aside0.mk H
                clear H
                go_wp2_with (first | ((with_reducible refine gate_callee (f := 64) rfl ?_); refine goesL_ (some 40) rfl rfl Try.func64 (by kernel_rfl) rfl #[.slice A0 l0.length c0, .int .i64 x5_7, .int .i64 1] rfl zargs ?_; (with_reducible refine (ends_Get.calls kj7 _ _ l0 x5_7 1 t206 t207 _ ?side1 ?side2 A14.out).mono ?_); (case side1 => exact zc (Kd.C_below HR0.out HB.out)); (case side2 => exact HC0.out); rintro e w19 ⟨rfl, hb⟩; refine ⟨_, rfl, ?_⟩; have n0_ := Aside0.mk (blk_below (g := gb199) (o := .cells #[.slice none 0 0, .int .u8 x200001_7, .int .u16 x200002_7] 66 (0, 0)) zk hb); have n1_ := Aside0.mk (below_step (zb) hb); clear BK199; clear HB; have BK199 := n0_; have HB := n1_; clear n0_ n1_; (try clear hb); (try clear hb2); (try clear hk); (try clear hi)))
                go_loopg [5, 55] kj7 (fun kq v5 v55 w' => ∃ (x5_3 : Int) (x55_3 : Int) (x200000_3 : List (S44)) (x200001_3 : Int) (x200002_3 : Int) (u200000 : Value), v5 = .int .i64 x5_3 ∧ v55 = .int .u32 x55_3 ∧ Aside0 (types_GetSig.l0 kq l0 x5_3 t206 x55_3 x200000_3 x200001_3 x200002_3 = some (r1, r2, r3, r4, r5)) ∧ Aside0 (kq ≤ kj7) ∧ Aside0 (Kd.R k44 44 w' w.heap.size (fun _ => True) u200000 x200000_3) ∧ Aside0 (w'.heap[gb199]? = some (.cells #[u200000, .int .u8 x200001_3, .int .u16 x200002_3] 66 (0, 0))) ∧ Aside0 (Below w.heap.size w w'))
                case atStart => exact ⟨(wrap64 (x5_7 + 1)), (0), (([] : List (S44))), (x200001_7), (x200002_7), (.slice none 0 0), zs, zs, H', ⟨Nat.le_refl _⟩, ⟨by first | exact Kd.R_nil _ _ _ _ _ | exact Kd.N_nil _ _ _ _ _ | exact Kd.V_nil _ _ _ _ _ | exact Kd.Q_nil _ _ _ _ _ | exact Kd.S_nil _ _ _ _ _⟩, ⟨by (with_reducible repeat (first | refine blk_drewN ?_ _ | refine blk_drew ?_ | refine blk_alloc ?_ _)); exact BK199.out⟩, ⟨zb⟩⟩
                case round =>
                  clear H'
                  try clear c1
                  try clear p2
                  try clear c6
                  try clear p6
                  try clear c7
                  try clear c7b0
                  try clear c7b1
                  try clear c9
                  try clear c13
                  try clear c13b0
                  try clear c13b1
                  try clear c15
                  try clear c15b0
                  try clear c15b1
                  try clear c16
                  try clear c16b0
                  try clear hcz12_0
                  try clear hcz12_1
                  try clear hcz12_2
                  try clear hcz18_0
                  try clear hcz18_1
                  try clear hcz18_2
                  try clear hfz12_0
                  try clear hfz12_1
                  try clear hfz12_2
                  try clear hfz18_0
                  try clear hfz18_1
                  try clear hfz18_2
                  try clear p2
                  try clear p6
                  obtain ⟨x5_3, x55_3, x200000_3, x200001_3, x200002_3, u200000, rfl, rfl, HA, HK3, HO_200000, BK199, HB⟩ := hrel
                  cases gk with
                  | zero => exact absurd HA.out (by simp [types_GetSig.l0])
                  | succ k3 =>
                    have H := HA.out
                    clear HA
                    simp only [types_GetSig.l0] at H
                    by_cases c20 : x55_3 < t206
                    · rw [if_pos c20] at H
                      have c20b0 : decide (x55_3 < t206) = true := decide_eq_true c20
                      clear c20
                      replace H := Option.bind_eq_some_iff.mp H
                      obtain ⟨⟨t209, t210, t211, t212⟩, A210, H⟩ := H
                      replace H : (if t212 = 0 then (if x200000_3.length < 35184372088832 then (types_GetSig.l0 k3 l0 t211 t206 ((x55_3 + 1) % 4294967296) (x200000_3 ++ [(⟨t209, t210⟩ : S44)]) x200001_3 x200002_3) else (none)) else (some (([] : List (S44)), 0, 0, 0, t212))) = some (r1, r2, r3, r4, r5) := H
                      have A21 := Aside0.mk A210
                      clear A210
                      by_cases c22 : t212 = 0
                      · rw [if_pos c22] at H
                        have c22b0 : (t212 == 0) = true := beq_iff_eq.mpr c22
                        have c22b1 : (t212 != 0) = false := bne_eq_false_iff_eq.mpr c22
                        clear c22
                        by_cases c23 : x200000_3.length < 35184372088832
                        · rw [if_pos c23] at H
                          have LMc23 := Aside0.mk c23
                          clear c23
                          obtain ⟨y213, hy213⟩ : ∃ y_ : List (S44), y_ = (x200000_3 ++ [(⟨t209, t210⟩ : S44)]) := ⟨_, rfl⟩
                          replace H : (types_GetSig.l0 k3 l0 t211 t206 ((x55_3 + 1) % 4294967296) y213 x200001_3 x200002_3) = some (r1, r2, r3, r4, r5) := by first | (rw [hy213]; with_reducible exact H) | (have H2_ := (Option.bind_some _ _).symm.trans H; rw [hy213]; with_reducible exact H2_) | (have H2_ := (Option.bind_some _ _).symm.trans H; with_reducible exact H2_) | with_reducible exact H | (rw [hy213]; exact H) | exact H
                          have Ny213 := Aside0.mk hy213
                          clear hy213
                          have H' := Aside0.mk H
                          clear H
                          go_wp2_with (first | ((with_reducible refine gate_dst (N := 9) rfl ?_); refine zbox (N := 9) (cs := #[.int .u8 0, .int .u16 0]) (t := 44) ?_; intro gb208 hg w24 hbox hb; have n0_ := Aside0.mk (Kd.R_below (Kd.R_elderB (zr HO_200000) gb208 (Nat.le_of_eq hg.symm)) hb); have n1_ := Aside0.mk (blk_below (g := gb199) (o := .cells #[u200000, .int .u8 x200001_3, .int .u16 x200002_3] 66 (0, 0)) zk hb); have n2_ := Aside0.mk (below_step (zb) hb); have n3_ := Aside0.mk (hbox); have n4_ := Aside0.mk ((by rw [hg]; exact (below_size (zb)) : w.heap.size ≤ gb208)); have n5_ := Aside0.mk ((by rw [hg]; exact (below_size (zb)) : w.heap.size ≤ gb208)); have n6_ := Aside0.mk ((by rw [hg]; exact Nat.ne_of_lt (blk_lt (g := gb199) (o := .cells #[u200000, .int .u8 x200001_3, .int .u16 x200002_3] 66 (0, 0)) zk) : gb199 ≠ gb208)); have n7_ := Aside0.mk ((by rw [hg]; exact Nat.ne_of_gt (blk_lt (g := gb199) (o := .cells #[u200000, .int .u8 x200001_3, .int .u16 x200002_3] 66 (0, 0)) zk) : gb208 ≠ gb199)); clear HO_200000; clear BK199; clear HB; have HO_200000 := n0_; have BK199 := n1_; have HB := n2_; have BK208 := n3_; have GW208 := n4_; have GE208 := n5_; have NB199_208 := n6_; have NB208_199 := n7_; clear n0_ n1_ n2_ n3_ n4_ n5_ n6_ n7_; clear hb hbox hg) | ((with_reducible refine gate_callee (f := 71) rfl ?_); refine goesL_ (some 60) rfl rfl Try.func71 (by kernel_rfl) rfl #[.slice A0 l0.length c0, .int .i64 x5_3] rfl zargs ?_; (with_reducible refine (types_Get.calls k3 _ _ l0 x5_3 t209 t210 t211 t212 _ ?side1 ?side2 A21.out).mono ?_); (case side1 => exact zc (Kd.C_below HR0.out HB.out)); (case side2 => exact HC0.out); rintro e w25 ⟨rfl, hb⟩; refine ⟨_, rfl, ?_⟩; have n0_ := Aside0.mk (Kd.R_below (zr HO_200000) hb); have n1_ := Aside0.mk (blk_below (g := gb199) (o := .cells #[u200000, .int .u8 x200001_3, .int .u16 x200002_3] 66 (0, 0)) zk hb); have n2_ := Aside0.mk (blk_below (g := gb208) (o := .cells #[.int .u8 0, .int .u16 0] 44 (0, 0)) zk hb); have n3_ := Aside0.mk (below_step (zb) hb); clear HO_200000; clear BK199; clear BK208; clear HB; have HO_200000 := n0_; have BK199 := n1_; have BK208 := n2_; have HB := n3_; clear n0_ n1_ n2_ n3_; (try clear hb); (try clear hb2); (try clear hk); (try clear hi); have hnb26 := NB208_199.out; have hnc26 := NB199_208.out; obtain ⟨hcz27_0, hcz27_1⟩ := cells2 BK208.out; obtain ⟨hfz27_0, hfz27_1⟩ := froz2 BK208.out; obtain ⟨hcz28_0, hcz28_1, hcz28_2⟩ := cells3 BK199.out; obtain ⟨hfz28_0, hfz28_1, hfz28_2⟩ := froz3 BK199.out) | ((with_reducible refine gate_builtin (b := .append) (xs := #[.tmp 69, .tmp 71]) rfl ?_); at_builtin; refine Kd.R_append k44 (w0 := w) w.heap.size rfl (.tmp 69) (.tmp 71) 34 44 (.agg #[(.int .u8 0), (.int .u16 0)]) 4 rfl Try.underlying34 info44 rfl (by decide) (by omega) u200000 x200000_3 (⟨t209, t210⟩ : S44) [.int .u8 t209, .int .u16 t210] (fun k_ => k_ ≠ gb208) (fun _ => False) rfl (by first | (go_simp; done) | (go_simp; rfl)) ?aP (fun _ hk => hk.elim) ?aF ?aO ?aB ?aS ?aL ?_; (case aP => exact k44_mkM _ _ _ (⟨t209, t210⟩ : S44)); (case aB => exact (zb)); (case aF => exact (fun k_ hk => Kd.freshB (g := gb208) (o := .cells #[.int .u8 t209, .int .u16 t210] 44 (0, 0)) (by (with_reducible repeat (first | refine blk_drewN ?_ _ | refine blk_drew ?_ | refine blk_alloc ?_ _)); refine blk_put (cs := #[.int .u8 t209, .int .u16 0]) ?_ 1 _ rfl; (with_reducible repeat (first | refine blk_drewN ?_ _ | refine blk_drew ?_ | refine blk_alloc ?_ _)); refine blk_put (cs := #[.int .u8 0, .int .u16 0]) ?_ 0 _ rfl; (with_reducible repeat (first | refine blk_drewN ?_ _ | refine blk_drew ?_ | refine blk_alloc ?_ _)); exact BK208.out) k_ hk)); (case aO => exact (by (with_reducible repeat (first | apply Kd.R_alloc | apply Kd.R_drewN | apply Kd.R_drew)); exact Kd.R_mono (Kd.R_far (p := ⟨gb208, 1, none⟩) (Kd.R_far (p := ⟨gb208, 0, none⟩) (Kd.R_mono HO_200000.out (fun k_ hk => (⟨hk, hk.2⟩ : _ ∧ k_ ≠ gb208))) (fun _ hk => hk.2) (.int .u8 t209)) (fun _ hk => hk.2) (.int .u16 t210)) (fun _ hk => hk.1.2))); (case aS => exact (below_size (zb))); (case aL => have := LMc23.out; omega); intro v214 w29 ho hb hg hat; rw [← Ny213.out] at ho; have n0_ := Aside0.mk (blk_grown (g := gb199) (o := .cells #[u200000, .int .u8 x200001_3, .int .u16 x200002_3] 66 (0, 0)) (by (with_reducible repeat (first | refine blk_drewN ?_ _ | refine blk_drew ?_ | refine blk_alloc ?_ _)); refine blk_far ?_ NB199_208.out _; (with_reducible repeat (first | refine blk_drewN ?_ _ | refine blk_drew ?_ | refine blk_alloc ?_ _)); refine blk_far ?_ NB199_208.out _; (with_reducible repeat (first | refine blk_drewN ?_ _ | refine blk_drew ?_ | refine blk_alloc ?_ _)); exact BK199.out) hg (Kd.R_ne HO_200000.out BK199.out (by decide))); have n1_ := Aside0.mk (blk_grown (g := gb208) (o := .cells #[.int .u8 t209, .int .u16 t210] 44 (0, 0)) (by (with_reducible repeat (first | refine blk_drewN ?_ _ | refine blk_drew ?_ | refine blk_alloc ?_ _)); refine blk_put (cs := #[.int .u8 t209, .int .u16 0]) ?_ 1 _ rfl; (with_reducible repeat (first | refine blk_drewN ?_ _ | refine blk_drew ?_ | refine blk_alloc ?_ _)); refine blk_put (cs := #[.int .u8 0, .int .u16 0]) ?_ 0 _ rfl; (with_reducible repeat (first | refine blk_drewN ?_ _ | refine blk_drew ?_ | refine blk_alloc ?_ _)); exact BK208.out) hg (Kd.R_away HO_200000.out (fun _ hk => hk.2))); have n2_ := Aside0.mk (hb); have n3_ := Aside0.mk (ho); clear BK199; clear BK208; clear HB; clear HO_200000; have BK199 := n0_; have BK208 := n1_; have HB := n2_; have HO215 := n3_; clear n0_ n1_ n2_ n3_; clear ho hb hg hat; obtain ⟨Ao30, co30, eo30⟩ := Kd.R_slice HO215.out; subst eo30; obtain ⟨hcz31_0, hcz31_1, hcz31_2⟩ := cells3 BK199.out; obtain ⟨hfz31_0, hfz31_1, hfz31_2⟩ := froz3 BK199.out))
                          go_roundg k3
                          case measure => have := HJ3.out; have := HJ7.out; have := HK3.out; omega
                          case rel => exact ⟨(t211), ((x55_3 + 1) % 4294967296), (y213), (x200001_3), (x200002_3), (.slice Ao30 y213.length co30), zs, zs, H', ⟨by have := HJ3.out; have := HJ7.out; have := HK3.out; omega⟩, ⟨by (with_reducible repeat (first | apply Kd.R_alloc | apply Kd.R_drewN | apply Kd.R_drew)); exact Kd.R_mono (Kd.R_far (p := ⟨gb199, 0, none⟩) (Kd.R_types HO215.out BK199.out (by decide)) (fun _ hk => hk.2) (.slice Ao30 y213.length co30)) (fun _ hk => trivial)⟩, ⟨by (with_reducible repeat (first | refine blk_drewN ?_ _ | refine blk_drew ?_ | refine blk_alloc ?_ _)); refine blk_put (cs := #[u200000, .int .u8 x200001_3, .int .u16 x200002_3]) ?_ 0 _ rfl; (with_reducible repeat (first | refine blk_drewN ?_ _ | refine blk_drew ?_ | refine blk_alloc ?_ _)); exact BK199.out⟩, ⟨zb⟩⟩
                        · rw [if_neg c23] at H
                          exact absurd H (by simp)
                      · rw [if_neg c22] at H
                        have c22b0 : (t212 == 0) = false := beq_eq_false_iff_ne.mpr c22
                        have c22b1 : (t212 != 0) = true := bne_iff_ne.mpr c22
                        simp only [Option.some.injEq, Prod.mk.injEq] at H
                        obtain ⟨rfl, rfl, rfl, rfl, rfl⟩ := H
                        go_wp2_with (first | ((with_reducible refine gate_dst (N := 9) rfl ?_); refine zbox (N := 9) (cs := #[.int .u8 0, .int .u16 0]) (t := 44) ?_; intro gb208 hg w32 hbox hb; have n0_ := Aside0.mk (Kd.R_below (Kd.R_elderB (zr HO_200000) gb208 (Nat.le_of_eq hg.symm)) hb); have n1_ := Aside0.mk (blk_below (g := gb199) (o := .cells #[u200000, .int .u8 x200001_3, .int .u16 x200002_3] 66 (0, 0)) zk hb); have n2_ := Aside0.mk (below_step (zb) hb); have n3_ := Aside0.mk (hbox); have n4_ := Aside0.mk ((by rw [hg]; exact (below_size (zb)) : w.heap.size ≤ gb208)); have n5_ := Aside0.mk ((by rw [hg]; exact (below_size (zb)) : w.heap.size ≤ gb208)); have n6_ := Aside0.mk ((by rw [hg]; exact Nat.ne_of_lt (blk_lt (g := gb199) (o := .cells #[u200000, .int .u8 x200001_3, .int .u16 x200002_3] 66 (0, 0)) zk) : gb199 ≠ gb208)); have n7_ := Aside0.mk ((by rw [hg]; exact Nat.ne_of_gt (blk_lt (g := gb199) (o := .cells #[u200000, .int .u8 x200001_3, .int .u16 x200002_3] 66 (0, 0)) zk) : gb208 ≠ gb199)); clear HO_200000; clear BK199; clear HB; have HO_200000 := n0_; have BK199 := n1_; have HB := n2_; have BK208 := n3_; have GW208 := n4_; have GE208 := n5_; have NB199_208 := n6_; have NB208_199 := n7_; clear n0_ n1_ n2_ n3_ n4_ n5_ n6_ n7_; clear hb hbox hg) | ((with_reducible refine gate_callee (f := 71) rfl ?_); refine goesL_ (some 60) rfl rfl Try.func71 (by kernel_rfl) rfl #[.slice A0 l0.length c0, .int .i64 x5_3] rfl zargs ?_; (with_reducible refine (types_Get.calls k3 _ _ l0 x5_3 t209 t210 t211 t212 _ ?side1 ?side2 A21.out).mono ?_); (case side1 => exact zc (Kd.C_below HR0.out HB.out)); (case side2 => exact HC0.out); rintro e w33 ⟨rfl, hb⟩; refine ⟨_, rfl, ?_⟩; have n0_ := Aside0.mk (Kd.R_below (zr HO_200000) hb); have n1_ := Aside0.mk (blk_below (g := gb199) (o := .cells #[u200000, .int .u8 x200001_3, .int .u16 x200002_3] 66 (0, 0)) zk hb); have n2_ := Aside0.mk (blk_below (g := gb208) (o := .cells #[.int .u8 0, .int .u16 0] 44 (0, 0)) zk hb); have n3_ := Aside0.mk (below_step (zb) hb); clear HO_200000; clear BK199; clear BK208; clear HB; have HO_200000 := n0_; have BK199 := n1_; have BK208 := n2_; have HB := n3_; clear n0_ n1_ n2_ n3_; (try clear hb); (try clear hb2); (try clear hk); (try clear hi); have hnb34 := NB208_199.out; have hnc34 := NB199_208.out; obtain ⟨hcz35_0, hcz35_1⟩ := cells2 BK208.out; obtain ⟨hfz35_0, hfz35_1⟩ := froz2 BK208.out; obtain ⟨hcz36_0, hcz36_1, hcz36_2⟩ := cells3 BK199.out; obtain ⟨hfz36_0, hfz36_1, hfz36_2⟩ := froz3 BK199.out))
                        refine bodyPost_ret (results_ctt rfl _ _ gb199 66 #[.slice none 0 0, .int .u8 0, .int .u16 0] (0, 0) _ rfl (by (with_reducible repeat (first | refine blk_drewN ?_ _ | refine blk_drew ?_ | refine blk_alloc ?_ _)); refine blk_put (cs := #[.slice none 0 0, .int .u8 0, .int .u16 x200002_3]) ?_ 2 _ rfl; (with_reducible repeat (first | refine blk_drewN ?_ _ | refine blk_drew ?_ | refine blk_alloc ?_ _)); refine blk_put (cs := #[.slice none 0 0, .int .u8 x200001_3, .int .u16 x200002_3]) ?_ 1 _ rfl; (with_reducible repeat (first | refine blk_drewN ?_ _ | refine blk_drew ?_ | refine blk_alloc ?_ _)); refine blk_put (cs := #[u200000, .int .u8 x200001_3, .int .u16 x200002_3]) ?_ 0 _ rfl; (with_reducible repeat (first | refine blk_drewN ?_ _ | refine blk_drew ?_ | refine blk_alloc ?_ _)); refine blk_far ?_ NB199_208.out _; (with_reducible repeat (first | refine blk_drewN ?_ _ | refine blk_drew ?_ | refine blk_alloc ?_ _)); refine blk_far ?_ NB199_208.out _; (with_reducible repeat (first | refine blk_drewN ?_ _ | refine blk_drew ?_ | refine blk_alloc ?_ _)); exact BK199.out) Try.underlying66 rfl (by kernel_rfl)) rfl ?_
                        exact ⟨_, ze, by first | exact Kd.R_nil _ _ _ _ _ | exact Kd.N_nil _ _ _ _ _ | exact Kd.V_nil _ _ _ _ _ | exact Kd.Q_nil _ _ _ _ _ | exact Kd.S_nil _ _ _ _ _, zb⟩
                    · rw [if_neg c20] at H
                      have c20b0 : decide (x55_3 < t206) = false := decide_eq_false c20
                      clear c20
                      simp only [Option.some.injEq, Prod.mk.injEq] at H
                      obtain ⟨rfl, rfl, rfl, rfl, rfl⟩ := H
                      obtain ⟨hcz37_0, hcz37_1, hcz37_2⟩ := cells3 BK199.out
                      obtain ⟨hfz37_0, hfz37_1, hfz37_2⟩ := froz3 BK199.out
                      obtain ⟨Ao38, co38, eo38⟩ := Kd.R_slice HO_200000.out
                      subst eo38
                      go_wp2
                      refine bodyPost_ret (results_ctt rfl _ _ gb199 66 #[.slice Ao38 x200000_3.length co38, .int .u8 x200001_3, .int .u16 x200002_3] (0, 0) _ rfl (by (with_reducible repeat (first | refine blk_drewN ?_ _ | refine blk_drew ?_ | refine blk_alloc ?_ _)); refine blk_put (cs := #[.slice Ao38 x200000_3.length co38, .int .u8 x200001_3, .int .u16 x200002_3]) ?_ 2 _ rfl; (with_reducible repeat (first | refine blk_drewN ?_ _ | refine blk_drew ?_ | refine blk_alloc ?_ _)); refine blk_put (cs := #[.slice Ao38 x200000_3.length co38, .int .u8 x200001_3, .int .u16 x200002_3]) ?_ 1 _ rfl; (with_reducible repeat (first | refine blk_drewN ?_ _ | refine blk_drew ?_ | refine blk_alloc ?_ _)); refine blk_put (cs := #[.slice Ao38 x200000_3.length co38, .int .u8 x200001_3, .int .u16 x200002_3]) ?_ 0 _ rfl; (with_reducible repeat (first | refine blk_drewN ?_ _ | refine blk_drew ?_ | refine blk_alloc ?_ _)); exact BK199.out) Try.underlying66 rfl (by kernel_rfl)) rfl ?_
                      exact ⟨_, ze, by (with_reducible repeat (first | apply Kd.R_alloc | apply Kd.R_drewN | apply Kd.R_drew)); exact Kd.R_mono (Kd.R_far (p := ⟨gb199, 2, none⟩) (Kd.R_far (p := ⟨gb199, 1, none⟩) (Kd.R_far (p := ⟨gb199, 0, none⟩) (Kd.R_types HO_200000.out BK199.out (by decide)) (fun _ hk => hk.2) (.slice Ao38 x200000_3.length co38)) (fun _ hk => hk.2) (.int .u8 x200001_3)) (fun _ hk => hk.2) (.int .u16 x200002_3)) (fun _ hk => trivial), zb⟩
            · rw [if_neg c15] at H
              have c15b0 : (t207 == 0) = false := beq_eq_false_iff_ne.mpr c15
              have c15b1 : (t207 != 0) = true := bne_iff_ne.mpr c15
              simp only [Option.some.injEq, Prod.mk.injEq] at H
              obtain ⟨rfl, rfl, rfl, rfl, rfl⟩ := H
              go_wp2_with (first | ((with_reducible refine gate_callee (f := 64) rfl ?_); refine goesL_ (some 40) rfl rfl Try.func64 (by kernel_rfl) rfl #[.slice A0 l0.length c0, .int .i64 x5_7, .int .i64 1] rfl zargs ?_; (with_reducible refine (ends_Get.calls kj7 _ _ l0 x5_7 1 t206 t207 _ ?side1 ?side2 A14.out).mono ?_); (case side1 => exact zc (Kd.C_below HR0.out HB.out)); (case side2 => exact HC0.out); rintro e w39 ⟨rfl, hb⟩; refine ⟨_, rfl, ?_⟩; have n0_ := Aside0.mk (blk_below (g := gb199) (o := .cells #[.slice none 0 0, .int .u8 x200001_7, .int .u16 x200002_7] 66 (0, 0)) zk hb); have n1_ := Aside0.mk (below_step (zb) hb); clear BK199; clear HB; have BK199 := n0_; have HB := n1_; clear n0_ n1_; (try clear hb); (try clear hb2); (try clear hk); (try clear hi); obtain ⟨hcz40_0, hcz40_1, hcz40_2⟩ := cells3 BK199.out; obtain ⟨hfz40_0, hfz40_1, hfz40_2⟩ := froz3 BK199.out))
              refine bodyPost_ret (results_ctt rfl _ _ gb199 66 #[.slice none 0 0, .int .u8 0, .int .u16 0] (0, 0) _ rfl (by (with_reducible repeat (first | refine blk_drewN ?_ _ | refine blk_drew ?_ | refine blk_alloc ?_ _)); refine blk_put (cs := #[.slice none 0 0, .int .u8 0, .int .u16 x200002_7]) ?_ 2 _ rfl; (with_reducible repeat (first | refine blk_drewN ?_ _ | refine blk_drew ?_ | refine blk_alloc ?_ _)); refine blk_put (cs := #[.slice none 0 0, .int .u8 x200001_7, .int .u16 x200002_7]) ?_ 1 _ rfl; (with_reducible repeat (first | refine blk_drewN ?_ _ | refine blk_drew ?_ | refine blk_alloc ?_ _)); refine blk_put (cs := #[.slice none 0 0, .int .u8 x200001_7, .int .u16 x200002_7]) ?_ 0 _ rfl; (with_reducible repeat (first | refine blk_drewN ?_ _ | refine blk_drew ?_ | refine blk_alloc ?_ _)); exact BK199.out) Try.underlying66 rfl (by kernel_rfl)) rfl ?_
              exact ⟨_, ze, by first | exact Kd.R_nil _ _ _ _ _ | exact Kd.N_nil _ _ _ _ _ | exact Kd.V_nil _ _ _ _ _ | exact Kd.Q_nil _ _ _ _ _ | exact Kd.S_nil _ _ _ _ _, zb⟩
          · rw [if_neg c13] at H
            have c13b0 : (x6_7 == 0) = false := beq_eq_false_iff_ne.mpr c13
            have c13b1 : (x6_7 != 0) = true := bne_iff_ne.mpr c13
            simp only [Option.some.injEq, Prod.mk.injEq] at H
            obtain ⟨rfl, rfl, rfl, rfl, rfl⟩ := H
            obtain ⟨hcz41_0, hcz41_1, hcz41_2⟩ := cells3 BK199.out
            obtain ⟨hfz41_0, hfz41_1, hfz41_2⟩ := froz3 BK199.out
            go_wp2
            refine bodyPost_ret (results_ctt rfl _ _ gb199 66 #[.slice none 0 0, .int .u8 0, .int .u16 0] (0, 0) _ rfl (by (with_reducible repeat (first | refine blk_drewN ?_ _ | refine blk_drew ?_ | refine blk_alloc ?_ _)); refine blk_put (cs := #[.slice none 0 0, .int .u8 0, .int .u16 x200002_7]) ?_ 2 _ rfl; (with_reducible repeat (first | refine blk_drewN ?_ _ | refine blk_drew ?_ | refine blk_alloc ?_ _)); refine blk_put (cs := #[.slice none 0 0, .int .u8 x200001_7, .int .u16 x200002_7]) ?_ 1 _ rfl; (with_reducible repeat (first | refine blk_drewN ?_ _ | refine blk_drew ?_ | refine blk_alloc ?_ _)); refine blk_put (cs := #[.slice none 0 0, .int .u8 x200001_7, .int .u16 x200002_7]) ?_ 0 _ rfl; (with_reducible repeat (first | refine blk_drewN ?_ _ | refine blk_drew ?_ | refine blk_alloc ?_ _)); exact BK199.out) Try.underlying66 rfl (by kernel_rfl)) rfl ?_
            exact ⟨_, ze, by first | exact Kd.R_nil _ _ _ _ _ | exact Kd.N_nil _ _ _ _ _ | exact Kd.V_nil _ _ _ _ _ | exact Kd.Q_nil _ _ _ _ _ | exact Kd.S_nil _ _ _ _ _, zb⟩
def ends_GetRow.j0 : Nat → List Int → Int → Int → Bool → Option (List Int × Int × Int)
  | 0, _, _, _, _ => none
  | k + 1, x0, x1, x2, x15 => if x15 = true then (some (([] : List Int), 0, 2)) else ((ends_Get.f k x0 x1 x2).bind fun bt216 => (if bt216.2 = 0 then ((ends_Part.f k x0 (wrap64 (x1 + x2)) (wrap64 (bt216.1))).bind fun bt218 => (if bt218.2 = 0 then (some (bt218.1, wrap64 ((wrap64 (x1 + x2)) + (wrap64 (bt216.1))), 0)) else (some (([] : List Int), 0, bt218.2)))) else (some (([] : List Int), 0, bt216.2))))
def ends_GetRow.f (k : Nat) (l0 : List Int) (a1 : Int) (a2 : Int) : Option (List Int × Int × Int) := if a2 = 1 then (ends_GetRow.j0 k l0 a1 a2 false) else (ends_GetRow.j0 k l0 a1 a2 (a2 != 2))
set_option maxHeartbeats 8000000 in
set_option maxRecDepth 100000 in
theorem ends_GetRow.calls (k : Nat) (A0 : Option Addr) (c0 : Nat) (l0 : List Int) (a1 : Int) (a2 : Int) (r1 : List Int) (r2 : Int) (r3 : Int) (w : World) (hr0 : Kd.C (Kd.int .u8) w A0 l0.length l0) (hc0 : l0.length ≤ c0) (h : ends_GetRow.f k l0 a1 a2 = some (r1, r2, r3)) :
    Calls Try.prog 69 #[.slice A0 l0.length c0, .int .i64 a1, .int .i64 a2] w fun e w' => ∃ v0_ : Value, e = .returned (.tuple #[v0_, .int .i64 r2, .int .i64 r3]) ∧ Kr.R (Kd.int .u8) 5 w' w.heap.size (fun _ => True) v0_ r1 ∧ Below w.heap.size w w' := by
  have HR0 := Aside0.mk hr0
  have HC0 := Aside0.mk hc0
  clear hr0 hc0
  have HB := Aside0.mk (Below.refl w.heap.size w)
  have H : (if a2 = 1 then (ends_GetRow.j0 k l0 a1 a2 false) else (ends_GetRow.j0 k l0 a1 a2 (a2 != 2))) = some (r1, r2, r3) := h
  clear h
  have HC4 := Aside0.mk H
  clear H
  go_enter Try.func69, Try.ntmps69
  go_upto_region 1 with (fail)
  go_cut [15] (fun v15 wc => ∃ (kq : Nat) (x15_3 : Bool), v15 = .bool x15_3 ∧ Aside0 (ends_GetRow.j0 kq l0 a1 a2 x15_3 = some (r1, r2, r3)) ∧ Aside0 (kq ≤ k) ∧ Aside0 (Below w.heap.size w wc))
  case first =>
    have H := HC4.out
    clear HC4
    by_cases c5 : a2 = 1
    · rw [if_pos c5] at H
      have c5b0 : (a2 == 1) = true := beq_iff_eq.mpr c5
      have c5b1 : (a2 != 1) = false := bne_eq_false_iff_eq.mpr c5
      clear c5
      (first | rw [c5b0] | (simp only [i64_w, i32_w]; rw [c5b0]) | skip)
      have H' := Aside0.mk H
      clear H
      go_wp2
      go_meet
      case rel => exact ⟨_, (false), zs, H', ⟨by first | omega | exact Nat.le_refl _⟩, ⟨zb⟩⟩
    · rw [if_neg c5] at H
      have c5b0 : (a2 == 1) = false := beq_eq_false_iff_ne.mpr c5
      have c5b1 : (a2 != 1) = true := bne_iff_ne.mpr c5
      (first | rw [c5b0] | (simp only [i64_w, i32_w]; rw [c5b0]) | skip)
      have H' := Aside0.mk H
      clear H
      go_wp2
      go_meet
      case rel => exact ⟨_, ((a2 != 2)), zs, H', ⟨by first | omega | exact Nat.le_refl _⟩, ⟨zb⟩⟩
  case rest =>
    clear HC4
    try clear p2
    try clear c5
    try clear c5b0
    try clear c5b1
    obtain ⟨kq, x15_3, rfl, HA, HJ3, HB⟩ := hcut
    cases kq with
    | zero => exact absurd HA.out (by simp [ends_GetRow.j0])
    | succ kj3 =>
      have H := HA.out
      clear HA
      simp only [ends_GetRow.j0] at H
      by_cases c6 : x15_3 = true
      · subst c6
        have H1 : (some (([] : List Int), 0, 2)) = some (r1, r2, r3) := by rw [if_pos rfl] at H; exact H
        clear H
        have H := H1
        clear H1
        simp only [Option.some.injEq, Prod.mk.injEq] at H
        obtain ⟨rfl, rfl, rfl⟩ := H
        go_wp2
        go_ret3
        exact ⟨_, ze, by first | exact Kr.R_nil _ _ _ _ _ | exact Kd.N_nil _ _ _ _ _ | exact Kd.V_nil _ _ _ _ _ | exact Kd.Q_nil _ _ _ _ _ | exact Kd.S_nil _ _ _ _ _, zb⟩
      · replace c6 := Bool.eq_false_iff.mpr c6
        subst c6
        have H1 : ((ends_Get.f kj3 l0 a1 a2).bind fun bt216 => (if bt216.2 = 0 then ((ends_Part.f kj3 l0 (wrap64 (a1 + a2)) (wrap64 (bt216.1))).bind fun bt218 => (if bt218.2 = 0 then (some (bt218.1, wrap64 ((wrap64 (a1 + a2)) + (wrap64 (bt216.1))), 0)) else (some (([] : List Int), 0, bt218.2)))) else (some (([] : List Int), 0, bt216.2)))) = some (r1, r2, r3) := by rw [if_neg (show ¬ (false = true) by decide)] at H; exact H
        clear H
        have H := H1
        clear H1
        replace H := Option.bind_eq_some_iff.mp H
        obtain ⟨⟨t216, t217⟩, A70, H⟩ := H
        replace H : (if t217 = 0 then ((ends_Part.f kj3 l0 (wrap64 (a1 + a2)) (wrap64 (t216))).bind fun bt218 => (if bt218.2 = 0 then (some (bt218.1, wrap64 ((wrap64 (a1 + a2)) + (wrap64 (t216))), 0)) else (some (([] : List Int), 0, bt218.2)))) else (some (([] : List Int), 0, t217))) = some (r1, r2, r3) := H
        have A7 := Aside0.mk A70
        clear A70
        by_cases c8 : t217 = 0
        · rw [if_pos c8] at H
          have c8b0 : (t217 == 0) = true := beq_iff_eq.mpr c8
          have c8b1 : (t217 != 0) = false := bne_eq_false_iff_eq.mpr c8
          clear c8
          replace H := Option.bind_eq_some_iff.mp H
          obtain ⟨⟨t218, t219⟩, A90, H⟩ := H
          replace H : (if t219 = 0 then (some (t218, wrap64 ((wrap64 (a1 + a2)) + (wrap64 (t216))), 0)) else (some (([] : List Int), 0, t219))) = some (r1, r2, r3) := H
          have A9 := Aside0.mk A90
          clear A90
          by_cases c10 : t219 = 0
          · rw [if_pos c10] at H
            have c10b0 : (t219 == 0) = true := beq_iff_eq.mpr c10
            have c10b1 : (t219 != 0) = false := bne_eq_false_iff_eq.mpr c10
            clear c10
            simp only [Option.some.injEq, Prod.mk.injEq] at H
            obtain ⟨rfl, rfl, rfl⟩ := H
            go_wp2_with (first | ((with_reducible refine gate_callee (f := 64) rfl ?_); refine goesL_ (some 20) rfl rfl Try.func64 (by kernel_rfl) rfl #[.slice A0 l0.length c0, .int .i64 a1, .int .i64 a2] rfl zargs ?_; (with_reducible refine (ends_Get.calls kj3 _ _ l0 a1 a2 t216 t217 _ ?side1 ?side2 A7.out).mono ?_); (case side1 => exact zc (Kd.C_below HR0.out HB.out)); (case side2 => exact HC0.out); rintro e w11 ⟨rfl, hb⟩; refine ⟨_, rfl, ?_⟩; have n0_ := Aside0.mk (below_step (zb) hb); clear HB; have HB := n0_; clear n0_; (try clear hb); (try clear hb2); (try clear hk); (try clear hi)) | ((with_reducible refine gate_callee (f := 76) rfl ?_); refine goesL_ (some 33) rfl rfl Try.func76 (by kernel_rfl) rfl #[.slice A0 l0.length c0, .int .i64 (wrap64 (a1 + a2)), .int .i64 (wrap64 (t216))] rfl zargs ?_; (with_reducible refine (ends_Part.calls kj3 _ _ l0 (wrap64 (a1 + a2)) (wrap64 (t216)) t218 t219 _ ?side1 ?side2 A9.out).mono ?_); (case side1 => exact zc (Kd.C_below HR0.out HB.out)); (case side2 => exact HC0.out); rintro e w12 ⟨v220, rfl, ho0, hb⟩; refine ⟨_, rfl, ?_⟩; have n0_ := Aside0.mk (Kr.R_lower ho0 (below_size (zb))); have n1_ := Aside0.mk (below_step (zb) hb); clear HB; have HO221 := n0_; have HB := n1_; clear n0_ n1_; (try clear hb); (try clear hb2); (try clear hk); (try clear hi); (try clear ho0)))
            go_ret3
            exact ⟨_, ze, by (with_reducible repeat (first | apply Kr.R_alloc | apply Kr.R_drewN | apply Kr.R_drew)); exact HO221.out, zb⟩
          · rw [if_neg c10] at H
            have c10b0 : (t219 == 0) = false := beq_eq_false_iff_ne.mpr c10
            have c10b1 : (t219 != 0) = true := bne_iff_ne.mpr c10
            simp only [Option.some.injEq, Prod.mk.injEq] at H
            obtain ⟨rfl, rfl, rfl⟩ := H
            go_wp2_with (first | ((with_reducible refine gate_callee (f := 64) rfl ?_); refine goesL_ (some 20) rfl rfl Try.func64 (by kernel_rfl) rfl #[.slice A0 l0.length c0, .int .i64 a1, .int .i64 a2] rfl zargs ?_; (with_reducible refine (ends_Get.calls kj3 _ _ l0 a1 a2 t216 t217 _ ?side1 ?side2 A7.out).mono ?_); (case side1 => exact zc (Kd.C_below HR0.out HB.out)); (case side2 => exact HC0.out); rintro e w13 ⟨rfl, hb⟩; refine ⟨_, rfl, ?_⟩; have n0_ := Aside0.mk (below_step (zb) hb); clear HB; have HB := n0_; clear n0_; (try clear hb); (try clear hb2); (try clear hk); (try clear hi)) | ((with_reducible refine gate_callee (f := 76) rfl ?_); refine goesL_ (some 33) rfl rfl Try.func76 (by kernel_rfl) rfl #[.slice A0 l0.length c0, .int .i64 (wrap64 (a1 + a2)), .int .i64 (wrap64 (t216))] rfl zargs ?_; (with_reducible refine (ends_Part.calls kj3 _ _ l0 (wrap64 (a1 + a2)) (wrap64 (t216)) t218 t219 _ ?side1 ?side2 A9.out).mono ?_); (case side1 => exact zc (Kd.C_below HR0.out HB.out)); (case side2 => exact HC0.out); rintro e w14 ⟨v220, rfl, ho0, hb⟩; refine ⟨_, rfl, ?_⟩; have n0_ := Aside0.mk (Kr.R_lower ho0 (below_size (zb))); have n1_ := Aside0.mk (below_step (zb) hb); clear HB; have HO221 := n0_; have HB := n1_; clear n0_ n1_; (try clear hb); (try clear hb2); (try clear hk); (try clear hi); (try clear ho0)))
            go_ret3
            exact ⟨_, ze, by first | exact Kr.R_nil _ _ _ _ _ | exact Kd.N_nil _ _ _ _ _ | exact Kd.V_nil _ _ _ _ _ | exact Kd.Q_nil _ _ _ _ _ | exact Kd.S_nil _ _ _ _ _, zb⟩
        · rw [if_neg c8] at H
          have c8b0 : (t217 == 0) = false := beq_eq_false_iff_ne.mpr c8
          have c8b1 : (t217 != 0) = true := bne_iff_ne.mpr c8
          simp only [Option.some.injEq, Prod.mk.injEq] at H
          obtain ⟨rfl, rfl, rfl⟩ := H
          go_wp2_with (first | ((with_reducible refine gate_callee (f := 64) rfl ?_); refine goesL_ (some 20) rfl rfl Try.func64 (by kernel_rfl) rfl #[.slice A0 l0.length c0, .int .i64 a1, .int .i64 a2] rfl zargs ?_; (with_reducible refine (ends_Get.calls kj3 _ _ l0 a1 a2 t216 t217 _ ?side1 ?side2 A7.out).mono ?_); (case side1 => exact zc (Kd.C_below HR0.out HB.out)); (case side2 => exact HC0.out); rintro e w15 ⟨rfl, hb⟩; refine ⟨_, rfl, ?_⟩; have n0_ := Aside0.mk (below_step (zb) hb); clear HB; have HB := n0_; clear n0_; (try clear hb); (try clear hb2); (try clear hk); (try clear hi)))
          go_ret3
          exact ⟨_, ze, by first | exact Kr.R_nil _ _ _ _ _ | exact Kd.N_nil _ _ _ _ _ | exact Kd.V_nil _ _ _ _ _ | exact Kd.Q_nil _ _ _ _ _ | exact Kd.S_nil _ _ _ _ _, zb⟩
theorem Kr_bound {α : Type} {d : Kd α} {e : Nat} {w : World} {base : Nat} {ok : Nat → Prop} {v : Value} {xs : List α} (h : Kr.R d e w base ok v xs) : Kr.R d e w base (fun k => ok k ∧ base ≤ k ∧ k < w.heap.size ∧ ∃ q, q ∈ e :: d.E ∧ ∃ cells, w.heap[k]? = some (.cells cells q (0, 0))) v xs := ⟨Kd.R_bound h.1, h.2⟩
theorem Kr_setold {α : Type} {d : Kd α} {e B n : Nat} {w : World} {v : Value} {xs : List α} (h : Kr.R d e w B (fun _ => True) v xs) (hn : n < B) (i : Nat) (u : Value) : Kr.R d e (w.setCell ⟨n, i, none⟩ u) B (fun _ => True) v xs :=
  Kr.R_mono (Kr.R_far (p := ⟨n, i, none⟩) (Kr_bound h) (fun k hk he => by have := hk.2.1; simp at he; omega) u) (fun _ _ => trivial)
def kroom : Kd (List Int) where
  sz := 1
  E := [5]
  K := (Kd.slice 5 (Kd.int .u8)).K
  M := fun w base ok xs cs => ∃ v, cs = [v] ∧ Kr.R (Kd.int .u8) 5 w base ok v xs
  K_len := (Kd.slice 5 (Kd.int .u8)).K_len
  K_one := (Kd.slice 5 (Kd.int .u8)).K_one
  K_below := (Kd.slice 5 (Kd.int .u8)).K_below
  K_of_M := fun ⟨v, e, h⟩ => (Kd.slice 5 (Kd.int .u8)).K_of_M ⟨v, e, h.1⟩
  M_mono := fun hm ⟨v, e, h⟩ => ⟨v, e, Kr.R_mono h hm⟩
  M_bound := fun ⟨v, e, h⟩ => ⟨v, e, Kr_bound h⟩
  M_move := fun hm ⟨v, e, h⟩ => ⟨v, e, Kd.R_move h.1 hm, h.2.move (fun k hk => hm k (h.1.1 k hk))⟩
  M_lower := fun hb ⟨v, e, h⟩ => ⟨v, e, Kr.R_lower h hb⟩
def k41r : Kd S41 := Kd.iso (Kd.pair (Kd.int .u16) kroom) (fun x : S41 => (x.f0, x.f1))
theorem k41r_mkM (w : World) (base : Nat) (ok : Nat → Prop) (x : S41) {v1 : Value} (g1 : Kr.R (Kd.int .u8) 5 w base ok v1 x.f1) : k41r.M w base ok x [.int .u16 x.f0, v1] := ⟨[.int .u16 x.f0], [v1], rfl, rfl, ⟨v1, rfl, g1⟩⟩
theorem k41r_openM {w : World} {base : Nat} {ok : Nat → Prop} {x : S41} {cs : List Value} (h : k41r.M w base ok x cs) : ∃ v1, cs = [.int .u16 x.f0, v1] ∧ Kr.R (Kd.int .u8) 5 w base ok v1 x.f1 := by
  obtain ⟨_, _, rfl, rfl, ⟨v1, rfl, g1⟩⟩ := h
  exact ⟨v1, rfl, g1⟩
theorem k41r_C {w : World} {A : Option Addr} {n : Nat} {xs : List S41} (h : Kd.C k41r w A n xs) : Kd.C k41 w A n xs := h
theorem k41r_R {w : World} {base : Nat} {ok : Nat → Prop} {v : Value} {xs : List S41} (h : Kd.R k41r 41 w base ok v xs) : Kd.R k41 41 w base ok v xs :=
  ⟨h.1, h.2.imp_ (fun x cs hp => by obtain ⟨v1, rfl, g1⟩ := k41r_openM hp; exact k41_mkM _ _ _ x g1.1)⟩
def k38r : Kd S38 := Kd.iso (Kd.pair (Kd.int .u8) (Kd.pair (Kd.int .u16) (Kd.pair (Kd.slice 41 k41r) (Kd.pair (Kd.slice 44 k44) (Kd.pair (Kd.slice 23 (Kd.int .u16)) (Kd.slice 66 k66)))))) (fun x : S38 => (x.f0, x.f1, x.f2, x.f3, x.f4, x.f5))
theorem k38r_openM {w : World} {base : Nat} {ok : Nat → Prop} {x : S38} {cs : List Value} (h : k38r.M w base ok x cs) : ∃ v2 v3 v4 v5, cs = [.int .u8 x.f0, .int .u16 x.f1, v2, v3, v4, v5] ∧ k41r.R 41 w base ok v2 x.f2 ∧ k44.R 44 w base ok v3 x.f3 ∧ (Kd.int .u16).R 23 w base ok v4 x.f4 ∧ k66.R 66 w base ok v5 x.f5 := by
  obtain ⟨_, _, rfl, rfl, ⟨_, _, rfl, rfl, ⟨_, _, rfl, ⟨v2, rfl, g2⟩, ⟨_, _, rfl, ⟨v3, rfl, g3⟩, ⟨_, _, rfl, ⟨v4, rfl, g4⟩, ⟨v5, rfl, g5⟩⟩⟩⟩⟩⟩ := h
  exact ⟨v2, v3, v4, v5, rfl, g2, g3, g4, g5⟩
theorem k38r_mkM (w : World) (base : Nat) (ok : Nat → Prop) (x : S38) {v2 v3 v4 v5 : Value} (g2 : k41r.R 41 w base ok v2 x.f2) (g3 : k44.R 44 w base ok v3 x.f3) (g4 : (Kd.int .u16).R 23 w base ok v4 x.f4) (g5 : k66.R 66 w base ok v5 x.f5) : k38r.M w base ok x [.int .u8 x.f0, .int .u16 x.f1, v2, v3, v4, v5] :=
  ⟨[.int .u8 x.f0], _, rfl, rfl, ⟨[.int .u16 x.f1], _, rfl, rfl, ⟨[v2], _, rfl, ⟨v2, rfl, g2⟩, ⟨[v3], _, rfl, ⟨v3, rfl, g3⟩, ⟨[v4], _, rfl, ⟨v4, rfl, g4⟩, ⟨v5, rfl, g5⟩⟩⟩⟩⟩⟩
theorem k38r_R {w : World} {base : Nat} {ok : Nat → Prop} {v : Value} {xs : List S38} (h : Kd.R k38r 38 w base ok v xs) : Kd.R k38 38 w base ok v xs :=
  ⟨h.1, h.2.imp_ (fun x cs hp => by obtain ⟨v2, v3, v4, v5, rfl, g2, g3, g4, g5⟩ := k38r_openM hp; exact k38_mkM _ _ _ x (k41r_R g2) g3 g4 g5)⟩
/-- All that was there stays, but g. -/
structure But (g : Nat) (w w' : World) : Prop where
  os : w'.os = w.os
  tape : w'.tape = w.tape
  output : w'.output = w.output
  size : w.heap.size ≤ w'.heap.size
  block : ∀ k, k < w.heap.size → k ≠ g → w'.heap[k]? = w.heap[k]?
theorem But.refl (g : Nat) (w : World) : But g w w := ⟨rfl, rfl, rfl, Nat.le_refl _, fun _ _ _ => rfl⟩
theorem But.trans {g : Nat} {a b c : World} (h : But g a b) (k : But g b c) : But g a c :=
  ⟨k.os.trans h.os, k.tape.trans h.tape, k.output.trans h.output, Nat.le_trans h.size k.size, fun i hi hn => (k.block i (Nat.lt_of_lt_of_le hi h.size) hn).trans (h.block i hi hn)⟩
theorem But.of_below {g : Nat} {a b : World} (h : Below a.heap.size a b) : But g a b := ⟨h.os, h.tape, h.output, h.size, fun i hi _ => h.block i hi⟩
theorem But.below {g : Nat} {a b c : World} (h : But g a b) (k : Below b.heap.size b c) : But g a c := h.trans (But.of_below k)
theorem But.drew {g : Nat} {a b : World} (h : But g a b) : But g a b.drew := ⟨h.os, h.tape, h.output, h.size, h.block⟩
theorem But.drewN {g : Nat} {a b : World} (h : But g a b) (n : Nat) : But g a (b.drewN n) := ⟨h.os, h.tape, h.output, h.size, h.block⟩
theorem But.alloc {g : Nat} {a b : World} (h : But g a b) (o : Obj) : But g a (b.alloc o) := h.below (below_alloc (Below.refl _ _) o)
theorem But.set {g : Nat} {a b : World} (h : But g a b) (i : Nat) (u : Value) : But g a (b.setCell ⟨g, i, none⟩ u) :=
  h.trans ⟨rfl, rfl, rfl, by simp [World.setCell], fun k _ hn => Below.heap_setCell b ⟨g, i, none⟩ u k hn⟩
/-- .. a new block's cells are written. -/
theorem But.setNew {g n : Nat} {a b : World} (h : But g a b) (hn : a.heap.size ≤ n) (i : Nat) (u : Value) : But g a (b.setCell ⟨n, i, none⟩ u) :=
  ⟨h.os, h.tape, h.output, by simp [World.setCell]; exact h.size, fun k hk hg => (Below.heap_setCell b ⟨n, i, none⟩ u k (by simp; omega)).trans (h.block k hk hg)⟩
theorem But.own {g B : Nat} {w a b : World} (h : Below B w a) (hg : B ≤ g) (hB : B ≤ a.heap.size) (k : But g a b) : Below B w b :=
  ⟨k.os.trans h.os, k.tape.trans h.tape, k.output.trans h.output, Nat.le_trans h.size k.size, fun i hi => (k.block i (Nat.lt_of_lt_of_le hi hB) (by omega)).trans (h.block i hi)⟩
/-- A row of the call's own outlives what turns the place alone. -/
theorem R_but {α : Type} {d : Kd α} {e base g : Nat} {w w' : World} {v : Value} {xs : List α} (h : Kd.R d e w base (fun _ => True) v xs) (hg : g < base) (hb : But g w w') : Kd.R d e w' base (fun _ => True) v xs :=
  Kd.R_mono (Kd.R_step (Kd.R_bound h) (fun k hk hlt => hb.block k hlt (by have := hk.2.1; omega))) (fun _ _ => trivial)
theorem blk_but {g k : Nat} {w w' : World} {o : Obj} (h : w.heap[k]? = some o) (hn : k ≠ g) (hb : But g w w') : w'.heap[k]? = some o := (hb.block k (blk_lt h) hn).trans h
theorem But.step {g n : Nat} {w W w1 : World} (h : But g w W) (hn : w.heap.size ≤ n) (hb : Below n W w1) : But g w w1 :=
  ⟨hb.os.trans h.os, hb.tape.trans h.tape, hb.output.trans h.output, Nat.le_trans h.size hb.size, fun k hk hg => (hb.block k (by omega)).trans (h.block k hk hg)⟩
/-- A block's cells, all at once, and that they may be written. -/
theorem cf2 {w : World} {g t : Nat} {a b : Value} (h : w.heap[g]? = some (.cells #[a, b] t (0, 0))) : w.cell? ⟨g, 0, none⟩ = some a ∧ w.cell? ⟨g, 1, none⟩ = some b ∧ w.frozen? ⟨g, 0, none⟩ = false ∧ w.frozen? ⟨g, 1, none⟩ = false :=
  ⟨(blk_cell h 0).trans rfl, (blk_cell h 1).trans rfl, blk_frozen h 0, blk_frozen h 1⟩
theorem cf3 {w : World} {g t : Nat} {a b c : Value} (h : w.heap[g]? = some (.cells #[a, b, c] t (0, 0))) : w.cell? ⟨g, 0, none⟩ = some a ∧ w.cell? ⟨g, 1, none⟩ = some b ∧ w.cell? ⟨g, 2, none⟩ = some c ∧ w.frozen? ⟨g, 0, none⟩ = false ∧ w.frozen? ⟨g, 1, none⟩ = false ∧ w.frozen? ⟨g, 2, none⟩ = false :=
  ⟨(blk_cell h 0).trans rfl, (blk_cell h 1).trans rfl, (blk_cell h 2).trans rfl, blk_frozen h 0, blk_frozen h 1, blk_frozen h 2⟩
/-- The place: its block, and what it reads. -/
structure Pl (w0 : World) (b : List Int) (Ab : Option Addr) (cb : Nat) (w : World) (g : Nat) (at_ e : Int) : Prop where
  blk : w.heap[g]? = some (.cells #[.slice Ab b.length cb, .int .i64 at_, .int .i64 e] 55 (0, 0))
  cap : b.length ≤ cb
  base : w0.heap.size ≤ g
  src : Kd.C (Kd.int .u8) w0 Ab b.length b
  fr : Below w0.heap.size w0 w
section
variable {w0 : World} {b : List Int} {Ab : Option Addr} {cb g : Nat} {w w' : World} {at_ e : Int}
theorem Pl.lt (h : Pl w0 b Ab cb w g at_ e) : g < w.heap.size := blk_lt h.blk
theorem Pl.c0 (h : Pl w0 b Ab cb w g at_ e) : w.cell? ⟨g, 0, none⟩ = some (.slice Ab b.length cb) := (blk_cell h.blk 0).trans rfl
theorem Pl.c1 (h : Pl w0 b Ab cb w g at_ e) : w.cell? ⟨g, 1, none⟩ = some (.int .i64 at_) := (blk_cell h.blk 1).trans rfl
theorem Pl.c2 (h : Pl w0 b Ab cb w g at_ e) : w.cell? ⟨g, 2, none⟩ = some (.int .i64 e) := (blk_cell h.blk 2).trans rfl
theorem Pl.fz (h : Pl w0 b Ab cb w g at_ e) (i : Nat) : w.frozen? ⟨g, i, none⟩ = false := blk_frozen h.blk i
theorem Pl.now (h : Pl w0 b Ab cb w g at_ e) : Kd.C (Kd.int .u8) w Ab b.length b := Kd.C_below h.src h.fr
theorem Pl.move (h : Pl w0 b Ab cb w g at_ e) (hb : But g w w') (he : w'.heap[g]? = w.heap[g]?) : Pl w0 b Ab cb w' g at_ e := ⟨he.trans h.blk, h.cap, h.base, h.src, But.own h.fr h.base h.fr.size hb⟩
theorem Pl.below (h : Pl w0 b Ab cb w g at_ e) (hb : Below w.heap.size w w') : Pl w0 b Ab cb w' g at_ e := h.move (But.of_below hb) (hb.block g h.lt)
theorem Pl.drew (h : Pl w0 b Ab cb w g at_ e) : Pl w0 b Ab cb w.drew g at_ e := h.move (But.drew (But.refl _ _)) rfl
theorem Pl.drewN (h : Pl w0 b Ab cb w g at_ e) (n : Nat) : Pl w0 b Ab cb (w.drewN n) g at_ e := h.move (But.drewN (But.refl _ _) n) rfl
theorem Pl.alloc (h : Pl w0 b Ab cb w g at_ e) (o : Obj) : Pl w0 b Ab cb (w.alloc o) g at_ e := h.below (below_alloc (Below.refl _ _) o)
theorem Pl.set1 (h : Pl w0 b Ab cb w g at_ e) (x : Int) : Pl w0 b Ab cb (w.setCell ⟨g, 1, none⟩ (.int .i64 x)) g x e :=
  ⟨(blk_set h.blk 1 (.int .i64 x)).trans rfl, h.cap, h.base, h.src, below_set h.fr h.base⟩
theorem Pl.set2 (h : Pl w0 b Ab cb w g at_ e) (x : Int) : Pl w0 b Ab cb (w.setCell ⟨g, 2, none⟩ (.int .i64 x)) g at_ x :=
  ⟨(blk_set h.blk 2 (.int .i64 x)).trans rfl, h.cap, h.base, h.src, below_set h.fr h.base⟩
/-- .. a cell of another block of these calls is written. -/
theorem Pl.setNew (h : Pl w0 b Ab cb w g at_ e) {n : Nat} (hn : g ≠ n) (hb : w0.heap.size ≤ n) (i : Nat) (u : Value) : Pl w0 b Ab cb (w.setCell ⟨n, i, none⟩ u) g at_ e :=
  ⟨blk_far h.blk (p := ⟨n, i, none⟩) hn u, h.cap, h.base, h.src, below_set h.fr hb⟩
theorem Pl.step {n : Nat} (h : Pl w0 b Ab cb w g at_ e) (hg : g < n) (hb : Below n w w') : Pl w0 b Ab cb w' g at_ e :=
  ⟨(hb.block g hg).trans h.blk, h.cap, h.base, h.src, ⟨hb.os.trans h.fr.os, hb.tape.trans h.fr.tape, hb.output.trans h.fr.output, Nat.le_trans h.fr.size hb.size, fun k hk => (hb.block k (by have := h.base; omega)).trans (h.fr.block k hk)⟩⟩
end
/-- (*place).number. -/
def num (b : List Int) (size at_ e : Int) : Option (Int × Int × Int) := if e = 0 then (ends_Get.f 20 b at_ size).bind fun t => if 0 ≤ t.1 ∧ t.1 ≤ 4294967295 then some (t.1, wrap64 (at_ + size), t.2) else none else some (0, at_, e)
set_option maxHeartbeats 4000000 in
theorem number_ok (w0 : World) (b : List Int) (Ab : Option Addr) (cb g : Nat) (at_ e size r at' e' : Int) (w : World) (h : Pl w0 b Ab cb w g at_ e) (hn : num b size at_ e = some (r, at', e')) :
    Calls Try.prog 43 #[.pointer (some ⟨g, 0, none⟩), .int .i64 size] w fun x w' => x = .returned (.int .i64 r) ∧ Pl w0 b Ab cb w' g at' e' ∧ But g w w' := by
  have HP := Aside0.mk h
  have HF := Aside0.mk (But.refl g w)
  clear h
  unfold num at hn
  by_cases c : e = 0
  · rw [if_pos c] at hn
    subst c
    obtain ⟨⟨t1, t2⟩, hg, hn⟩ := Option.bind_eq_some_iff.mp hn
    replace hn : (if 0 ≤ t1 ∧ t1 ≤ 4294967295 then some (t1, wrap64 (at_ + size), t2) else none) = some (r, at', e') := hn
    by_cases c1 : 0 ≤ t1 ∧ t1 ≤ 4294967295
    rotate_left
    · rw [if_neg c1] at hn
      cases hn
    rw [if_pos c1] at hn
    simp only [Option.some.injEq, Prod.mk.injEq] at hn
    obtain ⟨rfl, ha_, rfl⟩ := hn
    have HG := Aside0.mk hg
    have HA_ := Aside0.mk ha_
    have hw : IntKind.i64.wrap t1 = t1 := by rw [i64_w]; unfold wrap64; omega
    clear hg ha_ c1
    have q0 := HP.out.c0
    have q1 := HP.out.c1
    have q2 := HP.out.c2
    go_enter Try.func43, Try.ntmps43
    go_upto_region 4 with (fail)
    go_region_with (first | (go_at_call 64; (with_reducible refine (ends_Get.calls 20 Ab cb b at_ size t1 t2 _ ?s1 ?s2 HG.out).mono ?_); (case s1 => exact HP.out.drew.now); (case s2 => exact HP.out.cap); rintro e w1 ⟨rfl, hb⟩; have n0_ := Aside0.mk (HP.out.drew.below hb); have n1_ := Aside0.mk (HF.out.drew.below hb); clear HP HF hb q0 q1 q2; have HP := n0_; have HF := n1_; clear n0_ n1_; have q0 := HP.out.c0; have q1 := HP.out.c1; have q2 := HP.out.c2; have f0 := HP.out.fz 0; have f1 := HP.out.fz 1; have f2 := HP.out.fz 2))
    all_goals (obtain ⟨w5, hw5⟩ : ∃ W_ : World, W_ = w1.setCell ⟨g, 2, none⟩ (.int .i64 t2) := ⟨_, rfl⟩; rw [← hw5]; have n0_ := Aside0.mk (show Pl w0 b Ab cb w5 g at_ t2 by rw [hw5]; exact HP.out.set2 t2); have n1_ := Aside0.mk (show But g w w5 by rw [hw5]; exact HF.out.set 2 _); clear HP HF hw5 q0 q1 q2 f0 f1 f2; have HP := n0_; have HF := n1_; clear n0_ n1_; have q1 := HP.out.c1; have f1 := HP.out.fz 1; go_wp2; go_ret; exact ⟨by first | rfl | (rw [hw]; done) | (simp [hw]; done), by rw [← HA_.out]; exact HP.out.set1 _, HF.out.set 1 _⟩)
  · rw [if_neg c] at hn
    simp only [Option.some.injEq, Prod.mk.injEq] at hn
    obtain ⟨rfl, rfl, rfl⟩ := hn
    have cb_ : (e != 0) = true := bne_iff_ne.mpr c
    have cc_ : (e == 0) = false := beq_eq_false_iff_ne.mpr c
    clear c
    have q2 := HP.out.c2
    go_enter Try.func43, Try.ntmps43
    go_wp2
    go_ret
    exact ⟨rfl, HP.out, HF.out⟩
/-- A row made since B outlives what is written at older blocks. -/
theorem R_setold {α : Type} {d : Kd α} {e B n : Nat} {w : World} {v : Value} {xs : List α} (h : Kd.R d e w B (fun _ => True) v xs) (hn : n < B) (i : Nat) (u : Value) : Kd.R d e (w.setCell ⟨n, i, none⟩ u) B (fun _ => True) v xs :=
  Kd.R_mono (Kd.R_far (p := ⟨n, i, none⟩) (Kd.R_bound h) (fun k hk he => by have := hk.2.1; simp at he; omega) u) (fun _ _ => trivial)
/-- (*place).word. -/
def wordG (b : List Int) (at_ e : Int) : Option (Int × Int × Int) := (num b 2 at_ e).bind fun t => some (IntKind.u16.wrap t.1, t.2.1, t.2.2)
set_option maxHeartbeats 4000000 in
theorem word_ok (w0 : World) (b : List Int) (Ab : Option Addr) (cb g : Nat) (at_ e r at' e' : Int) (w : World) (h : Pl w0 b Ab cb w g at_ e) (hn : wordG b at_ e = some (r, at', e')) :
    Calls Try.prog 46 #[.pointer (some ⟨g, 0, none⟩)] w fun x w' => x = .returned (.int .u16 r) ∧ Pl w0 b Ab cb w' g at' e' ∧ But g w w' := by
  have HP := Aside0.mk h
  have HF := Aside0.mk (But.refl g w)
  clear h
  unfold wordG at hn
  obtain ⟨⟨t1, t2, t3⟩, hg, hn⟩ := Option.bind_eq_some_iff.mp hn
  simp only [Option.some.injEq, Prod.mk.injEq] at hn
  obtain ⟨rfl, rfl, rfl⟩ := hn
  have HG := Aside0.mk hg
  clear hg
  go_enter Try.func46, Try.ntmps46
  go_wp2_with (first | (go_at_call 43; (with_reducible refine (number_ok w0 b Ab cb g at_ e 2 t1 t2 t3 _ ?s1 HG.out).mono ?_); (case s1 => exact HP.out); rintro e w1 ⟨rfl, hp, hf⟩; have n0_ := Aside0.mk hp; have n1_ := Aside0.mk (HF.out.trans hf); clear HP HF hp hf; have HP := n0_; have HF := n1_; clear n0_ n1_))
  go_ret
  exact ⟨by first | rfl | (simp; done), HP.out, HF.out⟩
set_option maxHeartbeats 4000000 in
theorem lit68_ok (b : List Int) (Ab : Option Addr) (cb : Nat) (at_ : Int) (r1 : List Int) (r2 r3 : Int) (w : World) (hr0 : Kd.C (Kd.int .u8) w Ab b.length b) (hc0 : b.length ≤ cb) (h : ends_GetRow.f 20 b at_ 1 = some (r1, r2, r3)) :
    Calls Try.prog 68 #[.slice Ab b.length cb, .int .i64 at_] w fun e w' => ∃ v0_ : Value, e = .returned (.tuple #[v0_, .int .i64 r2, .int .i64 r3]) ∧ Kr.R (Kd.int .u8) 5 w' w.heap.size (fun _ => True) v0_ r1 ∧ Below w.heap.size w w' := by
  have HR := Aside0.mk hr0
  have HC := Aside0.mk hc0
  have HG := Aside0.mk h
  clear hr0 hc0 h
  go_enter Try.func68, Try.ntmps68
  go_wp2_with (first | (go_at_call 69; (with_reducible refine (ends_GetRow.calls 20 Ab cb b at_ 1 r1 r2 r3 _ ?s1 HC.out HG.out).mono ?_); (case s1 => exact HR.out); rintro e w1 ⟨v, rfl, ho, hb⟩; have HO := Aside0.mk ho; have HB := Aside0.mk hb; clear ho hb))
  refine bodyPost_ret (results_list (rs := [.tmp 4, .tmp 5, .tmp 6]) rfl (by simp) (.tmp (.tmp (.tmp .nil)))) rfl ?_
  exact ⟨_, rfl, HO.out, HB.out⟩
def by24 (b : List Int) (at_ e : Int) : Option (List Int × Int × Int) := if e = 0 then (ends_GetRow.f 20 b at_ 1).bind fun t => some (t.1, (if t.2.2 = 0 then t.2.1 else at_), t.2.2) else some (([] : List Int), at_, e)
set_option maxHeartbeats 8000000 in
set_option maxRecDepth 100000 in
theorem by24_ok (w0 : World) (b : List Int) (Ab : Option Addr) (cb g : Nat) (at_ e : Int) (x : List Int) (at' e' : Int) (w : World) (h : Pl w0 b Ab cb w g at_ e) (hn : by24 b at_ e = some (x, at', e')) :
    Calls Try.prog 67 #[.pointer (some ⟨g, 0, none⟩), (.func (.func 68) #[] #[])] w fun y w' => ∃ v : Value, y = .returned v ∧ Kr.R (Kd.int .u8) 5 w' w.heap.size (fun _ => True) v x ∧ Pl w0 b Ab cb w' g at' e' ∧ But g w w' := by
  have HP := Aside0.mk h
  have HF := Aside0.mk (But.refl g w)
  have LG := Aside0.mk h.lt
  have BG := Aside0.mk h.base
  have WB := Aside0.mk h.fr.size
  clear h
  unfold by24 at hn
  by_cases c : e = 0
  · rw [if_pos c] at hn
    subst c
    obtain ⟨⟨r1, r2, r3⟩, hg, hn⟩ := Option.bind_eq_some_iff.mp hn
    replace hn : some (r1, (if r3 = 0 then r2 else at_), r3) = some (x, at', e') := hn
    simp only [Option.some.injEq, Prod.mk.injEq] at hn
    obtain ⟨rfl, ha_, rfl⟩ := hn
    have HG := Aside0.mk hg
    clear hg
    have q2 := HP.out.c2
    go_enter Try.func67, Try.ntmps67
    go_upto_region 5 with (fail)
    clear q2
    obtain ⟨B, hB⟩ : ∃ B_ : Nat, B_ = (World.drew w).heap.size := ⟨_, rfl⟩
    have LB := Aside0.mk (show g < B by rw [hB]; exact HP.out.lt)
    have LW := Aside0.mk (show w.heap.size ≤ B by rw [hB]; exact HF.out.size)
    go_cut [5, 6] from 7 (fun v5 v6 wc => ∃ (Ao : Option Addr) (co : Nat), v5 = .slice Ao r1.length co ∧ v6 = .int .i64 r2 ∧ Aside0 (Pl w0 b Ab cb wc g at_ r3) ∧ Aside0 (But g w wc) ∧ Aside0 (Kr.R (Kd.int .u8) 5 wc B (fun _ => True) (.slice Ao r1.length co) r1))
    case first =>
      have q0 := HP.out.c0
      have q1 := HP.out.c1
      go_region_with (first | (go_at_call 68; (with_reducible refine (lit68_ok b Ab cb at_ r1 r2 r3 _ ?s1 ?s2 HG.out).mono ?_); (case s1 => exact HP.out.drew.now); (case s2 => exact HP.out.cap); rintro e w1 ⟨v, rfl, ho, hb⟩; have HO := Aside0.mk (show Kr.R (Kd.int .u8) 5 w1 B (fun _ => True) v r1 by rw [hB]; exact ho); obtain ⟨Ao, co, eo⟩ := Kr.R_slice HO.out; subst eo; clear ho; have n0_ := Aside0.mk (HP.out.drew.below hb); have n1_ := Aside0.mk (HF.out.drew.below hb); clear HP HF hb q0 q1; have HP := n0_; have HF := n1_; clear n0_ n1_; have q2 := HP.out.c2; have f2 := HP.out.fz 2))
      all_goals ((try go_wp2); go_meet; case rel => exact ⟨Ao, co, rfl, rfl, ⟨by repeat (with_reducible first | exact HP.out | refine Pl.set2 (e := 0) ?_ _ | refine Pl.set1 (at_ := at_) ?_ _ | refine Pl.drew ?_)⟩, ⟨by repeat (with_reducible first | exact HF.out | refine But.set ?_ _ _ | refine But.drew ?_)⟩, ⟨by repeat (with_reducible first | exact HO.out | refine Kr_setold ?_ LB.out _ _)⟩⟩)
    case rest =>
      clear HP HF
      obtain ⟨Ao, co, rfl, rfl, HP, HF, HO⟩ := hcut
      have q2 := HP.out.c2
      by_cases c5 : r3 = 0
      · rw [if_pos c5] at ha_
        subst c5
        subst ha_
        have q1 := HP.out.c1
        have f1 := HP.out.fz 1
        go_upto_region 8 with (fail)
        obtain ⟨w7, hw7⟩ : ∃ W_ : World, W_ = (wc.setCell ⟨g, 1, none⟩ (.int .i64 r2)) := ⟨_, rfl⟩
        rw [← hw7]
        have n0_ := Aside0.mk (show Pl w0 b Ab cb w7 g r2 0 by rw [hw7]; exact HP.out.set1 _)
        have n1_ := Aside0.mk (show But g w w7 by rw [hw7]; exact HF.out.set _ _)
        have n3_ := Aside0.mk (show Kr.R (Kd.int .u8) 5 w7 B (fun _ => True) (.slice Ao r1.length co) r1 by rw [hw7]; exact Kr_setold HO.out LB.out _ _)
        clear HP HF hw7 q2 q1 f1 HO
        have HP := n0_
        have HF := n1_
        clear n0_ n1_
        have HO := n3_
        clear n3_
        go_wp2
        go_ret
        exact ⟨_, rfl, Kr.R_lower HO.out LW.out, HP.out, HF.out⟩
      · rw [if_neg c5] at ha_
        subst ha_
        have c5a : (r3 == 0) = false := beq_eq_false_iff_ne.mpr c5
        have c5b : (r3 != 0) = true := bne_iff_ne.mpr c5
        clear c5
        go_wp2
        go_ret
        exact ⟨_, rfl, Kr.R_lower HO.out LW.out, HP.out, HF.out⟩
  · rw [if_neg c] at hn
    simp only [Option.some.injEq, Prod.mk.injEq] at hn
    obtain ⟨rfl, rfl, rfl⟩ := hn
    have c1 : (e != 0) = true := bne_iff_ne.mpr c
    have c2 : (e == 0) = false := beq_eq_false_iff_ne.mpr c
    clear c
    have q2 := HP.out.c2
    go_enter Try.func67, Try.ntmps67
    go_wp2
    go_ret
    exact ⟨_, rfl, Kr.R_nil _ _ _ _ _, HP.out, HF.out⟩
def by44 (b : List Int) (at_ e : Int) : Option (S44 × Int × Int) := if e = 0 then (types_Get.f 20 b at_).bind fun t => some (⟨t.1, t.2.1⟩, (if t.2.2.2 = 0 then t.2.2.1 else at_), t.2.2.2) else some ((⟨0, 0⟩ : S44), at_, e)
set_option maxHeartbeats 8000000 in
set_option maxRecDepth 100000 in
theorem by44_ok (w0 : World) (b : List Int) (Ab : Option Addr) (cb g : Nat) (at_ e : Int) (x : S44) (at' e' : Int) (w : World) (h : Pl w0 b Ab cb w g at_ e) (hn : by44 b at_ e = some (x, at', e')) :
    Calls Try.prog 70 #[.pointer (some ⟨g, 0, none⟩), (.func (.func 71) #[] #[])] w fun y w' => y = .returned (.agg #[.int .u8 x.f0, .int .u16 x.f1]) ∧ Pl w0 b Ab cb w' g at' e' ∧ But g w w' := by
  have HP := Aside0.mk h
  have HF := Aside0.mk (But.refl g w)
  have LG := Aside0.mk h.lt
  have BG := Aside0.mk h.base
  have WB := Aside0.mk h.fr.size
  clear h
  unfold by44 at hn
  have hu := Try.underlying44
  by_cases c : e = 0
  · rw [if_pos c] at hn
    subst c
    obtain ⟨⟨r1, r2, r3, r4⟩, hg, hn⟩ := Option.bind_eq_some_iff.mp hn
    replace hn : some ((⟨r1, r2⟩ : S44), (if r4 = 0 then r3 else at_), r4) = some (x, at', e') := hn
    simp only [Option.some.injEq, Prod.mk.injEq] at hn
    obtain ⟨rfl, ha_, rfl⟩ := hn
    have HG := Aside0.mk hg
    clear hg
    have q2 := HP.out.c2
    go_enter Try.func70, Try.ntmps70
    go_upto_region 5 with (first | ((with_reducible refine gate_dst (N := 4) rfl ?_); refine zbox (N := 4) (cs := #[.int .u8 0, .int .u16 0]) (t := 44) ?_; intro n4 hg w4 hbox hb; have G4 := Aside0.mk (show w.heap.size ≤ n4 by rw [hg]; exact HF.out.size); have NG4 := Aside0.mk (show g ≠ n4 by rw [hg]; exact Nat.ne_of_lt HP.out.lt); have Z4 := Aside0.mk (show w0.heap.size ≤ n4 by rw [hg]; exact HP.out.fr.size); have n0_ := Aside0.mk (HP.out.below hb); have n1_ := Aside0.mk (HF.out.below hb); have B4 := Aside0.mk hbox; clear HP HF hb hg hbox q2; have HP := n0_; have HF := n1_; clear n0_ n1_; have q2 := HP.out.c2) | ((with_reducible refine gate_dst (N := 5) rfl ?_); refine zbox (N := 5) (cs := #[.int .u8 0, .int .u16 0]) (t := 44) ?_; intro n5 hg w5 hbox hb; have B4_ := B4; have nb := Aside0.mk (blk_below B4.out hb); clear B4; have B4 := nb; clear nb; have N45 := Aside0.mk (show n4 ≠ n5 by rw [hg]; exact Nat.ne_of_lt (blk_lt B4_.out)); clear B4_; have G5 := Aside0.mk (show w.heap.size ≤ n5 by rw [hg]; exact HF.out.size); have NG5 := Aside0.mk (show g ≠ n5 by rw [hg]; exact Nat.ne_of_lt HP.out.lt); have Z5 := Aside0.mk (show w0.heap.size ≤ n5 by rw [hg]; exact HP.out.fr.size); have n0_ := Aside0.mk (HP.out.below hb); have n1_ := Aside0.mk (HF.out.below hb); have B5 := Aside0.mk hbox; clear HP HF hb hg hbox q2; have HP := n0_; have HF := n1_; clear n0_ n1_; have q2 := HP.out.c2))
    clear q2
    obtain ⟨B, hB⟩ : ∃ B_ : Nat, B_ = (World.drew w5).heap.size := ⟨_, rfl⟩
    have LB := Aside0.mk (show g < B by rw [hB]; exact HP.out.lt)
    have LW := Aside0.mk (show w.heap.size ≤ B by rw [hB]; exact HF.out.size)
    have L4 := Aside0.mk (show n4 < B by rw [hB]; exact blk_lt B4.out)
    have L5 := Aside0.mk (show n5 < B by rw [hB]; exact blk_lt B5.out)
    go_cut [6] from 7 (fun v6 wc => v6 = .int .i64 r3 ∧ Aside0 (Pl w0 b Ab cb wc g at_ r4) ∧ Aside0 (But g w wc) ∧ Aside0 (wc.heap[n4]? = some (.cells #[.int .u8 0, .int .u16 0] 44 (0, 0))) ∧ Aside0 (wc.heap[n5]? = some (.cells #[.int .u8 r1, .int .u16 r2] 44 (0, 0))))
    case first =>
      have q0 := HP.out.c0
      have q1 := HP.out.c1
      go_region_with (first | (go_at_call 71; (with_reducible refine (types_Get.calls 20 Ab cb b at_ r1 r2 r3 r4 _ ?s1 ?s2 HG.out).mono ?_); (case s1 => exact HP.out.drew.now); (case s2 => exact HP.out.cap); rintro e w1 ⟨rfl, hb⟩; have nb4 := Aside0.mk (blk_below (blk_drew B4.out) hb); have nb5 := Aside0.mk (blk_below (blk_drew B5.out) hb); have n0_ := Aside0.mk (HP.out.drew.below hb); have n1_ := Aside0.mk (HF.out.drew.below hb); clear HP HF hb q0 q1; have HP := n0_; have HF := n1_; clear n0_ n1_; clear B4; have B4 := nb4; clear nb4; clear B5; have B5 := nb5; clear nb5; have q2 := HP.out.c2; have f2 := HP.out.fz 2; have f50 := blk_frozen B5.out 0; have q50 : w1.cell? ⟨n5, 0, none⟩ = some (.int .u8 0) := (blk_cell B5.out 0).trans rfl; have f51 := blk_frozen B5.out 1; have q51 : w1.cell? ⟨n5, 1, none⟩ = some (.int .u16 0) := (blk_cell B5.out 1).trans rfl; have ne1 := NG5.out; have ne2 := NG5.out.symm))
      all_goals ((try go_wp2); go_meet; case rel => exact ⟨rfl, ⟨by repeat (with_reducible first | exact HP.out | refine Pl.set2 (e := 0) ?_ _ | refine Pl.set1 (at_ := at_) ?_ _ | refine Pl.setNew ?_ NG4.out Z4.out _ _ | refine Pl.setNew ?_ NG5.out Z5.out _ _ | refine Pl.drew ?_)⟩, ⟨by repeat (with_reducible first | exact HF.out | refine But.set ?_ _ _ | refine But.setNew ?_ G4.out _ _ | refine But.setNew ?_ G5.out _ _ | refine But.drew ?_)⟩, ⟨by repeat (with_reducible first | exact B4.out | refine blk_far (p := ⟨g, 2, none⟩) ?_ NG4.out.symm _ | refine blk_far (p := ⟨n5, 0, none⟩) ?_ N45.out _ | refine blk_far (p := ⟨n5, 1, none⟩) ?_ N45.out _)⟩, ⟨by repeat (first | (with_reducible exact B5.out) | (with_reducible refine blk_far (p := ⟨g, 2, none⟩) ?_ NG5.out.symm _) | ((with_reducible refine blk_put (cs := #[.int .u8 r1, .int .u16 0]) ?_ 1 _ ?eq); case eq => rfl) | ((with_reducible refine blk_put (cs := #[.int .u8 0, .int .u16 0]) ?_ 0 _ ?eq); case eq => rfl))⟩⟩)
    case rest =>
      clear HP HF B4 B5
      obtain ⟨rfl, HP, HF, B4, B5⟩ := hcut
      have q2 := HP.out.c2
      by_cases c5 : r4 = 0
      · rw [if_pos c5] at ha_
        subst c5
        subst ha_
        have q1 := HP.out.c1
        have f1 := HP.out.fz 1
        go_upto_region 8 with (fail)
        obtain ⟨w7, hw7⟩ : ∃ W_ : World, W_ = (wc.setCell ⟨g, 1, none⟩ (.int .i64 r3)) := ⟨_, rfl⟩
        rw [← hw7]
        have n0_ := Aside0.mk (show Pl w0 b Ab cb w7 g r3 0 by rw [hw7]; exact HP.out.set1 _)
        have n1_ := Aside0.mk (show But g w w7 by rw [hw7]; exact HF.out.set _ _)
        have n5_ := Aside0.mk (show w7.heap[n5]? = some (.cells #[.int .u8 r1, .int .u16 r2] 44 (0, 0)) by rw [hw7]; exact blk_far (p := ⟨g, 1, none⟩) B5.out NG5.out.symm _)
        have n4_ := Aside0.mk (show w7.heap[n4]? = some (.cells #[.int .u8 0, .int .u16 0] 44 (0, 0)) by rw [hw7]; exact blk_far (p := ⟨g, 1, none⟩) B4.out NG4.out.symm _)
        clear HP HF hw7 q2 q1 f1 B4 B5
        have HP := n0_
        have HF := n1_
        clear n0_ n1_
        have B4 := n4_
        have B5 := n5_
        clear n4_ n5_
        have q50 : w7.cell? ⟨n5, 0, none⟩ = some (.int .u8 r1) := (blk_cell B5.out 0).trans rfl
        have q51 : w7.cell? ⟨n5, 1, none⟩ = some (.int .u16 r2) := (blk_cell B5.out 1).trans rfl
        have q40 : w7.cell? ⟨n4, 0, none⟩ = some (.int .u8 0) := (blk_cell B4.out 0).trans rfl
        have q41 : w7.cell? ⟨n4, 1, none⟩ = some (.int .u16 0) := (blk_cell B4.out 1).trans rfl
        have f40 := blk_frozen B4.out 0
        have f41 := blk_frozen B4.out 1
        go_wp2
        (try simp only [Exit.inBlock, Exit.then])
        refine bodyPost_ret (results_single rfl (.cell n4 44 #[.int .u8 r1, .int .u16 r2] (0, 0) _ rfl ((blk_put (cs' := #[.int .u8 r1, .int .u16 r2]) (blk_put (cs' := #[.int .u8 r1, .int .u16 0]) B4.out 0 _ rfl) 1 _ rfl)) Try.underlying44 rfl (by kernel_rfl) .nil)) rfl ?_
        exact ⟨rfl, by repeat (with_reducible first | exact HP.out | refine Pl.set2 (e := 0) ?_ _ | refine Pl.set1 (at_ := at_) ?_ _ | refine Pl.setNew ?_ NG4.out Z4.out _ _ | refine Pl.setNew ?_ NG5.out Z5.out _ _ | refine Pl.drew ?_), by repeat (with_reducible first | exact HF.out | refine But.set ?_ _ _ | refine But.setNew ?_ G4.out _ _ | refine But.setNew ?_ G5.out _ _ | refine But.drew ?_)⟩
      · rw [if_neg c5] at ha_
        subst ha_
        have c5a : (r4 == 0) = false := beq_eq_false_iff_ne.mpr c5
        have c5b : (r4 != 0) = true := bne_iff_ne.mpr c5
        clear c5
        have q50 : wc.cell? ⟨n5, 0, none⟩ = some (.int .u8 r1) := (blk_cell B5.out 0).trans rfl
        have q51 : wc.cell? ⟨n5, 1, none⟩ = some (.int .u16 r2) := (blk_cell B5.out 1).trans rfl
        have q40 : wc.cell? ⟨n4, 0, none⟩ = some (.int .u8 0) := (blk_cell B4.out 0).trans rfl
        have q41 : wc.cell? ⟨n4, 1, none⟩ = some (.int .u16 0) := (blk_cell B4.out 1).trans rfl
        have f40 := blk_frozen B4.out 0
        have f41 := blk_frozen B4.out 1
        go_wp2
        (try simp only [Exit.inBlock, Exit.then])
        refine bodyPost_ret (results_single rfl (.cell n4 44 #[.int .u8 r1, .int .u16 r2] (0, 0) _ rfl ((blk_put (cs' := #[.int .u8 r1, .int .u16 r2]) (blk_put (cs' := #[.int .u8 r1, .int .u16 0]) B4.out 0 _ rfl) 1 _ rfl)) Try.underlying44 rfl (by kernel_rfl) .nil)) rfl ?_
        exact ⟨rfl, by repeat (with_reducible first | exact HP.out | refine Pl.set2 (e := 0) ?_ _ | refine Pl.set1 (at_ := at_) ?_ _ | refine Pl.setNew ?_ NG4.out Z4.out _ _ | refine Pl.setNew ?_ NG5.out Z5.out _ _ | refine Pl.drew ?_), by repeat (with_reducible first | exact HF.out | refine But.set ?_ _ _ | refine But.setNew ?_ G4.out _ _ | refine But.setNew ?_ G5.out _ _ | refine But.drew ?_)⟩
  · rw [if_neg c] at hn
    simp only [Option.some.injEq, Prod.mk.injEq] at hn
    obtain ⟨rfl, rfl, rfl⟩ := hn
    have c1 : (e != 0) = true := bne_iff_ne.mpr c
    have c2 : (e == 0) = false := beq_eq_false_iff_ne.mpr c
    clear c
    have q2 := HP.out.c2
    go_enter Try.func70, Try.ntmps70
    go_wp2_with (first | ((with_reducible refine gate_dst (N := 4) rfl ?_); refine zbox (N := 4) (cs := #[.int .u8 0, .int .u16 0]) (t := 44) ?_; intro n4 hg w4 hbox hb; have G4 := Aside0.mk (show w.heap.size ≤ n4 by rw [hg]; exact HF.out.size); have NG4 := Aside0.mk (show g ≠ n4 by rw [hg]; exact Nat.ne_of_lt HP.out.lt); have Z4 := Aside0.mk (show w0.heap.size ≤ n4 by rw [hg]; exact HP.out.fr.size); have n0_ := Aside0.mk (HP.out.below hb); have n1_ := Aside0.mk (HF.out.below hb); have B4 := Aside0.mk hbox; clear HP HF hb hg hbox q2; have HP := n0_; have HF := n1_; clear n0_ n1_; have q2 := HP.out.c2) | ((with_reducible refine gate_dst (N := 5) rfl ?_); refine zbox (N := 5) (cs := #[.int .u8 0, .int .u16 0]) (t := 44) ?_; intro n5 hg w5 hbox hb; have B4_ := B4; have nb := Aside0.mk (blk_below B4.out hb); clear B4; have B4 := nb; clear nb; have N45 := Aside0.mk (show n4 ≠ n5 by rw [hg]; exact Nat.ne_of_lt (blk_lt B4_.out)); clear B4_; have G5 := Aside0.mk (show w.heap.size ≤ n5 by rw [hg]; exact HF.out.size); have NG5 := Aside0.mk (show g ≠ n5 by rw [hg]; exact Nat.ne_of_lt HP.out.lt); have Z5 := Aside0.mk (show w0.heap.size ≤ n5 by rw [hg]; exact HP.out.fr.size); have n0_ := Aside0.mk (HP.out.below hb); have n1_ := Aside0.mk (HF.out.below hb); have B5 := Aside0.mk hbox; clear HP HF hb hg hbox q2; have HP := n0_; have HF := n1_; clear n0_ n1_; have q2 := HP.out.c2; have q50 : w5.cell? ⟨n5, 0, none⟩ = some (.int .u8 0) := (blk_cell B5.out 0).trans rfl; have q40 : w5.cell? ⟨n4, 0, none⟩ = some (.int .u8 0) := (blk_cell B4.out 0).trans rfl; have f40 := blk_frozen B4.out 0; have q51 : w5.cell? ⟨n5, 1, none⟩ = some (.int .u16 0) := (blk_cell B5.out 1).trans rfl; have q41 : w5.cell? ⟨n4, 1, none⟩ = some (.int .u16 0) := (blk_cell B4.out 1).trans rfl; have f41 := blk_frozen B4.out 1))
    (try simp only [Exit.inBlock, Exit.then])
    refine bodyPost_ret (results_single rfl (.cell n4 44 #[.int .u8 0, .int .u16 0] (0, 0) _ rfl ((blk_put (cs' := #[.int .u8 0, .int .u16 0]) (blk_put (cs' := #[.int .u8 0, .int .u16 0]) B4.out 0 _ rfl) 1 _ rfl)) Try.underlying44 rfl (by kernel_rfl) .nil)) rfl ?_
    exact ⟨rfl, by repeat (with_reducible first | exact HP.out | refine Pl.set2 (e := 0) ?_ _ | refine Pl.set1 (at_ := at_) ?_ _ | refine Pl.setNew ?_ NG4.out Z4.out _ _ | refine Pl.setNew ?_ NG5.out Z5.out _ _ | refine Pl.drew ?_), by repeat (with_reducible first | exact HF.out | refine But.set ?_ _ _ | refine But.setNew ?_ G4.out _ _ | refine But.setNew ?_ G5.out _ _ | refine But.drew ?_)⟩
def by66 (b : List Int) (at_ e : Int) : Option (S66 × Int × Int) := if e = 0 then (types_GetSig.f 60 b at_).bind fun t => some (⟨t.1, ⟨t.2.1, t.2.2.1⟩⟩, (if t.2.2.2.2 = 0 then t.2.2.2.1 else at_), t.2.2.2.2) else some ((⟨[], ⟨0, 0⟩⟩ : S66), at_, e)
set_option maxHeartbeats 8000000 in
set_option maxRecDepth 100000 in
theorem by66_ok (w0 : World) (b : List Int) (Ab : Option Addr) (cb g : Nat) (at_ e : Int) (x : S66) (at' e' : Int) (w : World) (h : Pl w0 b Ab cb w g at_ e) (hn : by66 b at_ e = some (x, at', e')) :
    Calls Try.prog 65 #[.pointer (some ⟨g, 0, none⟩), (.func (.func 66) #[] #[])] w fun y w' => ∃ v : Value, y = .returned (.agg #[v, .int .u8 x.f1.f0, .int .u16 x.f1.f1]) ∧ Kd.R k44 44 w' w.heap.size (fun _ => True) v x.f0 ∧ Pl w0 b Ab cb w' g at' e' ∧ But g w w' := by
  have HP := Aside0.mk h
  have HF := Aside0.mk (But.refl g w)
  have LG := Aside0.mk h.lt
  have BG := Aside0.mk h.base
  have WB := Aside0.mk h.fr.size
  clear h
  unfold by66 at hn
  have hu := Try.underlying66
  by_cases c : e = 0
  · rw [if_pos c] at hn
    subst c
    obtain ⟨⟨r1, r2, r3, r4, r5⟩, hg, hn⟩ := Option.bind_eq_some_iff.mp hn
    replace hn : some ((⟨r1, ⟨r2, r3⟩⟩ : S66), (if r5 = 0 then r4 else at_), r5) = some (x, at', e') := hn
    simp only [Option.some.injEq, Prod.mk.injEq] at hn
    obtain ⟨rfl, ha_, rfl⟩ := hn
    have HG := Aside0.mk hg
    clear hg
    have q2 := HP.out.c2
    go_enter Try.func65, Try.ntmps65
    go_upto_region 5 with (first | ((with_reducible refine gate_dst (N := 4) rfl ?_); refine zbox (N := 4) (cs := #[.slice none 0 0, .int .u8 0, .int .u16 0]) (t := 66) ?_; intro n4 hg w4 hbox hb; have G4 := Aside0.mk (show w.heap.size ≤ n4 by rw [hg]; exact HF.out.size); have NG4 := Aside0.mk (show g ≠ n4 by rw [hg]; exact Nat.ne_of_lt HP.out.lt); have Z4 := Aside0.mk (show w0.heap.size ≤ n4 by rw [hg]; exact HP.out.fr.size); have n0_ := Aside0.mk (HP.out.below hb); have n1_ := Aside0.mk (HF.out.below hb); have B4 := Aside0.mk hbox; clear HP HF hb hg hbox q2; have HP := n0_; have HF := n1_; clear n0_ n1_; have q2 := HP.out.c2) | ((with_reducible refine gate_dst (N := 5) rfl ?_); refine zbox (N := 5) (cs := #[.slice none 0 0, .int .u8 0, .int .u16 0]) (t := 66) ?_; intro n5 hg w5 hbox hb; have B4_ := B4; have nb := Aside0.mk (blk_below B4.out hb); clear B4; have B4 := nb; clear nb; have N45 := Aside0.mk (show n4 ≠ n5 by rw [hg]; exact Nat.ne_of_lt (blk_lt B4_.out)); clear B4_; have G5 := Aside0.mk (show w.heap.size ≤ n5 by rw [hg]; exact HF.out.size); have NG5 := Aside0.mk (show g ≠ n5 by rw [hg]; exact Nat.ne_of_lt HP.out.lt); have Z5 := Aside0.mk (show w0.heap.size ≤ n5 by rw [hg]; exact HP.out.fr.size); have n0_ := Aside0.mk (HP.out.below hb); have n1_ := Aside0.mk (HF.out.below hb); have B5 := Aside0.mk hbox; clear HP HF hb hg hbox q2; have HP := n0_; have HF := n1_; clear n0_ n1_; have q2 := HP.out.c2))
    clear q2
    obtain ⟨B, hB⟩ : ∃ B_ : Nat, B_ = (World.drew w5).heap.size := ⟨_, rfl⟩
    have LB := Aside0.mk (show g < B by rw [hB]; exact HP.out.lt)
    have LW := Aside0.mk (show w.heap.size ≤ B by rw [hB]; exact HF.out.size)
    have L4 := Aside0.mk (show n4 < B by rw [hB]; exact blk_lt B4.out)
    have L5 := Aside0.mk (show n5 < B by rw [hB]; exact blk_lt B5.out)
    go_cut [6] from 7 (fun v6 wc => ∃ (Ao : Option Addr) (co : Nat), v6 = .int .i64 r4 ∧ Aside0 (Pl w0 b Ab cb wc g at_ r5) ∧ Aside0 (But g w wc) ∧ Aside0 (wc.heap[n4]? = some (.cells #[.slice none 0 0, .int .u8 0, .int .u16 0] 66 (0, 0))) ∧ Aside0 (wc.heap[n5]? = some (.cells #[.slice Ao r1.length co, .int .u8 r2, .int .u16 r3] 66 (0, 0))) ∧ Aside0 (Kd.R k44 44 wc B (fun _ => True) (.slice Ao r1.length co) r1))
    case first =>
      have q0 := HP.out.c0
      have q1 := HP.out.c1
      go_region_with (first | (go_at_call 66; (with_reducible refine (types_GetSig.calls 60 Ab cb b at_ r1 r2 r3 r4 r5 _ ?s1 ?s2 HG.out).mono ?_); (case s1 => exact HP.out.drew.now); (case s2 => exact HP.out.cap); rintro e w1 ⟨v, rfl, ho, hb⟩; have HO := Aside0.mk (show Kd.R k44 44 w1 B (fun _ => True) v r1 by rw [hB]; exact ho); obtain ⟨Ao, co, eo⟩ := Kd.R_slice HO.out; subst eo; clear ho; have nb4 := Aside0.mk (blk_below (blk_drew B4.out) hb); have nb5 := Aside0.mk (blk_below (blk_drew B5.out) hb); have n0_ := Aside0.mk (HP.out.drew.below hb); have n1_ := Aside0.mk (HF.out.drew.below hb); clear HP HF hb q0 q1; have HP := n0_; have HF := n1_; clear n0_ n1_; clear B4; have B4 := nb4; clear nb4; clear B5; have B5 := nb5; clear nb5; have q2 := HP.out.c2; have f2 := HP.out.fz 2; have f50 := blk_frozen B5.out 0; have q50 : w1.cell? ⟨n5, 0, none⟩ = some (.slice none 0 0) := (blk_cell B5.out 0).trans rfl; have f51 := blk_frozen B5.out 1; have q51 : w1.cell? ⟨n5, 1, none⟩ = some (.int .u8 0) := (blk_cell B5.out 1).trans rfl; have f52 := blk_frozen B5.out 2; have q52 : w1.cell? ⟨n5, 2, none⟩ = some (.int .u16 0) := (blk_cell B5.out 2).trans rfl; have ne1 := NG5.out; have ne2 := NG5.out.symm))
      all_goals ((try go_wp2); go_meet; case rel => exact ⟨Ao, co, rfl, ⟨by repeat (with_reducible first | exact HP.out | refine Pl.set2 (e := 0) ?_ _ | refine Pl.set1 (at_ := at_) ?_ _ | refine Pl.setNew ?_ NG4.out Z4.out _ _ | refine Pl.setNew ?_ NG5.out Z5.out _ _ | refine Pl.drew ?_)⟩, ⟨by repeat (with_reducible first | exact HF.out | refine But.set ?_ _ _ | refine But.setNew ?_ G4.out _ _ | refine But.setNew ?_ G5.out _ _ | refine But.drew ?_)⟩, ⟨by repeat (with_reducible first | exact B4.out | refine blk_far (p := ⟨g, 2, none⟩) ?_ NG4.out.symm _ | refine blk_far (p := ⟨n5, 0, none⟩) ?_ N45.out _ | refine blk_far (p := ⟨n5, 1, none⟩) ?_ N45.out _ | refine blk_far (p := ⟨n5, 2, none⟩) ?_ N45.out _)⟩, ⟨by repeat (first | (with_reducible exact B5.out) | (with_reducible refine blk_far (p := ⟨g, 2, none⟩) ?_ NG5.out.symm _) | ((with_reducible refine blk_put (cs := #[.slice Ao r1.length co, .int .u8 r2, .int .u16 0]) ?_ 2 _ ?eq); case eq => rfl) | ((with_reducible refine blk_put (cs := #[.slice Ao r1.length co, .int .u8 0, .int .u16 0]) ?_ 1 _ ?eq); case eq => rfl) | ((with_reducible refine blk_put (cs := #[.slice none 0 0, .int .u8 0, .int .u16 0]) ?_ 0 _ ?eq); case eq => rfl))⟩, ⟨by repeat (with_reducible first | exact HO.out | refine R_setold ?_ L4.out _ _ | refine R_setold ?_ L5.out _ _ | refine R_setold ?_ LB.out _ _)⟩⟩)
    case rest =>
      clear HP HF B4 B5
      obtain ⟨Ao, co, rfl, HP, HF, B4, B5, HO⟩ := hcut
      have q2 := HP.out.c2
      by_cases c5 : r5 = 0
      · rw [if_pos c5] at ha_
        subst c5
        subst ha_
        have q1 := HP.out.c1
        have f1 := HP.out.fz 1
        go_upto_region 8 with (fail)
        obtain ⟨w7, hw7⟩ : ∃ W_ : World, W_ = (wc.setCell ⟨g, 1, none⟩ (.int .i64 r4)) := ⟨_, rfl⟩
        rw [← hw7]
        have n0_ := Aside0.mk (show Pl w0 b Ab cb w7 g r4 0 by rw [hw7]; exact HP.out.set1 _)
        have n1_ := Aside0.mk (show But g w w7 by rw [hw7]; exact HF.out.set _ _)
        have n5_ := Aside0.mk (show w7.heap[n5]? = some (.cells #[.slice Ao r1.length co, .int .u8 r2, .int .u16 r3] 66 (0, 0)) by rw [hw7]; exact blk_far (p := ⟨g, 1, none⟩) B5.out NG5.out.symm _)
        have n4_ := Aside0.mk (show w7.heap[n4]? = some (.cells #[.slice none 0 0, .int .u8 0, .int .u16 0] 66 (0, 0)) by rw [hw7]; exact blk_far (p := ⟨g, 1, none⟩) B4.out NG4.out.symm _)
        have n3_ := Aside0.mk (show Kd.R k44 44 w7 B (fun _ => True) (.slice Ao r1.length co) r1 by rw [hw7]; exact R_setold HO.out LB.out _ _)
        clear HP HF hw7 q2 q1 f1 B4 B5 HO
        have HP := n0_
        have HF := n1_
        clear n0_ n1_
        have B4 := n4_
        have B5 := n5_
        clear n4_ n5_
        have HO := n3_
        clear n3_
        have q50 : w7.cell? ⟨n5, 0, none⟩ = some (.slice Ao r1.length co) := (blk_cell B5.out 0).trans rfl
        have q51 : w7.cell? ⟨n5, 1, none⟩ = some (.int .u8 r2) := (blk_cell B5.out 1).trans rfl
        have q52 : w7.cell? ⟨n5, 2, none⟩ = some (.int .u16 r3) := (blk_cell B5.out 2).trans rfl
        have q40 : w7.cell? ⟨n4, 0, none⟩ = some (.slice none 0 0) := (blk_cell B4.out 0).trans rfl
        have q41 : w7.cell? ⟨n4, 1, none⟩ = some (.int .u8 0) := (blk_cell B4.out 1).trans rfl
        have q42 : w7.cell? ⟨n4, 2, none⟩ = some (.int .u16 0) := (blk_cell B4.out 2).trans rfl
        have f40 := blk_frozen B4.out 0
        have f41 := blk_frozen B4.out 1
        have f42 := blk_frozen B4.out 2
        go_wp2
        (try simp only [Exit.inBlock, Exit.then])
        refine bodyPost_ret (results_single rfl (.cell n4 66 #[.slice Ao r1.length co, .int .u8 r2, .int .u16 r3] (0, 0) _ rfl ((blk_put (cs' := #[.slice Ao r1.length co, .int .u8 r2, .int .u16 r3]) (blk_put (cs' := #[.slice Ao r1.length co, .int .u8 r2, .int .u16 0]) (blk_put (cs' := #[.slice Ao r1.length co, .int .u8 0, .int .u16 0]) B4.out 0 _ rfl) 1 _ rfl) 2 _ rfl)) Try.underlying66 rfl (by kernel_rfl) .nil)) rfl ?_
        exact ⟨_, rfl, Kd.R_lower (by repeat (with_reducible first | exact HO.out | refine R_setold ?_ L4.out _ _ | refine R_setold ?_ L5.out _ _ | refine R_setold ?_ LB.out _ _)) LW.out, by repeat (with_reducible first | exact HP.out | refine Pl.set2 (e := 0) ?_ _ | refine Pl.set1 (at_ := at_) ?_ _ | refine Pl.setNew ?_ NG4.out Z4.out _ _ | refine Pl.setNew ?_ NG5.out Z5.out _ _ | refine Pl.drew ?_), by repeat (with_reducible first | exact HF.out | refine But.set ?_ _ _ | refine But.setNew ?_ G4.out _ _ | refine But.setNew ?_ G5.out _ _ | refine But.drew ?_)⟩
      · rw [if_neg c5] at ha_
        subst ha_
        have c5a : (r5 == 0) = false := beq_eq_false_iff_ne.mpr c5
        have c5b : (r5 != 0) = true := bne_iff_ne.mpr c5
        clear c5
        have q50 : wc.cell? ⟨n5, 0, none⟩ = some (.slice Ao r1.length co) := (blk_cell B5.out 0).trans rfl
        have q51 : wc.cell? ⟨n5, 1, none⟩ = some (.int .u8 r2) := (blk_cell B5.out 1).trans rfl
        have q52 : wc.cell? ⟨n5, 2, none⟩ = some (.int .u16 r3) := (blk_cell B5.out 2).trans rfl
        have q40 : wc.cell? ⟨n4, 0, none⟩ = some (.slice none 0 0) := (blk_cell B4.out 0).trans rfl
        have q41 : wc.cell? ⟨n4, 1, none⟩ = some (.int .u8 0) := (blk_cell B4.out 1).trans rfl
        have q42 : wc.cell? ⟨n4, 2, none⟩ = some (.int .u16 0) := (blk_cell B4.out 2).trans rfl
        have f40 := blk_frozen B4.out 0
        have f41 := blk_frozen B4.out 1
        have f42 := blk_frozen B4.out 2
        go_wp2
        (try simp only [Exit.inBlock, Exit.then])
        refine bodyPost_ret (results_single rfl (.cell n4 66 #[.slice Ao r1.length co, .int .u8 r2, .int .u16 r3] (0, 0) _ rfl ((blk_put (cs' := #[.slice Ao r1.length co, .int .u8 r2, .int .u16 r3]) (blk_put (cs' := #[.slice Ao r1.length co, .int .u8 r2, .int .u16 0]) (blk_put (cs' := #[.slice Ao r1.length co, .int .u8 0, .int .u16 0]) B4.out 0 _ rfl) 1 _ rfl) 2 _ rfl)) Try.underlying66 rfl (by kernel_rfl) .nil)) rfl ?_
        exact ⟨_, rfl, Kd.R_lower (by repeat (with_reducible first | exact HO.out | refine R_setold ?_ L4.out _ _ | refine R_setold ?_ L5.out _ _ | refine R_setold ?_ LB.out _ _)) LW.out, by repeat (with_reducible first | exact HP.out | refine Pl.set2 (e := 0) ?_ _ | refine Pl.set1 (at_ := at_) ?_ _ | refine Pl.setNew ?_ NG4.out Z4.out _ _ | refine Pl.setNew ?_ NG5.out Z5.out _ _ | refine Pl.drew ?_), by repeat (with_reducible first | exact HF.out | refine But.set ?_ _ _ | refine But.setNew ?_ G4.out _ _ | refine But.setNew ?_ G5.out _ _ | refine But.drew ?_)⟩
  · rw [if_neg c] at hn
    simp only [Option.some.injEq, Prod.mk.injEq] at hn
    obtain ⟨rfl, rfl, rfl⟩ := hn
    have c1 : (e != 0) = true := bne_iff_ne.mpr c
    have c2 : (e == 0) = false := beq_eq_false_iff_ne.mpr c
    clear c
    have q2 := HP.out.c2
    go_enter Try.func65, Try.ntmps65
    go_wp2_with (first | ((with_reducible refine gate_dst (N := 4) rfl ?_); refine zbox (N := 4) (cs := #[.slice none 0 0, .int .u8 0, .int .u16 0]) (t := 66) ?_; intro n4 hg w4 hbox hb; have G4 := Aside0.mk (show w.heap.size ≤ n4 by rw [hg]; exact HF.out.size); have NG4 := Aside0.mk (show g ≠ n4 by rw [hg]; exact Nat.ne_of_lt HP.out.lt); have Z4 := Aside0.mk (show w0.heap.size ≤ n4 by rw [hg]; exact HP.out.fr.size); have n0_ := Aside0.mk (HP.out.below hb); have n1_ := Aside0.mk (HF.out.below hb); have B4 := Aside0.mk hbox; clear HP HF hb hg hbox q2; have HP := n0_; have HF := n1_; clear n0_ n1_; have q2 := HP.out.c2) | ((with_reducible refine gate_dst (N := 5) rfl ?_); refine zbox (N := 5) (cs := #[.slice none 0 0, .int .u8 0, .int .u16 0]) (t := 66) ?_; intro n5 hg w5 hbox hb; have B4_ := B4; have nb := Aside0.mk (blk_below B4.out hb); clear B4; have B4 := nb; clear nb; have N45 := Aside0.mk (show n4 ≠ n5 by rw [hg]; exact Nat.ne_of_lt (blk_lt B4_.out)); clear B4_; have G5 := Aside0.mk (show w.heap.size ≤ n5 by rw [hg]; exact HF.out.size); have NG5 := Aside0.mk (show g ≠ n5 by rw [hg]; exact Nat.ne_of_lt HP.out.lt); have Z5 := Aside0.mk (show w0.heap.size ≤ n5 by rw [hg]; exact HP.out.fr.size); have n0_ := Aside0.mk (HP.out.below hb); have n1_ := Aside0.mk (HF.out.below hb); have B5 := Aside0.mk hbox; clear HP HF hb hg hbox q2; have HP := n0_; have HF := n1_; clear n0_ n1_; have q2 := HP.out.c2; have q50 : w5.cell? ⟨n5, 0, none⟩ = some (.slice none 0 0) := (blk_cell B5.out 0).trans rfl; have q40 : w5.cell? ⟨n4, 0, none⟩ = some (.slice none 0 0) := (blk_cell B4.out 0).trans rfl; have f40 := blk_frozen B4.out 0; have q51 : w5.cell? ⟨n5, 1, none⟩ = some (.int .u8 0) := (blk_cell B5.out 1).trans rfl; have q41 : w5.cell? ⟨n4, 1, none⟩ = some (.int .u8 0) := (blk_cell B4.out 1).trans rfl; have f41 := blk_frozen B4.out 1; have q52 : w5.cell? ⟨n5, 2, none⟩ = some (.int .u16 0) := (blk_cell B5.out 2).trans rfl; have q42 : w5.cell? ⟨n4, 2, none⟩ = some (.int .u16 0) := (blk_cell B4.out 2).trans rfl; have f42 := blk_frozen B4.out 2))
    (try simp only [Exit.inBlock, Exit.then])
    refine bodyPost_ret (results_single rfl (.cell n4 66 #[.slice none 0 0, .int .u8 0, .int .u16 0] (0, 0) _ rfl ((blk_put (cs' := #[.slice none 0 0, .int .u8 0, .int .u16 0]) (blk_put (cs' := #[.slice none 0 0, .int .u8 0, .int .u16 0]) (blk_put (cs' := #[.slice none 0 0, .int .u8 0, .int .u16 0]) B4.out 0 _ rfl) 1 _ rfl) 2 _ rfl)) Try.underlying66 rfl (by kernel_rfl) .nil)) rfl ?_
    exact ⟨_, rfl, Kd.R_nil _ _ _ _ _, by repeat (with_reducible first | exact HP.out | refine Pl.set2 (e := 0) ?_ _ | refine Pl.set1 (at_ := at_) ?_ _ | refine Pl.setNew ?_ NG4.out Z4.out _ _ | refine Pl.setNew ?_ NG5.out Z5.out _ _ | refine Pl.drew ?_), by repeat (with_reducible first | exact HF.out | refine But.set ?_ _ _ | refine But.setNew ?_ G4.out _ _ | refine But.setNew ?_ G5.out _ _ | refine But.drew ?_)⟩
set_option maxHeartbeats 8000000 in
set_option maxRecDepth 100000 in
theorem typ_ok (w0 : World) (b : List Int) (Ab : Option Addr) (cb g : Nat) (at_ e : Int) (x : S44) (at' e' : Int) (w : World) (h : Pl w0 b Ab cb w g at_ e) (hn : by44 b at_ e = some (x, at', e')) :
    Calls Try.prog 50 #[.agg #[.pointer (some ⟨g, 0, none⟩)]] w fun y w' => y = .returned (.agg #[.int .u8 x.f0, .int .u16 x.f1]) ∧ Pl w0 b Ab cb w' g at' e' ∧ But g w w' := by
  have HP := Aside0.mk h
  have HF := Aside0.mk (But.refl g w)
  have HG := Aside0.mk hn
  clear h hn
  have hu57 := Try.underlying57
  have hu44 := Try.underlying44
  go_enter Try.func50, Try.ntmps50
  go_wp2_with (first | ((with_reducible refine gate_dst (N := 1) rfl ?_); refine zbox (N := 1) (cs := #[.pointer (some ⟨g, 0, none⟩)]) (t := 57) ?_; intro n1 hg w1 hbox hb; have G1 := Aside0.mk (show w.heap.size ≤ n1 by rw [hg]; exact HF.out.size); have NG1 := Aside0.mk (show g ≠ n1 by rw [hg]; exact Nat.ne_of_lt HP.out.lt); have Z1 := Aside0.mk (show w0.heap.size ≤ n1 by rw [hg]; exact HP.out.fr.size); have n0_ := Aside0.mk (HP.out.below hb); have n1_ := Aside0.mk (HF.out.below hb); have B1 := Aside0.mk hbox; clear HP HF hb hg hbox; have HP := n0_; have HF := n1_; clear n0_ n1_; have p1 : w1.cell? ⟨n1, 0, none⟩ = some (.pointer (some ⟨g, 0, none⟩)) := (blk_cell B1.out 0).trans rfl) | ((with_reducible refine gate_dst (N := 2) rfl ?_); refine zbox (N := 2) (cs := #[.int .u8 0, .int .u16 0]) (t := 44) ?_; intro n2 hg w2 hbox hb; have o1_ := Aside0.mk (show n1 ≠ n2 by rw [hg]; exact Nat.ne_of_lt (blk_lt B1.out)); have nb1 := Aside0.mk (blk_below B1.out hb); clear B1; have B1 := nb1; clear nb1; have N12 := o1_; clear o1_; have G2 := Aside0.mk (show w.heap.size ≤ n2 by rw [hg]; exact HF.out.size); have NG2 := Aside0.mk (show g ≠ n2 by rw [hg]; exact Nat.ne_of_lt HP.out.lt); have Z2 := Aside0.mk (show w0.heap.size ≤ n2 by rw [hg]; exact HP.out.fr.size); have n0_ := Aside0.mk (HP.out.below hb); have n1_ := Aside0.mk (HF.out.below hb); have B2 := Aside0.mk hbox; clear HP HF hb hg hbox; have HP := n0_; have HF := n1_; clear n0_ n1_; clear p1; have p1 : w2.cell? ⟨n1, 0, none⟩ = some (.pointer (some ⟨g, 0, none⟩)) := (blk_cell B1.out 0).trans rfl; have q20 : w2.cell? ⟨n2, 0, none⟩ = some (.int .u8 0) := (blk_cell B2.out 0).trans rfl; have q21 : w2.cell? ⟨n2, 1, none⟩ = some (.int .u16 0) := (blk_cell B2.out 1).trans rfl; have f20 := blk_frozen B2.out 0; have f21 := blk_frozen B2.out 1) | (go_at_call 70; (with_reducible refine (by44_ok w0 b Ab cb g at_ e x at' e' _ ?s1 HG.out).mono ?_); (case s1 => exact HP.out); rintro y w3 ⟨rfl, hp, hf⟩; have n2_ := Aside0.mk (blk_but B2.out NG2.out.symm hf); have n0_ := Aside0.mk hp; have n1_ := Aside0.mk (HF.out.trans hf); clear HP HF hp hf B2 p1 q20 f20 q21 f21; have HP := n0_; have HF := n1_; have B2 := n2_; clear n0_ n1_ n2_; have q20 : w3.cell? ⟨n2, 0, none⟩ = some (.int .u8 0) := (blk_cell B2.out 0).trans rfl; have q21 : w3.cell? ⟨n2, 1, none⟩ = some (.int .u16 0) := (blk_cell B2.out 1).trans rfl; have f20 := blk_frozen B2.out 0; have f21 := blk_frozen B2.out 1))
  (try simp only [Exit.inBlock, Exit.then])
  refine bodyPost_ret (results_single rfl (.cell n2 44 #[.int .u8 x.f0, .int .u16 x.f1] (0, 0) _ rfl ((blk_put (cs' := #[.int .u8 x.f0, .int .u16 x.f1]) (blk_put (cs' := #[.int .u8 x.f0, .int .u16 0]) B2.out 0 _ rfl) 1 _ rfl)) Try.underlying44 rfl (by kernel_rfl) .nil)) rfl ?_
  exact ⟨rfl, by repeat (with_reducible first | exact HP.out | refine Pl.setNew ?_ NG1.out Z1.out _ _ | refine Pl.setNew ?_ NG2.out Z2.out _ _ | refine Pl.setNew ?_ NG3.out Z3.out _ _ | refine Pl.drew ?_), by repeat (with_reducible first | exact HF.out | refine But.set ?_ _ _ | refine But.setNew ?_ G1.out _ _ | refine But.setNew ?_ G2.out _ _ | refine But.setNew ?_ G3.out _ _ | refine But.drew ?_)⟩
def ifaceG (b : List Int) (at_ e : Int) : Option (S41 × Int × Int) := (wordG b at_ e).bind fun r => (by24 b r.2.1 r.2.2).bind fun m => some ((⟨r.1, m.1⟩ : S41), m.2.1, m.2.2)
set_option maxHeartbeats 8000000 in
set_option maxRecDepth 100000 in
theorem iface_ok (w0 : World) (b : List Int) (Ab : Option Addr) (cb g : Nat) (at_ e : Int) (x : S41) (at' e' : Int) (w : World) (h : Pl w0 b Ab cb w g at_ e) (hn : ifaceG b at_ e = some (x, at', e')) :
    Calls Try.prog 48 #[.agg #[.pointer (some ⟨g, 0, none⟩)]] w fun y w' => ∃ v : Value, y = .returned (.agg #[.int .u16 x.f0, v]) ∧ Kr.R (Kd.int .u8) 5 w' w.heap.size (fun _ => True) v x.f1 ∧ Pl w0 b Ab cb w' g at' e' ∧ But g w w' := by
  have HP := Aside0.mk h
  have HF := Aside0.mk (But.refl g w)
  have HG := Aside0.mk hn
  clear h hn
  have hu57 := Try.underlying57
  have hu41 := Try.underlying41
  have hn := HG.out
  unfold ifaceG at hn
  obtain ⟨⟨r, at1, e1⟩, h1, hn⟩ := Option.bind_eq_some_iff.mp hn
  obtain ⟨⟨m, at2, e2⟩, h2, hn⟩ := Option.bind_eq_some_iff.mp hn
  simp only [Option.some.injEq, Prod.mk.injEq] at hn
  obtain ⟨rfl, rfl, rfl⟩ := hn
  have H1 := Aside0.mk h1
  have H2 := Aside0.mk h2
  clear h1 h2 HG
  go_enter Try.func48, Try.ntmps48
  go_upto_region 2 with (first | ((with_reducible refine gate_dst (N := 1) rfl ?_); refine zbox (N := 1) (cs := #[.pointer (some ⟨g, 0, none⟩)]) (t := 57) ?_; intro n1 hg w1 hbox hb; have G1 := Aside0.mk (show w.heap.size ≤ n1 by rw [hg]; exact HF.out.size); have NG1 := Aside0.mk (show g ≠ n1 by rw [hg]; exact Nat.ne_of_lt HP.out.lt); have Z1 := Aside0.mk (show w0.heap.size ≤ n1 by rw [hg]; exact HP.out.fr.size); have n0_ := Aside0.mk (HP.out.below hb); have n1_ := Aside0.mk (HF.out.below hb); have B1 := Aside0.mk hbox; clear HP HF hb hg hbox; have HP := n0_; have HF := n1_; clear n0_ n1_; have p1 : w1.cell? ⟨n1, 0, none⟩ = some (.pointer (some ⟨g, 0, none⟩)) := (blk_cell B1.out 0).trans rfl) | ((with_reducible refine gate_dst (N := 2) rfl ?_); refine zbox (N := 2) (cs := #[.int .u16 0, .slice none 0 0]) (t := 41) ?_; intro n2 hg w2 hbox hb; have o1_ := Aside0.mk (show n1 ≠ n2 by rw [hg]; exact Nat.ne_of_lt (blk_lt B1.out)); have nb1 := Aside0.mk (blk_below B1.out hb); clear B1; have B1 := nb1; clear nb1; have N12 := o1_; clear o1_; have G2 := Aside0.mk (show w.heap.size ≤ n2 by rw [hg]; exact HF.out.size); have NG2 := Aside0.mk (show g ≠ n2 by rw [hg]; exact Nat.ne_of_lt HP.out.lt); have Z2 := Aside0.mk (show w0.heap.size ≤ n2 by rw [hg]; exact HP.out.fr.size); have n0_ := Aside0.mk (HP.out.below hb); have n1_ := Aside0.mk (HF.out.below hb); have B2 := Aside0.mk hbox; clear HP HF hb hg hbox; have HP := n0_; have HF := n1_; clear n0_ n1_; clear p1; have p1 : w2.cell? ⟨n1, 0, none⟩ = some (.pointer (some ⟨g, 0, none⟩)) := (blk_cell B1.out 0).trans rfl) | (go_at_call 46; (with_reducible refine (word_ok w0 b Ab cb g at_ e r at1 e1 _ ?s1 H1.out).mono ?_); (case s1 => exact HP.out); rintro y w3 ⟨rfl, hp, hf⟩; have n1b_ := Aside0.mk (blk_but B1.out NG1.out.symm hf); have n2_ := Aside0.mk (blk_but B2.out NG2.out.symm hf); have n0_ := Aside0.mk hp; have n1_ := Aside0.mk (HF.out.trans hf); clear HP HF hp hf B1 B2 p1; have HP := n0_; have HF := n1_; have B1 := n1b_; have B2 := n2_; clear n0_ n1_ n2_ n1b_; have p1 : w3.cell? ⟨n1, 0, none⟩ = some (.pointer (some ⟨g, 0, none⟩)) := (blk_cell B1.out 0).trans rfl) | ((with_reducible refine gate_dst (N := 3) rfl ?_); refine zbox (N := 3) (cs := #[.int .u16 0, .slice none 0 0]) (t := 41) ?_; intro n3 hg w4 hbox hb; have o1_ := Aside0.mk (show n1 ≠ n3 by rw [hg]; exact Nat.ne_of_lt (blk_lt B1.out)); have nb1 := Aside0.mk (blk_below B1.out hb); clear B1; have B1 := nb1; clear nb1; have N13 := o1_; clear o1_; have o2_ := Aside0.mk (show n2 ≠ n3 by rw [hg]; exact Nat.ne_of_lt (blk_lt B2.out)); have nb2 := Aside0.mk (blk_below B2.out hb); clear B2; have B2 := nb2; clear nb2; have N23 := o2_; clear o2_; have G3 := Aside0.mk (show w.heap.size ≤ n3 by rw [hg]; exact HF.out.size); have NG3 := Aside0.mk (show g ≠ n3 by rw [hg]; exact Nat.ne_of_lt HP.out.lt); have Z3 := Aside0.mk (show w0.heap.size ≤ n3 by rw [hg]; exact HP.out.fr.size); have n0_ := Aside0.mk (HP.out.below hb); have n1_ := Aside0.mk (HF.out.below hb); have B3 := Aside0.mk hbox; clear HP HF hb hg hbox; have HP := n0_; have HF := n1_; clear n0_ n1_; clear p1; have p1 : w4.cell? ⟨n1, 0, none⟩ = some (.pointer (some ⟨g, 0, none⟩)) := (blk_cell B1.out 0).trans rfl; have q30 : w4.cell? ⟨n3, 0, none⟩ = some (.int .u16 0) := (blk_cell B3.out 0).trans rfl; have f30 := blk_frozen B3.out 0; have q31 : w4.cell? ⟨n3, 1, none⟩ = some (.slice none 0 0) := (blk_cell B3.out 1).trans rfl; have f31 := blk_frozen B3.out 1))
  obtain ⟨w5, hw5⟩ : ∃ W_ : World, W_ = ((w4.setCell ⟨n3, 0, none⟩ (.int .u16 r)).setCell ⟨n3, 1, none⟩ (.slice none 0 0)) := ⟨_, rfl⟩
  rw [← hw5]
  have n0_ := Aside0.mk (show Pl w0 b Ab cb w5 g at1 e1 by rw [hw5]; repeat (with_reducible first | exact HP.out | refine Pl.setNew ?_ NG1.out Z1.out _ _ | refine Pl.setNew ?_ NG2.out Z2.out _ _ | refine Pl.setNew ?_ NG3.out Z3.out _ _ | refine Pl.drew ?_))
  have n1_ := Aside0.mk (show But g w w5 by rw [hw5]; repeat (with_reducible first | exact HF.out | refine But.set ?_ _ _ | refine But.setNew ?_ G1.out _ _ | refine But.setNew ?_ G2.out _ _ | refine But.setNew ?_ G3.out _ _ | refine But.drew ?_))
  have n2_ := Aside0.mk (show w5.heap[n1]? = some (.cells #[.pointer (some ⟨g, 0, none⟩)] 57 (0, 0)) by rw [hw5]; repeat (first | exact B1.out | refine blk_far (p := ⟨n3, _, none⟩) ?_ N13.out _))
  have n3_ := Aside0.mk (show w5.heap[n2]? = some (.cells #[.int .u16 0, .slice none 0 0] 41 (0, 0)) by rw [hw5]; repeat (first | exact B2.out | refine blk_far (p := ⟨n3, _, none⟩) ?_ N23.out _))
  have n4_ := Aside0.mk (show w5.heap[n3]? = some (.cells #[.int .u16 r, .slice none 0 0] 41 (0, 0)) by rw [hw5]; exact (blk_put (cs' := #[.int .u16 r, .slice none 0 0]) (blk_put (cs' := #[.int .u16 r, .slice none 0 0]) B3.out 0 _ rfl) 1 _ rfl))
  clear HP HF B1 B2 B3 hw5 p1 q30 f30 q31 f31
  have HP := n0_
  have HF := n1_
  have B1 := n2_
  have B2 := n3_
  have B3 := n4_
  clear n0_ n1_ n2_ n3_ n4_
  have p1 : w5.cell? ⟨n1, 0, none⟩ = some (.pointer (some ⟨g, 0, none⟩)) := (blk_cell B1.out 0).trans rfl
  obtain ⟨B, hB⟩ : ∃ B_ : Nat, B_ = w5.heap.size := ⟨_, rfl⟩
  have LB3 := Aside0.mk (show n3 < B by rw [hB]; exact blk_lt B3.out)
  have LB2 := Aside0.mk (show n2 < B by rw [hB]; exact blk_lt B2.out)
  have LW := Aside0.mk (show w.heap.size ≤ B by rw [hB]; exact HF.out.size)
  go_upto_region 3 with (first | (go_at_call 67; (with_reducible refine (by24_ok w0 b Ab cb g at1 e1 m at2 e2 _ ?s1 H2.out).mono ?_); (case s1 => exact HP.out); rintro y w6 ⟨v, rfl, ho, hp, hf⟩; rw [← hB] at ho; obtain ⟨Ao, co, eo⟩ := Kr.R_slice ho; subst eo; have HO := Aside0.mk ho; have n1b_ := Aside0.mk (blk_but B1.out NG1.out.symm hf); have n2_ := Aside0.mk (blk_but B2.out NG2.out.symm hf); have n3_ := Aside0.mk (blk_but B3.out NG3.out.symm hf); have n0_ := Aside0.mk hp; have n1_ := Aside0.mk (HF.out.trans hf); clear HP HF ho hp hf B1 B2 B3 p1; have HP := n0_; have HF := n1_; have B1 := n1b_; have B2 := n2_; have B3 := n3_; clear n0_ n1_ n2_ n3_ n1b_; have q30 : w6.cell? ⟨n3, 0, none⟩ = some (.int .u16 r) := (blk_cell B3.out 0).trans rfl; have f30 := blk_frozen B3.out 0; have q31 : w6.cell? ⟨n3, 1, none⟩ = some (.slice none 0 0) := (blk_cell B3.out 1).trans rfl; have f31 := blk_frozen B3.out 1))
  obtain ⟨w7, hw7⟩ : ∃ W_ : World, W_ = (w6.setCell ⟨n3, 1, none⟩ (.slice Ao m.length co)) := ⟨_, rfl⟩
  rw [← hw7]
  have n0_ := Aside0.mk (show Pl w0 b Ab cb w7 g at2 e2 by rw [hw7]; repeat (with_reducible first | exact HP.out | refine Pl.setNew ?_ NG1.out Z1.out _ _ | refine Pl.setNew ?_ NG2.out Z2.out _ _ | refine Pl.setNew ?_ NG3.out Z3.out _ _ | refine Pl.drew ?_))
  have n1_ := Aside0.mk (show But g w w7 by rw [hw7]; repeat (with_reducible first | exact HF.out | refine But.set ?_ _ _ | refine But.setNew ?_ G1.out _ _ | refine But.setNew ?_ G2.out _ _ | refine But.setNew ?_ G3.out _ _ | refine But.drew ?_))
  have n2_ := Aside0.mk (show w7.heap[n1]? = some (.cells #[.pointer (some ⟨g, 0, none⟩)] 57 (0, 0)) by rw [hw7]; repeat (first | exact B1.out | refine blk_far (p := ⟨n3, _, none⟩) ?_ N13.out _))
  have n3_ := Aside0.mk (show w7.heap[n2]? = some (.cells #[.int .u16 0, .slice none 0 0] 41 (0, 0)) by rw [hw7]; repeat (first | exact B2.out | refine blk_far (p := ⟨n3, _, none⟩) ?_ N23.out _))
  have n4_ := Aside0.mk (show w7.heap[n3]? = some (.cells #[.int .u16 r, .slice Ao m.length co] 41 (0, 0)) by rw [hw7]; exact blk_put (cs' := #[.int .u16 r, .slice Ao m.length co]) B3.out 1 _ rfl)
  have n5_ := Aside0.mk (show Kr.R (Kd.int .u8) 5 w7 B (fun _ => True) (.slice Ao m.length co) m by rw [hw7]; exact Kr_setold HO.out LB3.out _ _)
  clear HP HF B1 B2 B3 HO hw7 q30 f30 q31 f31
  have HP := n0_
  have HF := n1_
  have B2 := n3_
  have B3 := n4_
  have HO := n5_
  clear n0_ n1_ n2_ n3_ n4_ n5_
  have q30 : w7.cell? ⟨n3, 0, none⟩ = some (.int .u16 r) := (blk_cell B3.out 0).trans rfl
  have q31 : w7.cell? ⟨n3, 1, none⟩ = some (.slice Ao m.length co) := (blk_cell B3.out 1).trans rfl
  have q20 : w7.cell? ⟨n2, 0, none⟩ = some (.int .u16 0) := (blk_cell B2.out 0).trans rfl
  have f20 := blk_frozen B2.out 0
  have q21 : w7.cell? ⟨n2, 1, none⟩ = some (.slice none 0 0) := (blk_cell B2.out 1).trans rfl
  have f21 := blk_frozen B2.out 1
  go_wp2
  (try simp only [Exit.inBlock, Exit.then])
  refine bodyPost_ret (results_single rfl (.cell n2 41 #[.int .u16 r, .slice Ao m.length co] (0, 0) _ rfl ((blk_put (cs' := #[.int .u16 r, .slice Ao m.length co]) (blk_put (cs' := #[.int .u16 r, .slice none 0 0]) B2.out 0 _ rfl) 1 _ rfl)) Try.underlying41 rfl (by kernel_rfl) .nil)) rfl ?_
  exact ⟨_, rfl, Kr.R_lower (by repeat (first | exact HO.out | refine Kr_setold ?_ LB2.out _ _)) LW.out, by repeat (with_reducible first | exact HP.out | refine Pl.setNew ?_ NG1.out Z1.out _ _ | refine Pl.setNew ?_ NG2.out Z2.out _ _ | refine Pl.setNew ?_ NG3.out Z3.out _ _ | refine Pl.drew ?_), by repeat (with_reducible first | exact HF.out | refine But.set ?_ _ _ | refine But.setNew ?_ G1.out _ _ | refine But.setNew ?_ G2.out _ _ | refine But.setNew ?_ G3.out _ _ | refine But.drew ?_)⟩
set_option maxHeartbeats 8000000 in
set_option maxRecDepth 100000 in
theorem sig_ok (w0 : World) (b : List Int) (Ab : Option Addr) (cb g : Nat) (at_ e : Int) (x : S66) (at' e' : Int) (w : World) (h : Pl w0 b Ab cb w g at_ e) (hn : by66 b at_ e = some (x, at', e')) :
    Calls Try.prog 45 #[.agg #[.pointer (some ⟨g, 0, none⟩)]] w fun y w' => ∃ v : Value, y = .returned (.agg #[v, .int .u8 x.f1.f0, .int .u16 x.f1.f1]) ∧ Kd.R k44 44 w' w.heap.size (fun _ => True) v x.f0 ∧ Pl w0 b Ab cb w' g at' e' ∧ But g w w' := by
  have HP := Aside0.mk h
  have HF := Aside0.mk (But.refl g w)
  have HG := Aside0.mk hn
  clear h hn
  have hu57 := Try.underlying57
  have hu66 := Try.underlying66
  go_enter Try.func45, Try.ntmps45
  go_wp2_with (first | ((with_reducible refine gate_dst (N := 1) rfl ?_); refine zbox (N := 1) (cs := #[.pointer (some ⟨g, 0, none⟩)]) (t := 57) ?_; intro n1 hg w1 hbox hb; have G1 := Aside0.mk (show w.heap.size ≤ n1 by rw [hg]; exact HF.out.size); have NG1 := Aside0.mk (show g ≠ n1 by rw [hg]; exact Nat.ne_of_lt HP.out.lt); have Z1 := Aside0.mk (show w0.heap.size ≤ n1 by rw [hg]; exact HP.out.fr.size); have n0_ := Aside0.mk (HP.out.below hb); have n1_ := Aside0.mk (HF.out.below hb); have B1 := Aside0.mk hbox; clear HP HF hb hg hbox; have HP := n0_; have HF := n1_; clear n0_ n1_; have p1 : w1.cell? ⟨n1, 0, none⟩ = some (.pointer (some ⟨g, 0, none⟩)) := (blk_cell B1.out 0).trans rfl) | ((with_reducible refine gate_dst (N := 2) rfl ?_); refine zbox (N := 2) (cs := #[.slice none 0 0, .int .u8 0, .int .u16 0]) (t := 66) ?_; intro n2 hg w2 hbox hb; have o1_ := Aside0.mk (show n1 ≠ n2 by rw [hg]; exact Nat.ne_of_lt (blk_lt B1.out)); have nb1 := Aside0.mk (blk_below B1.out hb); clear B1; have B1 := nb1; clear nb1; have N12 := o1_; clear o1_; have G2 := Aside0.mk (show w.heap.size ≤ n2 by rw [hg]; exact HF.out.size); have NG2 := Aside0.mk (show g ≠ n2 by rw [hg]; exact Nat.ne_of_lt HP.out.lt); have Z2 := Aside0.mk (show w0.heap.size ≤ n2 by rw [hg]; exact HP.out.fr.size); have n0_ := Aside0.mk (HP.out.below hb); have n1_ := Aside0.mk (HF.out.below hb); have B2 := Aside0.mk hbox; clear HP HF hb hg hbox; have HP := n0_; have HF := n1_; clear n0_ n1_; clear p1; have p1 : w2.cell? ⟨n1, 0, none⟩ = some (.pointer (some ⟨g, 0, none⟩)) := (blk_cell B1.out 0).trans rfl; have q20 : w2.cell? ⟨n2, 0, none⟩ = some (.slice none 0 0) := (blk_cell B2.out 0).trans rfl; have q21 : w2.cell? ⟨n2, 1, none⟩ = some (.int .u8 0) := (blk_cell B2.out 1).trans rfl; have q22 : w2.cell? ⟨n2, 2, none⟩ = some (.int .u16 0) := (blk_cell B2.out 2).trans rfl; have f20 := blk_frozen B2.out 0; have f21 := blk_frozen B2.out 1; have f22 := blk_frozen B2.out 2) | (go_at_call 65; (with_reducible refine (by66_ok w0 b Ab cb g at_ e x at' e' _ ?s1 HG.out).mono ?_); (case s1 => exact HP.out); rintro y w3 ⟨v, rfl, ho, hp, hf⟩; obtain ⟨Ao, co, eo⟩ := Kd.R_slice ho; subst eo; have HO := Aside0.mk ho; clear ho; have LB2 := Aside0.mk (blk_lt B2.out); obtain ⟨B, hB⟩ : ∃ B_ : Nat, B_ = w2.heap.size := ⟨_, rfl⟩; rw [← hB] at HO LB2; have LW := Aside0.mk (show w.heap.size ≤ B by rw [hB]; exact HF.out.size); clear hB; have n2_ := Aside0.mk (blk_but B2.out NG2.out.symm hf); have n0_ := Aside0.mk hp; have n1_ := Aside0.mk (HF.out.trans hf); clear HP HF hp hf B2 p1 q20 f20 q21 f21 q22 f22; have HP := n0_; have HF := n1_; have B2 := n2_; clear n0_ n1_ n2_; have q20 : w3.cell? ⟨n2, 0, none⟩ = some (.slice none 0 0) := (blk_cell B2.out 0).trans rfl; have q21 : w3.cell? ⟨n2, 1, none⟩ = some (.int .u8 0) := (blk_cell B2.out 1).trans rfl; have q22 : w3.cell? ⟨n2, 2, none⟩ = some (.int .u16 0) := (blk_cell B2.out 2).trans rfl; have f20 := blk_frozen B2.out 0; have f21 := blk_frozen B2.out 1; have f22 := blk_frozen B2.out 2))
  (try simp only [Exit.inBlock, Exit.then])
  refine bodyPost_ret (results_single rfl (.cell n2 66 #[.slice Ao x.f0.length co, .int .u8 x.f1.f0, .int .u16 x.f1.f1] (0, 0) _ rfl ((blk_put (cs' := #[.slice Ao x.f0.length co, .int .u8 x.f1.f0, .int .u16 x.f1.f1]) (blk_put (cs' := #[.slice Ao x.f0.length co, .int .u8 x.f1.f0, .int .u16 0]) (blk_put (cs' := #[.slice Ao x.f0.length co, .int .u8 0, .int .u16 0]) B2.out 0 _ rfl) 1 _ rfl) 2 _ rfl)) Try.underlying66 rfl (by kernel_rfl) .nil)) rfl ?_
  exact ⟨_, rfl, Kd.R_lower (by repeat (first | exact HO.out | refine R_setold ?_ LB2.out _ _)) LW.out, by repeat (with_reducible first | exact HP.out | refine Pl.setNew ?_ NG1.out Z1.out _ _ | refine Pl.setNew ?_ NG2.out Z2.out _ _ | refine Pl.setNew ?_ NG3.out Z3.out _ _ | refine Pl.drew ?_), by repeat (with_reducible first | exact HF.out | refine But.set ?_ _ _ | refine But.setNew ?_ G1.out _ _ | refine But.setNew ?_ G2.out _ _ | refine But.setNew ?_ G3.out _ _ | refine But.drew ?_)⟩
/-- many: the loop, and the whole. -/
def manyL {α : Type} (next : Int → Int → Option (α × Int × Int)) : Nat → List α → Int → Int → Option (List α × Int × Int)
  | 0, acc, at_, e => some (acc, at_, e)
  | n + 1, acc, at_, e => if e = 0 then (next at_ e).bind fun t => manyL next n (acc ++ [t.1]) t.2.1 t.2.2 else some (acc, at_, e)
def manyG {α : Type} (next : Int → Int → Option (α × Int × Int)) (b : List Int) (most at_ e : Int) : Option (List α × Int × Int) := (num b 1 at_ e).bind fun t => if 0 ≤ t.1 ∧ t.1 ≤ 255 then manyL next t.1.toNat [] t.2.1 (if t.2.2 = 0 ∧ t.1 > most then 3 else t.2.2) else none
theorem minfo23 : (Try.prog.info? 23).map (fun i => (i.zero, i.size, i.bytes)) = some (some (.int .u16 0), 1, 2) := by kernel_rfl
set_option maxHeartbeats 8000000 in
set_option maxRecDepth 100000 in
theorem many23_ok (w0 : World) (b : List Int) (Ab : Option Addr) (cb g : Nat) (at_ e most : Int) (l : List Int) (at' e' : Int) (w : World) (h : Pl w0 b Ab cb w g at_ e) (hn : manyG (wordG b) b most at_ e = some (l, at', e')) :
    Calls Try.prog 51 #[.pointer (some ⟨g, 0, none⟩), .int .i64 most, .func (.func 46) #[.pointer (some ⟨g, 0, none⟩)] #[]] w fun y w' => ∃ v : Value, y = .returned v ∧ Kd.R (Kd.int .u16) 23 w' w.heap.size (fun _ => True) v l ∧ Pl w0 b Ab cb w' g at' e' ∧ But g w w' := by
  have HP := Aside0.mk h
  have HF := Aside0.mk (But.refl g w)
  have LG := Aside0.mk h.lt
  clear h
  unfold manyG at hn
  have hu35 := Try.underlying35
  obtain ⟨⟨t1, at1, e1⟩, h1, hn⟩ := Option.bind_eq_some_iff.mp hn
  have H1 := Aside0.mk h1
  clear h1
  replace hn : (if 0 ≤ t1 ∧ t1 ≤ 255 then manyL (wordG b) t1.toNat [] at1 (if e1 = 0 ∧ t1 > most then 3 else e1) else none) = some (l, at', e') := hn
  by_cases c1 : 0 ≤ t1 ∧ t1 ≤ 255
  rotate_left
  · rw [if_neg c1] at hn
    cases hn
  rw [if_pos c1] at hn
  have C1 := Aside0.mk c1
  clear c1
  obtain ⟨E, hE⟩ : ∃ E_ : Int, E_ = (if e1 = 0 ∧ t1 > most then 3 else e1) := ⟨_, rfl⟩
  rw [← hE] at hn
  have HE := Aside0.mk hE
  have HN := Aside0.mk hn
  clear hn hE
  go_enter Try.func51, Try.ntmps51
  go_upto_region 2 with (first | (go_at_call 43; (with_reducible refine (number_ok w0 b Ab cb g at_ e 1 t1 at1 e1 _ ?s1 H1.out).mono ?_); (case s1 => exact HP.out); rintro y w1 ⟨rfl, hp, hf⟩; have n0_ := Aside0.mk hp; have n1_ := Aside0.mk (HF.out.trans hf); clear HP HF hp hf; have HP := n0_; have HF := n1_; clear n0_ n1_))
  go_cut [7, 21] from 10 (fun v7 v21 wc => v7 = .int .i64 t1 ∧ v21 = .bool (decide (e1 = 0 ∧ t1 > most)) ∧ Aside0 (Pl w0 b Ab cb wc g at1 e1) ∧ Aside0 (But g w wc))
  case first =>
    have q2 := HP.out.c2
    by_cases c2 : e1 = 0
    · subst c2
      by_cases c3 : t1 > most
      · have c3b : decide (most < t1) = true := decide_eq_true c3
        go_wp2
        go_meet
        case rel => exact ⟨rfl, by simp [c3], HP, HF⟩
      · have c3b : decide (most < t1) = false := decide_eq_false c3
        go_wp2
        go_meet
        case rel => exact ⟨rfl, by simp [c3], HP, HF⟩
    · have c3a : (e1 == 0) = false := beq_eq_false_iff_ne.mpr c2
      have c3b : (e1 != 0) = true := bne_iff_ne.mpr c2
      go_wp2
      go_meet
      case rel => exact ⟨rfl, by simp [c2], HP, HF⟩
  case rest =>
    clear HP HF
    obtain ⟨rfl, rfl, HP, HF⟩ := hcut
    go_upto_if 21 with (fail)
    go_cut [7] from 10 (fun v7 wc => v7 = .int .i64 t1 ∧ Aside0 (Pl w0 b Ab cb wc g at1 E) ∧ Aside0 (But g w wc))
    case first =>
      have q2 := HP.out.c2
      have f2 := HP.out.fz 2
      have hE := HE.out
      by_cases c2 : e1 = 0 ∧ t1 > most
      · rw [if_pos c2] at hE
        subst hE
        have c2b := decide_eq_true c2
        rw [c2b]
        clear c2
        go_wp2
        go_meet
        case rel => exact ⟨rfl, ⟨HP.out.set2 3⟩, ⟨HF.out.set _ _⟩⟩
      · rw [if_neg c2] at hE
        subst hE
        have c2b := decide_eq_false c2
        rw [c2b]
        clear c2
        go_wp2
        go_meet
        case rel => exact ⟨rfl, HP, HF⟩
    case rest =>
      clear HP HF HE
      obtain ⟨rfl, HP, HF⟩ := hcut
      have hn := HN.out
      clear HN
      go_wp2
      have HM := Aside0.mk hn
      clear hn
      go_loopg [8, 9] t1.toNat (fun kq v8 v9 w' => ∃ (acc : List Int) (x a_ e_ : Int), v9 = .int .i64 x ∧ Aside0 (0 ≤ x ∧ (kq : Int) + x = t1 ∧ acc.length + kq ≤ 255) ∧ Aside0 (manyL (wordG b) kq acc a_ e_ = some (l, at', e')) ∧ Aside0 (Kd.R (Kd.int .u16) 23 w' w.heap.size (fun _ => True) v8 acc) ∧ Aside0 (Pl w0 b Ab cb w' g a_ e_) ∧ Aside0 (But g w w'))
      case atStart => exact ⟨[], 0, at1, E, rfl, ⟨by have := C1.out; simp; omega⟩, HM, ⟨Kd.R_nil _ _ _ _ _⟩, ⟨HP.out⟩, ⟨HF.out⟩⟩
      case round =>
        clear HP HF HM
        obtain ⟨acc, x, a_, e_, rfl, HI, HA, HO8, HP, HF⟩ := hrel
        obtain ⟨Ao8, co8, eo8⟩ := Kd.R_slice HO8.out
        subst eo8
        have q2 := HP.out.c2
        cases gk with
        | zero =>
          have c2 : decide (x < t1) = false := decide_eq_false (by have := HI.out; omega)
          have hA := HA.out
          unfold manyL at hA
          simp only [Option.some.injEq, Prod.mk.injEq] at hA
          obtain ⟨rfl, rfl, rfl⟩ := hA
          clear HA
          go_wp2
          go_ret
          exact ⟨_, rfl, HO8.out, HP.out, HF.out⟩
        | succ k1 =>
          have c2 : decide (x < t1) = true := decide_eq_true (by have := HI.out; omega)
          have hA := HA.out
          unfold manyL at hA
          clear HA
          by_cases c3 : e_ = 0
          rotate_left
          · rw [if_neg c3] at hA
            simp only [Option.some.injEq, Prod.mk.injEq] at hA
            obtain ⟨rfl, rfl, rfl⟩ := hA
            have c3a : (e_ == 0) = false := beq_eq_false_iff_ne.mpr c3
            have c3b : (e_ != 0) = true := bne_iff_ne.mpr c3
            clear c3
            go_wp2
            go_ret
            exact ⟨_, rfl, HO8.out, HP.out, HF.out⟩
          rw [if_pos c3] at hA
          subst c3
          obtain ⟨⟨x_, a2, e2⟩, h2, hA⟩ := Option.bind_eq_some_iff.mp hA
          have H2 := Aside0.mk h2
          have HA := Aside0.mk hA
          clear h2 hA
          have hw : wrap64 (x + 1) = x + 1 := by have := HI.out; have := C1.out; unfold wrap64; omega
          have HW := Aside0.mk hw
          clear hw
          obtain ⟨B, hB⟩ : ∃ B_ : Nat, B_ = wr.heap.size := ⟨_, rfl⟩
          have LT8 := Aside0.mk (show ∀ k, (Value.slice Ao8 acc.length co8).ownBlock = some k → k < B by rw [hB]; exact Kd.R_lt HO8.out)
          have LW := Aside0.mk (show w.heap.size ≤ B by rw [hB]; exact HF.out.size)
          go_wp2_with (first | (go_at_call 46; (with_reducible refine (word_ok w0 b Ab cb g a_ 0 x_ a2 e2 _ ?s1 H2.out).mono ?_); (case s1 => exact HP.out); rintro y w3 ⟨rfl, hp, hf⟩; have n0_ := Aside0.mk hp; have n1_ := Aside0.mk (HF.out.trans hf); have n2_ := Aside0.mk (R_but HO8.out LG.out hf); clear HP HF HO8 hp hf q2; have HP := n0_; have HF := n1_; have HO8 := n2_; clear n0_ n1_ n2_) | ((with_reducible refine gate_builtin (b := .append) (xs := #[.tmp 37, .tmp 40]) rfl ?_); at_builtin; refine Kd.R_append (Kd.int .u16) (w0 := w3) w.heap.size rfl (.tmp 37) (.tmp 40) 35 23 (.int .u16 0) 2 rfl Try.underlying35 minfo23 rfl (by decide) (by omega) _ acc x_ [.int .u16 x_] (fun _ => True) (fun k => B ≤ k) rfl rfl ?aP ?aK (fun _ _ => trivial) ?aO ?aB ?aS ?aL ?_; (case aP => exact rfl); (case aK => exact fun k hk => ⟨trivial, fun h_ => absurd (LT8.out k h_.symm) (Nat.not_lt.mpr hk)⟩); (case aO => exact HO8.out); (case aB => exact Below.refl _ _); (case aS => exact HF.out.size); (case aL => have := HI.out; omega); intro v41 w41 ho hb hg hat; have n0_ := Aside0.mk ho; have n1_ := Aside0.mk (HP.out.step LG.out hb); have n2_ := Aside0.mk (HF.out.step (Nat.le_refl _) hb); clear HO8 HP HF; have HO8 := n0_; have HP := n1_; have HF := n2_; clear n0_ n1_ n2_ ho hb hg hat))
          go_roundg k1
          case measure => omega
          case rel => exact ⟨acc ++ [x_], x + 1, a2, e2, by rw [HW.out], ⟨by have := HI.out; simp only [List.length_append, List.length_cons, List.length_nil]; omega⟩, HA, ⟨HO8.out⟩, ⟨HP.out⟩, ⟨HF.out⟩⟩
theorem minfo44 : (Try.prog.info? 44).map (fun i => (i.zero, i.size, i.bytes)) = some (some (.agg #[.int .u8 0, .int .u16 0]), 2, 4) := by kernel_rfl
set_option maxHeartbeats 8000000 in
set_option maxRecDepth 100000 in
theorem many44_ok (w0 : World) (b : List Int) (Ab : Option Addr) (cb g : Nat) (at_ e most : Int) (l : List S44) (at' e' : Int) (w : World) (h : Pl w0 b Ab cb w g at_ e) (hn : manyG (by44 b) b most at_ e = some (l, at', e')) :
    Calls Try.prog 49 #[.pointer (some ⟨g, 0, none⟩), .int .i64 most, .func (.func 50) #[.agg #[.pointer (some ⟨g, 0, none⟩)]] #[]] w fun y w' => ∃ v : Value, y = .returned v ∧ Kd.R k44 44 w' w.heap.size (fun _ => True) v l ∧ Pl w0 b Ab cb w' g at' e' ∧ But g w w' := by
  have HP := Aside0.mk h
  have HF := Aside0.mk (But.refl g w)
  have LG := Aside0.mk h.lt
  clear h
  unfold manyG at hn
  have hu34 := Try.underlying34
  obtain ⟨⟨t1, at1, e1⟩, h1, hn⟩ := Option.bind_eq_some_iff.mp hn
  have H1 := Aside0.mk h1
  clear h1
  replace hn : (if 0 ≤ t1 ∧ t1 ≤ 255 then manyL (by44 b) t1.toNat [] at1 (if e1 = 0 ∧ t1 > most then 3 else e1) else none) = some (l, at', e') := hn
  by_cases c1 : 0 ≤ t1 ∧ t1 ≤ 255
  rotate_left
  · rw [if_neg c1] at hn
    cases hn
  rw [if_pos c1] at hn
  have C1 := Aside0.mk c1
  clear c1
  obtain ⟨E, hE⟩ : ∃ E_ : Int, E_ = (if e1 = 0 ∧ t1 > most then 3 else e1) := ⟨_, rfl⟩
  rw [← hE] at hn
  have HE := Aside0.mk hE
  have HN := Aside0.mk hn
  clear hn hE
  go_enter Try.func49, Try.ntmps49
  go_upto_region 2 with (first | (go_at_call 43; (with_reducible refine (number_ok w0 b Ab cb g at_ e 1 t1 at1 e1 _ ?s1 H1.out).mono ?_); (case s1 => exact HP.out); rintro y w1 ⟨rfl, hp, hf⟩; have n0_ := Aside0.mk hp; have n1_ := Aside0.mk (HF.out.trans hf); clear HP HF hp hf; have HP := n0_; have HF := n1_; clear n0_ n1_))
  go_cut [7, 21] from 10 (fun v7 v21 wc => v7 = .int .i64 t1 ∧ v21 = .bool (decide (e1 = 0 ∧ t1 > most)) ∧ Aside0 (Pl w0 b Ab cb wc g at1 e1) ∧ Aside0 (But g w wc))
  case first =>
    have q2 := HP.out.c2
    by_cases c2 : e1 = 0
    · subst c2
      by_cases c3 : t1 > most
      · have c3b : decide (most < t1) = true := decide_eq_true c3
        go_wp2
        go_meet
        case rel => exact ⟨rfl, by simp [c3], HP, HF⟩
      · have c3b : decide (most < t1) = false := decide_eq_false c3
        go_wp2
        go_meet
        case rel => exact ⟨rfl, by simp [c3], HP, HF⟩
    · have c3a : (e1 == 0) = false := beq_eq_false_iff_ne.mpr c2
      have c3b : (e1 != 0) = true := bne_iff_ne.mpr c2
      go_wp2
      go_meet
      case rel => exact ⟨rfl, by simp [c2], HP, HF⟩
  case rest =>
    clear HP HF
    obtain ⟨rfl, rfl, HP, HF⟩ := hcut
    go_upto_if 21 with (fail)
    go_cut [7] from 10 (fun v7 wc => v7 = .int .i64 t1 ∧ Aside0 (Pl w0 b Ab cb wc g at1 E) ∧ Aside0 (But g w wc))
    case first =>
      have q2 := HP.out.c2
      have f2 := HP.out.fz 2
      have hE := HE.out
      by_cases c2 : e1 = 0 ∧ t1 > most
      · rw [if_pos c2] at hE
        subst hE
        have c2b := decide_eq_true c2
        rw [c2b]
        clear c2
        go_wp2
        go_meet
        case rel => exact ⟨rfl, ⟨HP.out.set2 3⟩, ⟨HF.out.set _ _⟩⟩
      · rw [if_neg c2] at hE
        subst hE
        have c2b := decide_eq_false c2
        rw [c2b]
        clear c2
        go_wp2
        go_meet
        case rel => exact ⟨rfl, HP, HF⟩
    case rest =>
      clear HP HF HE
      obtain ⟨rfl, HP, HF⟩ := hcut
      have hn := HN.out
      clear HN
      go_wp2
      have HM := Aside0.mk hn
      clear hn
      go_loopg [8, 9] t1.toNat (fun kq v8 v9 w' => ∃ (acc : List S44) (x a_ e_ : Int), v9 = .int .i64 x ∧ Aside0 (0 ≤ x ∧ (kq : Int) + x = t1 ∧ acc.length + kq ≤ 255) ∧ Aside0 (manyL (by44 b) kq acc a_ e_ = some (l, at', e')) ∧ Aside0 (Kd.R k44 44 w' w.heap.size (fun _ => True) v8 acc) ∧ Aside0 (Pl w0 b Ab cb w' g a_ e_) ∧ Aside0 (But g w w'))
      case atStart => exact ⟨[], 0, at1, E, rfl, ⟨by have := C1.out; simp; omega⟩, HM, ⟨Kd.R_nil _ _ _ _ _⟩, ⟨HP.out⟩, ⟨HF.out⟩⟩
      case round =>
        clear HP HF HM
        obtain ⟨acc, x, a_, e_, rfl, HI, HA, HO8, HP, HF⟩ := hrel
        obtain ⟨Ao8, co8, eo8⟩ := Kd.R_slice HO8.out
        subst eo8
        have q2 := HP.out.c2
        cases gk with
        | zero =>
          have c2 : decide (x < t1) = false := decide_eq_false (by have := HI.out; omega)
          have hA := HA.out
          unfold manyL at hA
          simp only [Option.some.injEq, Prod.mk.injEq] at hA
          obtain ⟨rfl, rfl, rfl⟩ := hA
          clear HA
          go_wp2
          go_ret
          exact ⟨_, rfl, HO8.out, HP.out, HF.out⟩
        | succ k1 =>
          have c2 : decide (x < t1) = true := decide_eq_true (by have := HI.out; omega)
          have hA := HA.out
          unfold manyL at hA
          clear HA
          by_cases c3 : e_ = 0
          rotate_left
          · rw [if_neg c3] at hA
            simp only [Option.some.injEq, Prod.mk.injEq] at hA
            obtain ⟨rfl, rfl, rfl⟩ := hA
            have c3a : (e_ == 0) = false := beq_eq_false_iff_ne.mpr c3
            have c3b : (e_ != 0) = true := bne_iff_ne.mpr c3
            clear c3
            go_wp2
            go_ret
            exact ⟨_, rfl, HO8.out, HP.out, HF.out⟩
          rw [if_pos c3] at hA
          subst c3
          obtain ⟨⟨x_, a2, e2⟩, h2, hA⟩ := Option.bind_eq_some_iff.mp hA
          have H2 := Aside0.mk h2
          have HA := Aside0.mk hA
          clear h2 hA
          have hw : wrap64 (x + 1) = x + 1 := by have := HI.out; have := C1.out; unfold wrap64; omega
          have HW := Aside0.mk hw
          clear hw
          obtain ⟨B, hB⟩ : ∃ B_ : Nat, B_ = wr.heap.size := ⟨_, rfl⟩
          have LT8 := Aside0.mk (show ∀ k, (Value.slice Ao8 acc.length co8).ownBlock = some k → k < B by rw [hB]; exact Kd.R_lt HO8.out)
          have LW := Aside0.mk (show w.heap.size ≤ B by rw [hB]; exact HF.out.size)
          go_wp2_with (first | (go_at_call 50; (with_reducible refine (typ_ok w0 b Ab cb g a_ 0 x_ a2 e2 _ ?s1 H2.out).mono ?_); (case s1 => exact HP.out); rintro y w3 ⟨rfl, hp, hf⟩; have n0_ := Aside0.mk hp; have n1_ := Aside0.mk (HF.out.trans hf); have n2_ := Aside0.mk (R_but HO8.out LG.out hf); clear HP HF HO8 hp hf q2; have HP := n0_; have HF := n1_; have HO8 := n2_; clear n0_ n1_ n2_) | ((with_reducible refine gate_builtin (b := .append) (xs := #[.tmp 37, .tmp 40]) rfl ?_); at_builtin; refine Kd.R_append k44 (w0 := w3) w.heap.size rfl (.tmp 37) (.tmp 40) 34 44 (.agg #[.int .u8 0, .int .u16 0]) 4 rfl Try.underlying34 minfo44 rfl (by decide) (by omega) _ acc x_ [.int .u8 x_.f0, .int .u16 x_.f1] (fun _ => True) (fun k => B ≤ k) rfl rfl ?aP ?aK (fun _ _ => trivial) ?aO ?aB ?aS ?aL ?_; (case aP => exact k44_mkM _ _ _ x_); (case aK => exact fun k hk => ⟨trivial, fun h_ => absurd (LT8.out k h_.symm) (Nat.not_lt.mpr hk)⟩); (case aO => exact HO8.out); (case aB => exact Below.refl _ _); (case aS => exact HF.out.size); (case aL => have := HI.out; omega); intro v41 w41 ho hb hg hat; have n0_ := Aside0.mk ho; have n1_ := Aside0.mk (HP.out.step LG.out hb); have n2_ := Aside0.mk (HF.out.step (Nat.le_refl _) hb); clear HO8 HP HF; have HO8 := n0_; have HP := n1_; have HF := n2_; clear n0_ n1_ n2_ ho hb hg hat))
          go_roundg k1
          case measure => omega
          case rel => exact ⟨acc ++ [x_], x + 1, a2, e2, by rw [HW.out], ⟨by have := HI.out; simp only [List.length_append, List.length_cons, List.length_nil]; omega⟩, HA, ⟨HO8.out⟩, ⟨HP.out⟩, ⟨HF.out⟩⟩
theorem minfo41 : (Try.prog.info? 41).map (fun i => (i.zero, i.size, i.bytes)) = some (some (.agg #[.int .u16 0, .slice none 0 0]), 2, 32) := by kernel_rfl
set_option maxHeartbeats 8000000 in
set_option maxRecDepth 100000 in
theorem many41_ok (w0 : World) (b : List Int) (Ab : Option Addr) (cb g : Nat) (at_ e most : Int) (l : List S41) (at' e' : Int) (w : World) (h : Pl w0 b Ab cb w g at_ e) (hn : manyG (ifaceG b) b most at_ e = some (l, at', e')) :
    Calls Try.prog 47 #[.pointer (some ⟨g, 0, none⟩), .int .i64 most, .func (.func 48) #[.agg #[.pointer (some ⟨g, 0, none⟩)]] #[]] w fun y w' => ∃ v : Value, y = .returned v ∧ Kd.R k41r 41 w' w.heap.size (fun _ => True) v l ∧ Pl w0 b Ab cb w' g at' e' ∧ But g w w' := by
  have HP := Aside0.mk h
  have HF := Aside0.mk (But.refl g w)
  have LG := Aside0.mk h.lt
  clear h
  unfold manyG at hn
  have hu33 := Try.underlying33
  obtain ⟨⟨t1, at1, e1⟩, h1, hn⟩ := Option.bind_eq_some_iff.mp hn
  have H1 := Aside0.mk h1
  clear h1
  replace hn : (if 0 ≤ t1 ∧ t1 ≤ 255 then manyL (ifaceG b) t1.toNat [] at1 (if e1 = 0 ∧ t1 > most then 3 else e1) else none) = some (l, at', e') := hn
  by_cases c1 : 0 ≤ t1 ∧ t1 ≤ 255
  rotate_left
  · rw [if_neg c1] at hn
    cases hn
  rw [if_pos c1] at hn
  have C1 := Aside0.mk c1
  clear c1
  obtain ⟨E, hE⟩ : ∃ E_ : Int, E_ = (if e1 = 0 ∧ t1 > most then 3 else e1) := ⟨_, rfl⟩
  rw [← hE] at hn
  have HE := Aside0.mk hE
  have HN := Aside0.mk hn
  clear hn hE
  go_enter Try.func47, Try.ntmps47
  go_upto_region 2 with (first | (go_at_call 43; (with_reducible refine (number_ok w0 b Ab cb g at_ e 1 t1 at1 e1 _ ?s1 H1.out).mono ?_); (case s1 => exact HP.out); rintro y w1 ⟨rfl, hp, hf⟩; have n0_ := Aside0.mk hp; have n1_ := Aside0.mk (HF.out.trans hf); clear HP HF hp hf; have HP := n0_; have HF := n1_; clear n0_ n1_))
  go_cut [7, 21] from 10 (fun v7 v21 wc => v7 = .int .i64 t1 ∧ v21 = .bool (decide (e1 = 0 ∧ t1 > most)) ∧ Aside0 (Pl w0 b Ab cb wc g at1 e1) ∧ Aside0 (But g w wc))
  case first =>
    have q2 := HP.out.c2
    by_cases c2 : e1 = 0
    · subst c2
      by_cases c3 : t1 > most
      · have c3b : decide (most < t1) = true := decide_eq_true c3
        go_wp2
        go_meet
        case rel => exact ⟨rfl, by simp [c3], HP, HF⟩
      · have c3b : decide (most < t1) = false := decide_eq_false c3
        go_wp2
        go_meet
        case rel => exact ⟨rfl, by simp [c3], HP, HF⟩
    · have c3a : (e1 == 0) = false := beq_eq_false_iff_ne.mpr c2
      have c3b : (e1 != 0) = true := bne_iff_ne.mpr c2
      go_wp2
      go_meet
      case rel => exact ⟨rfl, by simp [c2], HP, HF⟩
  case rest =>
    clear HP HF
    obtain ⟨rfl, rfl, HP, HF⟩ := hcut
    go_upto_if 21 with (fail)
    go_cut [7] from 10 (fun v7 wc => v7 = .int .i64 t1 ∧ Aside0 (Pl w0 b Ab cb wc g at1 E) ∧ Aside0 (But g w wc))
    case first =>
      have q2 := HP.out.c2
      have f2 := HP.out.fz 2
      have hE := HE.out
      by_cases c2 : e1 = 0 ∧ t1 > most
      · rw [if_pos c2] at hE
        subst hE
        have c2b := decide_eq_true c2
        rw [c2b]
        clear c2
        go_wp2
        go_meet
        case rel => exact ⟨rfl, ⟨HP.out.set2 3⟩, ⟨HF.out.set _ _⟩⟩
      · rw [if_neg c2] at hE
        subst hE
        have c2b := decide_eq_false c2
        rw [c2b]
        clear c2
        go_wp2
        go_meet
        case rel => exact ⟨rfl, HP, HF⟩
    case rest =>
      clear HP HF HE
      obtain ⟨rfl, HP, HF⟩ := hcut
      have hn := HN.out
      clear HN
      go_wp2
      have HM := Aside0.mk hn
      clear hn
      go_loopg [8, 9] t1.toNat (fun kq v8 v9 w' => ∃ (acc : List S41) (x a_ e_ : Int), v9 = .int .i64 x ∧ Aside0 (0 ≤ x ∧ (kq : Int) + x = t1 ∧ acc.length + kq ≤ 255) ∧ Aside0 (manyL (ifaceG b) kq acc a_ e_ = some (l, at', e')) ∧ Aside0 (Kd.R k41r 41 w' w.heap.size (fun _ => True) v8 acc) ∧ Aside0 (Pl w0 b Ab cb w' g a_ e_) ∧ Aside0 (But g w w'))
      case atStart => exact ⟨[], 0, at1, E, rfl, ⟨by have := C1.out; simp; omega⟩, HM, ⟨Kd.R_nil _ _ _ _ _⟩, ⟨HP.out⟩, ⟨HF.out⟩⟩
      case round =>
        clear HP HF HM
        obtain ⟨acc, x, a_, e_, rfl, HI, HA, HO8, HP, HF⟩ := hrel
        obtain ⟨Ao8, co8, eo8⟩ := Kd.R_slice HO8.out
        subst eo8
        have q2 := HP.out.c2
        cases gk with
        | zero =>
          have c2 : decide (x < t1) = false := decide_eq_false (by have := HI.out; omega)
          have hA := HA.out
          unfold manyL at hA
          simp only [Option.some.injEq, Prod.mk.injEq] at hA
          obtain ⟨rfl, rfl, rfl⟩ := hA
          clear HA
          go_wp2
          go_ret
          exact ⟨_, rfl, HO8.out, HP.out, HF.out⟩
        | succ k1 =>
          have c2 : decide (x < t1) = true := decide_eq_true (by have := HI.out; omega)
          have hA := HA.out
          unfold manyL at hA
          clear HA
          by_cases c3 : e_ = 0
          rotate_left
          · rw [if_neg c3] at hA
            simp only [Option.some.injEq, Prod.mk.injEq] at hA
            obtain ⟨rfl, rfl, rfl⟩ := hA
            have c3a : (e_ == 0) = false := beq_eq_false_iff_ne.mpr c3
            have c3b : (e_ != 0) = true := bne_iff_ne.mpr c3
            clear c3
            go_wp2
            go_ret
            exact ⟨_, rfl, HO8.out, HP.out, HF.out⟩
          rw [if_pos c3] at hA
          subst c3
          obtain ⟨⟨x_, a2, e2⟩, h2, hA⟩ := Option.bind_eq_some_iff.mp hA
          have H2 := Aside0.mk h2
          have HA := Aside0.mk hA
          clear h2 hA
          have hw : wrap64 (x + 1) = x + 1 := by have := HI.out; have := C1.out; unfold wrap64; omega
          have HW := Aside0.mk hw
          clear hw
          obtain ⟨B, hB⟩ : ∃ B_ : Nat, B_ = wr.heap.size := ⟨_, rfl⟩
          have LT8 := Aside0.mk (show ∀ k, (Value.slice Ao8 acc.length co8).ownBlock = some k → k < B by rw [hB]; exact Kd.R_lt HO8.out)
          have LW := Aside0.mk (show w.heap.size ≤ B by rw [hB]; exact HF.out.size)
          go_wp2_with (first | (go_at_call 48; (with_reducible refine (iface_ok w0 b Ab cb g a_ 0 x_ a2 e2 _ ?s1 H2.out).mono ?_); (case s1 => exact HP.out); rintro y w3 ⟨v, rfl, ho, hp, hf⟩; obtain ⟨Ao0, co0, eo0⟩ := Kr.R_slice ho; subst eo0; rw [← hB] at ho; have HR0 := Aside0.mk ho; clear ho; have n0_ := Aside0.mk hp; have n1_ := Aside0.mk (HF.out.trans hf); have n2_ := Aside0.mk (R_but HO8.out LG.out hf); clear HP HF HO8 hp hf q2; have HP := n0_; have HF := n1_; have HO8 := n2_; clear n0_ n1_ n2_) | ((with_reducible refine gate_builtin (b := .append) (xs := #[.tmp 37, .tmp 40]) rfl ?_); at_builtin; refine Kd.R_append k41r (w0 := w3) w.heap.size rfl (.tmp 37) (.tmp 40) 33 41 (.agg #[.int .u16 0, .slice none 0 0]) 32 rfl Try.underlying33 minfo41 rfl (by decide) (by omega) _ acc x_ [.int .u16 x_.f0, .slice Ao0 x_.f1.length co0] (fun _ => True) (fun k => B ≤ k) rfl rfl ?aP ?aK (fun _ _ => trivial) ?aO ?aB ?aS ?aL ?_; (case aP => exact k41r_mkM _ _ _ x_ (Kr.R_lower (Kr.R_mono (Kr_bound HR0.out) (fun k hk => hk.2.1)) LW.out)); (case aK => exact fun k hk => ⟨trivial, fun h_ => absurd (LT8.out k h_.symm) (Nat.not_lt.mpr hk)⟩); (case aO => exact HO8.out); (case aB => exact Below.refl _ _); (case aS => exact HF.out.size); (case aL => have := HI.out; omega); intro v41 w41 ho hb hg hat; have n0_ := Aside0.mk ho; have n1_ := Aside0.mk (HP.out.step LG.out hb); have n2_ := Aside0.mk (HF.out.step (Nat.le_refl _) hb); clear HO8 HP HF HR0; have HO8 := n0_; have HP := n1_; have HF := n2_; clear n0_ n1_ n2_ ho hb hg hat))
          go_roundg k1
          case measure => omega
          case rel => exact ⟨acc ++ [x_], x + 1, a2, e2, by rw [HW.out], ⟨by have := HI.out; simp only [List.length_append, List.length_cons, List.length_nil]; omega⟩, HA, ⟨HO8.out⟩, ⟨HP.out⟩, ⟨HF.out⟩⟩
theorem minfo66 : (Try.prog.info? 66).map (fun i => (i.zero, i.size, i.bytes)) = some (some (.agg #[.slice none 0 0, .int .u8 0, .int .u16 0]), 3, 32) := by kernel_rfl
set_option maxHeartbeats 8000000 in
set_option maxRecDepth 100000 in
theorem many66_ok (w0 : World) (b : List Int) (Ab : Option Addr) (cb g : Nat) (at_ e most : Int) (l : List S66) (at' e' : Int) (w : World) (h : Pl w0 b Ab cb w g at_ e) (hn : manyG (by66 b) b most at_ e = some (l, at', e')) :
    Calls Try.prog 44 #[.pointer (some ⟨g, 0, none⟩), .int .i64 most, .func (.func 45) #[.agg #[.pointer (some ⟨g, 0, none⟩)]] #[]] w fun y w' => ∃ v : Value, y = .returned v ∧ Kd.R k66 66 w' w.heap.size (fun _ => True) v l ∧ Pl w0 b Ab cb w' g at' e' ∧ But g w w' := by
  have HP := Aside0.mk h
  have HF := Aside0.mk (But.refl g w)
  have LG := Aside0.mk h.lt
  clear h
  unfold manyG at hn
  have hu36 := Try.underlying36
  obtain ⟨⟨t1, at1, e1⟩, h1, hn⟩ := Option.bind_eq_some_iff.mp hn
  have H1 := Aside0.mk h1
  clear h1
  replace hn : (if 0 ≤ t1 ∧ t1 ≤ 255 then manyL (by66 b) t1.toNat [] at1 (if e1 = 0 ∧ t1 > most then 3 else e1) else none) = some (l, at', e') := hn
  by_cases c1 : 0 ≤ t1 ∧ t1 ≤ 255
  rotate_left
  · rw [if_neg c1] at hn
    cases hn
  rw [if_pos c1] at hn
  have C1 := Aside0.mk c1
  clear c1
  obtain ⟨E, hE⟩ : ∃ E_ : Int, E_ = (if e1 = 0 ∧ t1 > most then 3 else e1) := ⟨_, rfl⟩
  rw [← hE] at hn
  have HE := Aside0.mk hE
  have HN := Aside0.mk hn
  clear hn hE
  go_enter Try.func44, Try.ntmps44
  go_upto_region 2 with (first | (go_at_call 43; (with_reducible refine (number_ok w0 b Ab cb g at_ e 1 t1 at1 e1 _ ?s1 H1.out).mono ?_); (case s1 => exact HP.out); rintro y w1 ⟨rfl, hp, hf⟩; have n0_ := Aside0.mk hp; have n1_ := Aside0.mk (HF.out.trans hf); clear HP HF hp hf; have HP := n0_; have HF := n1_; clear n0_ n1_))
  go_cut [7, 21] from 10 (fun v7 v21 wc => v7 = .int .i64 t1 ∧ v21 = .bool (decide (e1 = 0 ∧ t1 > most)) ∧ Aside0 (Pl w0 b Ab cb wc g at1 e1) ∧ Aside0 (But g w wc))
  case first =>
    have q2 := HP.out.c2
    by_cases c2 : e1 = 0
    · subst c2
      by_cases c3 : t1 > most
      · have c3b : decide (most < t1) = true := decide_eq_true c3
        go_wp2
        go_meet
        case rel => exact ⟨rfl, by simp [c3], HP, HF⟩
      · have c3b : decide (most < t1) = false := decide_eq_false c3
        go_wp2
        go_meet
        case rel => exact ⟨rfl, by simp [c3], HP, HF⟩
    · have c3a : (e1 == 0) = false := beq_eq_false_iff_ne.mpr c2
      have c3b : (e1 != 0) = true := bne_iff_ne.mpr c2
      go_wp2
      go_meet
      case rel => exact ⟨rfl, by simp [c2], HP, HF⟩
  case rest =>
    clear HP HF
    obtain ⟨rfl, rfl, HP, HF⟩ := hcut
    go_upto_if 21 with (fail)
    go_cut [7] from 10 (fun v7 wc => v7 = .int .i64 t1 ∧ Aside0 (Pl w0 b Ab cb wc g at1 E) ∧ Aside0 (But g w wc))
    case first =>
      have q2 := HP.out.c2
      have f2 := HP.out.fz 2
      have hE := HE.out
      by_cases c2 : e1 = 0 ∧ t1 > most
      · rw [if_pos c2] at hE
        subst hE
        have c2b := decide_eq_true c2
        rw [c2b]
        clear c2
        go_wp2
        go_meet
        case rel => exact ⟨rfl, ⟨HP.out.set2 3⟩, ⟨HF.out.set _ _⟩⟩
      · rw [if_neg c2] at hE
        subst hE
        have c2b := decide_eq_false c2
        rw [c2b]
        clear c2
        go_wp2
        go_meet
        case rel => exact ⟨rfl, HP, HF⟩
    case rest =>
      clear HP HF HE
      obtain ⟨rfl, HP, HF⟩ := hcut
      have hn := HN.out
      clear HN
      go_wp2
      have HM := Aside0.mk hn
      clear hn
      go_loopg [8, 9] t1.toNat (fun kq v8 v9 w' => ∃ (acc : List S66) (x a_ e_ : Int), v9 = .int .i64 x ∧ Aside0 (0 ≤ x ∧ (kq : Int) + x = t1 ∧ acc.length + kq ≤ 255) ∧ Aside0 (manyL (by66 b) kq acc a_ e_ = some (l, at', e')) ∧ Aside0 (Kd.R k66 66 w' w.heap.size (fun _ => True) v8 acc) ∧ Aside0 (Pl w0 b Ab cb w' g a_ e_) ∧ Aside0 (But g w w'))
      case atStart => exact ⟨[], 0, at1, E, rfl, ⟨by have := C1.out; simp; omega⟩, HM, ⟨Kd.R_nil _ _ _ _ _⟩, ⟨HP.out⟩, ⟨HF.out⟩⟩
      case round =>
        clear HP HF HM
        obtain ⟨acc, x, a_, e_, rfl, HI, HA, HO8, HP, HF⟩ := hrel
        obtain ⟨Ao8, co8, eo8⟩ := Kd.R_slice HO8.out
        subst eo8
        have q2 := HP.out.c2
        cases gk with
        | zero =>
          have c2 : decide (x < t1) = false := decide_eq_false (by have := HI.out; omega)
          have hA := HA.out
          unfold manyL at hA
          simp only [Option.some.injEq, Prod.mk.injEq] at hA
          obtain ⟨rfl, rfl, rfl⟩ := hA
          clear HA
          go_wp2
          go_ret
          exact ⟨_, rfl, HO8.out, HP.out, HF.out⟩
        | succ k1 =>
          have c2 : decide (x < t1) = true := decide_eq_true (by have := HI.out; omega)
          have hA := HA.out
          unfold manyL at hA
          clear HA
          by_cases c3 : e_ = 0
          rotate_left
          · rw [if_neg c3] at hA
            simp only [Option.some.injEq, Prod.mk.injEq] at hA
            obtain ⟨rfl, rfl, rfl⟩ := hA
            have c3a : (e_ == 0) = false := beq_eq_false_iff_ne.mpr c3
            have c3b : (e_ != 0) = true := bne_iff_ne.mpr c3
            clear c3
            go_wp2
            go_ret
            exact ⟨_, rfl, HO8.out, HP.out, HF.out⟩
          rw [if_pos c3] at hA
          subst c3
          obtain ⟨⟨x_, a2, e2⟩, h2, hA⟩ := Option.bind_eq_some_iff.mp hA
          have H2 := Aside0.mk h2
          have HA := Aside0.mk hA
          clear h2 hA
          have hw : wrap64 (x + 1) = x + 1 := by have := HI.out; have := C1.out; unfold wrap64; omega
          have HW := Aside0.mk hw
          clear hw
          obtain ⟨B, hB⟩ : ∃ B_ : Nat, B_ = wr.heap.size := ⟨_, rfl⟩
          have LT8 := Aside0.mk (show ∀ k, (Value.slice Ao8 acc.length co8).ownBlock = some k → k < B by rw [hB]; exact Kd.R_lt HO8.out)
          have LW := Aside0.mk (show w.heap.size ≤ B by rw [hB]; exact HF.out.size)
          go_wp2_with (first | (go_at_call 45; (with_reducible refine (sig_ok w0 b Ab cb g a_ 0 x_ a2 e2 _ ?s1 H2.out).mono ?_); (case s1 => exact HP.out); rintro y w3 ⟨v, rfl, ho, hp, hf⟩; obtain ⟨Ao0, co0, eo0⟩ := Kd.R_slice ho; subst eo0; rw [← hB] at ho; have HR0 := Aside0.mk ho; clear ho; have n0_ := Aside0.mk hp; have n1_ := Aside0.mk (HF.out.trans hf); have n2_ := Aside0.mk (R_but HO8.out LG.out hf); clear HP HF HO8 hp hf q2; have HP := n0_; have HF := n1_; have HO8 := n2_; clear n0_ n1_ n2_) | ((with_reducible refine gate_builtin (b := .append) (xs := #[.tmp 37, .tmp 40]) rfl ?_); at_builtin; refine Kd.R_append k66 (w0 := w3) w.heap.size rfl (.tmp 37) (.tmp 40) 36 66 (.agg #[.slice none 0 0, .int .u8 0, .int .u16 0]) 32 rfl Try.underlying36 minfo66 rfl (by decide) (by omega) _ acc x_ [.slice Ao0 x_.f0.length co0, .int .u8 x_.f1.f0, .int .u16 x_.f1.f1] (fun _ => True) (fun k => B ≤ k) rfl rfl ?aP ?aK (fun _ _ => trivial) ?aO ?aB ?aS ?aL ?_; (case aP => exact k66_mkM _ _ _ x_ (Kd.R_lower (Kd.R_mono (Kd.R_bound HR0.out) (fun k hk => hk.2.1)) LW.out)); (case aK => exact fun k hk => ⟨trivial, fun h_ => absurd (LT8.out k h_.symm) (Nat.not_lt.mpr hk)⟩); (case aO => exact HO8.out); (case aB => exact Below.refl _ _); (case aS => exact HF.out.size); (case aL => have := HI.out; omega); intro v41 w41 ho hb hg hat; have n0_ := Aside0.mk ho; have n1_ := Aside0.mk (HP.out.step LG.out hb); have n2_ := Aside0.mk (HF.out.step (Nat.le_refl _) hb); clear HO8 HP HF HR0; have HO8 := n0_; have HP := n1_; have HF := n2_; clear n0_ n1_ n2_ ho hb hg hat))
          go_roundg k1
          case measure => omega
          case rel => exact ⟨acc ++ [x_], x + 1, a2, e2, by rw [HW.out], ⟨by have := HI.out; simp only [List.length_append, List.length_cons, List.length_nil]; omega⟩, HA, ⟨HO8.out⟩, ⟨HP.out⟩, ⟨HF.out⟩⟩
/-- reader.class. -/
def classG (b : List Int) (at_ e : Int) : Option (S38 × Int × Int) := (num b 1 at_ e).bind fun f => if Go.bits .and .u8 (f.1 % 256) 1 = 0 then ((wordG b f.2.1 f.2.2).bind fun s => (manyG (ifaceG b) b 16 s.2.1 s.2.2).bind fun i => (manyG (by44 b) b 255 i.2.1 i.2.2).bind fun t => (manyG (wordG b) b 255 t.2.1 t.2.2).bind fun v => if v.2.2 = 0 then (class_May.f (f.1 % 256) s.1 i.1 t.1 v.1 []).bind fun m => some ((⟨(f.1 % 256), s.1, i.1, t.1, v.1, []⟩ : S38), v.2.1, if m = true then 0 else 5) else some ((⟨(f.1 % 256), s.1, i.1, t.1, v.1, []⟩ : S38), v.2.1, v.2.2)) else ((manyG (by66 b) b 255 f.2.1 f.2.2).bind fun s => if s.2.2 = 0 then (class_May.f (f.1 % 256) 65535 [] [] [] s.1).bind fun m => some ((⟨(f.1 % 256), 65535, [], [], [], s.1⟩ : S38), s.2.1, if m = true then 0 else 5) else some ((⟨(f.1 % 256), 65535, [], [], [], s.1⟩ : S38), s.2.1, s.2.2))
set_option maxHeartbeats 16000000 in
set_option maxRecDepth 100000 in
theorem class_ok (w0 : World) (b : List Int) (Ab : Option Addr) (cb g : Nat) (at_ e : Int) (x : S38) (at' e' : Int) (w : World) (h : Pl w0 b Ab cb w g at_ e) (hn : classG b at_ e = some (x, at', e')) :
    Calls Try.prog 22 #[.agg #[.pointer (some ⟨g, 0, none⟩)]] w fun y w' => ∃ v2 v3 v4 v5 : Value, y = .returned (.agg #[.int .u8 x.f0, .int .u16 x.f1, v2, v3, v4, v5]) ∧ Kd.R k41r 41 w' w.heap.size (fun _ => True) v2 x.f2 ∧ Kd.R k44 44 w' w.heap.size (fun _ => True) v3 x.f3 ∧ Kd.R (Kd.int .u16) 23 w' w.heap.size (fun _ => True) v4 x.f4 ∧ Kd.R k66 66 w' w.heap.size (fun _ => True) v5 x.f5 ∧ Pl w0 b Ab cb w' g at' e' ∧ But g w w' := by
  have HP := Aside0.mk h
  have HF := Aside0.mk (But.refl g w)
  clear h
  have hu57 := Try.underlying57
  have hu38 := Try.underlying38
  unfold classG at hn
  obtain ⟨⟨t1, at1, e1⟩, h1, hn⟩ := Option.bind_eq_some_iff.mp hn
  have H1 := Aside0.mk h1
  clear h1
  by_cases c1 : Go.bits .and .u8 (t1 % 256) 1 = 0
  · rw [if_pos c1] at hn
    have c1a : (Go.bits .and .u8 (t1 % 256) 1 == 0) = true := beq_iff_eq.mpr c1
    have c1b : (Go.bits .and .u8 (t1 % 256) 1 != 0) = false := bne_eq_false_iff_eq.mpr c1
    clear c1
    obtain ⟨⟨s1, at2, e2⟩, h1, hn⟩ := Option.bind_eq_some_iff.mp hn
    have HS := Aside0.mk h1
    clear h1
    obtain ⟨⟨li, at3, e3⟩, h1, hn⟩ := Option.bind_eq_some_iff.mp hn
    have HI := Aside0.mk h1
    clear h1
    obtain ⟨⟨lt, at4, e4⟩, h1, hn⟩ := Option.bind_eq_some_iff.mp hn
    have HT := Aside0.mk h1
    clear h1
    obtain ⟨⟨lv, at5, e5⟩, h1, hn⟩ := Option.bind_eq_some_iff.mp hn
    have HV := Aside0.mk h1
    clear h1
    replace hn : (if e5 = 0 then (class_May.f (t1 % 256) s1 li lt lv []).bind fun m => some ((⟨(t1 % 256), s1, li, lt, lv, []⟩ : S38), at5, if m = true then 0 else 5) else some ((⟨(t1 % 256), s1, li, lt, lv, []⟩ : S38), at5, e5)) = some (x, at', e') := hn
    have HN := Aside0.mk hn
    clear hn
    go_enter Try.func22, Try.ntmps22
    go_upto_region 2 with (first | ((with_reducible refine gate_dst (N := 1) rfl ?_); refine zbox (N := 1) (cs := #[.pointer (some ⟨g, 0, none⟩)]) (t := 57) ?_; intro n1 hg w1 hbox hb; have G1 := Aside0.mk (show w.heap.size ≤ n1 by rw [hg]; exact HF.out.size); have NG1 := Aside0.mk (show g ≠ n1 by rw [hg]; exact Nat.ne_of_lt HP.out.lt); have Z1 := Aside0.mk (show w0.heap.size ≤ n1 by rw [hg]; exact HP.out.fr.size); have n0_ := Aside0.mk (HP.out.below hb); have n1_ := Aside0.mk (HF.out.below hb); have B1 := Aside0.mk hbox; clear HP HF hb hg hbox; have HP := n0_; have HF := n1_; clear n0_ n1_; have p1 : w1.cell? ⟨n1, 0, none⟩ = some (.pointer (some ⟨g, 0, none⟩)) := (blk_cell B1.out 0).trans rfl) | ((with_reducible refine gate_dst (N := 2) rfl ?_); refine zbox (N := 2) (cs := #[.int .u8 0, .int .u16 0, .slice none 0 0, .slice none 0 0, .slice none 0 0, .slice none 0 0]) (t := 38) ?_; intro n2 hg w2 hbox hb; have o1_ := Aside0.mk (show n1 ≠ n2 by rw [hg]; exact Nat.ne_of_lt (blk_lt B1.out)); have nb1 := Aside0.mk (blk_below B1.out hb); clear B1; have B1 := nb1; clear nb1; have N12 := o1_; clear o1_; have G2 := Aside0.mk (show w.heap.size ≤ n2 by rw [hg]; exact HF.out.size); have NG2 := Aside0.mk (show g ≠ n2 by rw [hg]; exact Nat.ne_of_lt HP.out.lt); have Z2 := Aside0.mk (show w0.heap.size ≤ n2 by rw [hg]; exact HP.out.fr.size); have n0_ := Aside0.mk (HP.out.below hb); have n1_ := Aside0.mk (HF.out.below hb); have B2 := Aside0.mk hbox; clear HP HF hb hg hbox; have HP := n0_; have HF := n1_; clear n0_ n1_; clear p1; have p1 : w2.cell? ⟨n1, 0, none⟩ = some (.pointer (some ⟨g, 0, none⟩)) := (blk_cell B1.out 0).trans rfl) | (go_at_call 43; (with_reducible refine (number_ok w0 b Ab cb g at_ e 1 t1 at1 e1 _ ?s1 H1.out).mono ?_); (case s1 => exact HP.out); rintro y w3 ⟨rfl, hp, hf⟩; have n1b_ := Aside0.mk (blk_but B1.out NG1.out.symm hf); have n2_ := Aside0.mk (blk_but B2.out NG2.out.symm hf); have n0_ := Aside0.mk hp; have n1_ := Aside0.mk (HF.out.trans hf); clear HP HF hp hf B1 B2 p1; have HP := n0_; have HF := n1_; have B1 := n1b_; have B2 := n2_; clear n0_ n1_ n2_ n1b_; have p1 : w3.cell? ⟨n1, 0, none⟩ = some (.pointer (some ⟨g, 0, none⟩)) := (blk_cell B1.out 0).trans rfl) | ((with_reducible refine gate_dst (N := 3) rfl ?_); refine zbox (N := 3) (cs := #[.int .u8 0, .int .u16 0, .slice none 0 0, .slice none 0 0, .slice none 0 0, .slice none 0 0]) (t := 38) ?_; intro n3 hg w4 hbox hb; have o1_ := Aside0.mk (show n1 ≠ n3 by rw [hg]; exact Nat.ne_of_lt (blk_lt B1.out)); have nb1 := Aside0.mk (blk_below B1.out hb); clear B1; have B1 := nb1; clear nb1; have N13 := o1_; clear o1_; have o2_ := Aside0.mk (show n2 ≠ n3 by rw [hg]; exact Nat.ne_of_lt (blk_lt B2.out)); have nb2 := Aside0.mk (blk_below B2.out hb); clear B2; have B2 := nb2; clear nb2; have N23 := o2_; clear o2_; have G3 := Aside0.mk (show w.heap.size ≤ n3 by rw [hg]; exact HF.out.size); have NG3 := Aside0.mk (show g ≠ n3 by rw [hg]; exact Nat.ne_of_lt HP.out.lt); have Z3 := Aside0.mk (show w0.heap.size ≤ n3 by rw [hg]; exact HP.out.fr.size); have n0_ := Aside0.mk (HP.out.below hb); have n1_ := Aside0.mk (HF.out.below hb); have B3 := Aside0.mk hbox; clear HP HF hb hg hbox; have HP := n0_; have HF := n1_; clear n0_ n1_; clear p1; have p1 : w4.cell? ⟨n1, 0, none⟩ = some (.pointer (some ⟨g, 0, none⟩)) := (blk_cell B1.out 0).trans rfl; obtain ⟨q30, q31, q32, q33, q34, q35⟩ := cells6 B3.out; obtain ⟨f30, f31, f32, f33, f34, f35⟩ := froz6 B3.out))
    obtain ⟨w5, hw5⟩ : ∃ W_ : World, W_ = ((((((w4.setCell ⟨n3, 0, none⟩ (.int .u8 (t1 % 256))).setCell ⟨n3, 1, none⟩ (.int .u16 65535)).setCell ⟨n3, 2, none⟩ (.slice none 0 0)).setCell ⟨n3, 3, none⟩ (.slice none 0 0)).setCell ⟨n3, 4, none⟩ (.slice none 0 0)).setCell ⟨n3, 5, none⟩ (.slice none 0 0)) := ⟨_, rfl⟩
    rw [← hw5]
    have n0_ := Aside0.mk (show Pl w0 b Ab cb w5 g at1 e1 by rw [hw5]; repeat (with_reducible first | exact HP.out | refine Pl.setNew ?_ NG1.out Z1.out _ _ | refine Pl.setNew ?_ NG2.out Z2.out _ _ | refine Pl.setNew ?_ NG3.out Z3.out _ _ | refine Pl.drew ?_))
    have n1_ := Aside0.mk (show But g w w5 by rw [hw5]; repeat (with_reducible first | exact HF.out | refine But.set ?_ _ _ | refine But.setNew ?_ G1.out _ _ | refine But.setNew ?_ G2.out _ _ | refine But.setNew ?_ G3.out _ _ | refine But.drew ?_))
    have n1b_ := Aside0.mk (show w5.heap[n1]? = some (.cells #[.pointer (some ⟨g, 0, none⟩)] 57 (0, 0)) by rw [hw5]; repeat (with_reducible first | exact B1.out | refine blk_far (p := ⟨n3, _, none⟩) ?_ N13.out _))
    have n2b_ := Aside0.mk (show w5.heap[n2]? = some (.cells #[.int .u8 0, .int .u16 0, .slice none 0 0, .slice none 0 0, .slice none 0 0, .slice none 0 0] 38 (0, 0)) by rw [hw5]; repeat (with_reducible first | exact B2.out | refine blk_far (p := ⟨n3, _, none⟩) ?_ N23.out _))
    have n3b_ := Aside0.mk (show w5.heap[n3]? = some (.cells #[.int .u8 (t1 % 256), .int .u16 65535, .slice none 0 0, .slice none 0 0, .slice none 0 0, .slice none 0 0] 38 (0, 0)) by rw [hw5]; exact (blk_set (blk_set (blk_set (blk_set (blk_set (blk_set B3.out 0 _) 1 _) 2 _) 3 _) 4 _) 5 _).trans rfl)
    clear HP HF B1 B2 B3 hw5
    try clear p1
    try clear q30 f30 q31 f31 q32 f32 q33 f33 q34 f34 q35 f35
    have HP := n0_
    have HF := n1_
    have B1 := n1b_
    have B2 := n2b_
    have B3 := n3b_
    clear n0_ n1_ n1b_ n2b_ n3b_
    have p1 : w5.cell? ⟨n1, 0, none⟩ = some (.pointer (some ⟨g, 0, none⟩)) := (blk_cell B1.out 0).trans rfl
    obtain ⟨q30, q31, q32, q33, q34, q35⟩ := cells6 B3.out
    obtain ⟨f30, f31, f32, f33, f34, f35⟩ := froz6 B3.out
    go_upto_region 5 with (first | (go_at_call 46; (with_reducible refine (word_ok w0 b Ab cb g at1 e1 s1 at2 e2 _ ?s1 HS.out).mono ?_); (case s1 => exact HP.out); rintro y w6 ⟨rfl, hp, hf⟩; have n1b_ := Aside0.mk (blk_but B1.out NG1.out.symm hf); have n2b_ := Aside0.mk (blk_but B2.out NG2.out.symm hf); have n3b_ := Aside0.mk (blk_but B3.out NG3.out.symm hf); have n0_ := Aside0.mk hp; have n1_ := Aside0.mk (HF.out.trans hf); clear HP HF hp hf B1 B2 B3 p1 q30 f30 q31 f31 q32 f32 q33 f33 q34 f34 q35 f35; have HP := n0_; have HF := n1_; have B1 := n1b_; have B2 := n2b_; have B3 := n3b_; clear n0_ n1_ n1b_ n2b_ n3b_; have p1 : w6.cell? ⟨n1, 0, none⟩ = some (.pointer (some ⟨g, 0, none⟩)) := (blk_cell B1.out 0).trans rfl; obtain ⟨q30, q31, q32, q33, q34, q35⟩ := cells6 B3.out; obtain ⟨f30, f31, f32, f33, f34, f35⟩ := froz6 B3.out))
    obtain ⟨w6s, hw6s⟩ : ∃ W_ : World, W_ = (w6.setCell ⟨n3, 1, none⟩ (.int .u16 s1)) := ⟨_, rfl⟩
    rw [← hw6s]
    have n0_ := Aside0.mk (show Pl w0 b Ab cb w6s g at2 e2 by rw [hw6s]; repeat (with_reducible first | exact HP.out | refine Pl.setNew ?_ NG1.out Z1.out _ _ | refine Pl.setNew ?_ NG2.out Z2.out _ _ | refine Pl.setNew ?_ NG3.out Z3.out _ _ | refine Pl.drew ?_))
    have n1_ := Aside0.mk (show But g w w6s by rw [hw6s]; repeat (with_reducible first | exact HF.out | refine But.set ?_ _ _ | refine But.setNew ?_ G1.out _ _ | refine But.setNew ?_ G2.out _ _ | refine But.setNew ?_ G3.out _ _ | refine But.drew ?_))
    have n1b_ := Aside0.mk (show w6s.heap[n1]? = some (.cells #[.pointer (some ⟨g, 0, none⟩)] 57 (0, 0)) by rw [hw6s]; repeat (with_reducible first | exact B1.out | refine blk_far (p := ⟨n3, _, none⟩) ?_ N13.out _))
    have n2b_ := Aside0.mk (show w6s.heap[n2]? = some (.cells #[.int .u8 0, .int .u16 0, .slice none 0 0, .slice none 0 0, .slice none 0 0, .slice none 0 0] 38 (0, 0)) by rw [hw6s]; repeat (with_reducible first | exact B2.out | refine blk_far (p := ⟨n3, _, none⟩) ?_ N23.out _))
    have n3b_ := Aside0.mk (show w6s.heap[n3]? = some (.cells #[.int .u8 (t1 % 256), .int .u16 s1, .slice none 0 0, .slice none 0 0, .slice none 0 0, .slice none 0 0] 38 (0, 0)) by rw [hw6s]; exact (blk_set B3.out 1 _).trans rfl)
    clear HP HF B1 B2 B3 hw6s
    try clear p1
    try clear q30 f30 q31 f31 q32 f32 q33 f33 q34 f34 q35 f35
    have HP := n0_
    have HF := n1_
    have B1 := n1b_
    have B2 := n2b_
    have B3 := n3b_
    clear n0_ n1_ n1b_ n2b_ n3b_
    have p1 : w6s.cell? ⟨n1, 0, none⟩ = some (.pointer (some ⟨g, 0, none⟩)) := (blk_cell B1.out 0).trans rfl
    obtain ⟨q30, q31, q32, q33, q34, q35⟩ := cells6 B3.out
    obtain ⟨f30, f31, f32, f33, f34, f35⟩ := froz6 B3.out
    obtain ⟨B2_, hB2_⟩ : ∃ B_ : Nat, B_ = w6s.heap.size := ⟨_, rfl⟩
    have LGB2_ := Aside0.mk (show g < B2_ by rw [hB2_]; exact HP.out.lt)
    have L2B2_ := Aside0.mk (show n2 < B2_ by rw [hB2_]; exact blk_lt B2.out)
    have L3B2_ := Aside0.mk (show n3 < B2_ by rw [hB2_]; exact blk_lt B3.out)
    have LWB2_ := Aside0.mk (show w.heap.size ≤ B2_ by rw [hB2_]; exact HF.out.size)
    go_upto_region 6 with (first | (go_at_call 47; (with_reducible refine (many41_ok w0 b Ab cb g at2 e2 16 li at3 e3 _ ?s1 HI.out).mono ?_); (case s1 => exact HP.out); rintro y w7 ⟨v, rfl, ho, hp, hf⟩; rw [← hB2_] at ho; obtain ⟨AoB2_, coB2_, eoB2_⟩ := Kd.R_slice ho; subst eoB2_; have HR2 := Aside0.mk ho; clear ho; have n1b_ := Aside0.mk (blk_but B1.out NG1.out.symm hf); have n2b_ := Aside0.mk (blk_but B2.out NG2.out.symm hf); have n3b_ := Aside0.mk (blk_but B3.out NG3.out.symm hf); have n0_ := Aside0.mk hp; have n1_ := Aside0.mk (HF.out.trans hf); clear HP HF hp hf B1 B2 B3 p1 q30 f30 q31 f31 q32 f32 q33 f33 q34 f34 q35 f35; have HP := n0_; have HF := n1_; have B1 := n1b_; have B2 := n2b_; have B3 := n3b_; clear n0_ n1_ n1b_ n2b_ n3b_; have p1 : w7.cell? ⟨n1, 0, none⟩ = some (.pointer (some ⟨g, 0, none⟩)) := (blk_cell B1.out 0).trans rfl; obtain ⟨q30, q31, q32, q33, q34, q35⟩ := cells6 B3.out; obtain ⟨f30, f31, f32, f33, f34, f35⟩ := froz6 B3.out))
    obtain ⟨w7s, hw7s⟩ : ∃ W_ : World, W_ = (w7.setCell ⟨n3, 2, none⟩ (.slice AoB2_ li.length coB2_)) := ⟨_, rfl⟩
    rw [← hw7s]
    have n0_ := Aside0.mk (show Pl w0 b Ab cb w7s g at3 e3 by rw [hw7s]; repeat (with_reducible first | exact HP.out | refine Pl.setNew ?_ NG1.out Z1.out _ _ | refine Pl.setNew ?_ NG2.out Z2.out _ _ | refine Pl.setNew ?_ NG3.out Z3.out _ _ | refine Pl.drew ?_))
    have n1_ := Aside0.mk (show But g w w7s by rw [hw7s]; repeat (with_reducible first | exact HF.out | refine But.set ?_ _ _ | refine But.setNew ?_ G1.out _ _ | refine But.setNew ?_ G2.out _ _ | refine But.setNew ?_ G3.out _ _ | refine But.drew ?_))
    have n1b_ := Aside0.mk (show w7s.heap[n1]? = some (.cells #[.pointer (some ⟨g, 0, none⟩)] 57 (0, 0)) by rw [hw7s]; repeat (with_reducible first | exact B1.out | refine blk_far (p := ⟨n3, _, none⟩) ?_ N13.out _))
    have n2b_ := Aside0.mk (show w7s.heap[n2]? = some (.cells #[.int .u8 0, .int .u16 0, .slice none 0 0, .slice none 0 0, .slice none 0 0, .slice none 0 0] 38 (0, 0)) by rw [hw7s]; repeat (with_reducible first | exact B2.out | refine blk_far (p := ⟨n3, _, none⟩) ?_ N23.out _))
    have n3b_ := Aside0.mk (show w7s.heap[n3]? = some (.cells #[.int .u8 (t1 % 256), .int .u16 s1, .slice AoB2_ li.length coB2_, .slice none 0 0, .slice none 0 0, .slice none 0 0] 38 (0, 0)) by rw [hw7s]; exact (blk_set B3.out 2 _).trans rfl)
    have mHR2_ := Aside0.mk (show Kd.R k41r 41 w7s B2_ (fun _ => True) (.slice AoB2_ li.length coB2_) li by rw [hw7s]; repeat (with_reducible first | exact HR2.out | refine R_setold ?_ L3B2_.out _ _))
    clear HP HF B1 B2 B3 hw7s HR2
    try clear p1
    try clear q30 f30 q31 f31 q32 f32 q33 f33 q34 f34 q35 f35
    have HP := n0_
    have HF := n1_
    have B1 := n1b_
    have B2 := n2b_
    have B3 := n3b_
    have HR2 := mHR2_
    clear n0_ n1_ n1b_ n2b_ n3b_ mHR2_
    have p1 : w7s.cell? ⟨n1, 0, none⟩ = some (.pointer (some ⟨g, 0, none⟩)) := (blk_cell B1.out 0).trans rfl
    obtain ⟨q30, q31, q32, q33, q34, q35⟩ := cells6 B3.out
    obtain ⟨f30, f31, f32, f33, f34, f35⟩ := froz6 B3.out
    obtain ⟨B3_, hB3_⟩ : ∃ B_ : Nat, B_ = w7s.heap.size := ⟨_, rfl⟩
    have LGB3_ := Aside0.mk (show g < B3_ by rw [hB3_]; exact HP.out.lt)
    have L2B3_ := Aside0.mk (show n2 < B3_ by rw [hB3_]; exact blk_lt B2.out)
    have L3B3_ := Aside0.mk (show n3 < B3_ by rw [hB3_]; exact blk_lt B3.out)
    have LWB3_ := Aside0.mk (show w.heap.size ≤ B3_ by rw [hB3_]; exact HF.out.size)
    go_upto_region 7 with (first | (go_at_call 49; (with_reducible refine (many44_ok w0 b Ab cb g at3 e3 255 lt at4 e4 _ ?s1 HT.out).mono ?_); (case s1 => exact HP.out); rintro y w8 ⟨v, rfl, ho, hp, hf⟩; rw [← hB3_] at ho; obtain ⟨AoB3_, coB3_, eoB3_⟩ := Kd.R_slice ho; subst eoB3_; have HR3 := Aside0.mk ho; clear ho; have n1b_ := Aside0.mk (blk_but B1.out NG1.out.symm hf); have n2b_ := Aside0.mk (blk_but B2.out NG2.out.symm hf); have n3b_ := Aside0.mk (blk_but B3.out NG3.out.symm hf); have mHR2_ := Aside0.mk (R_but HR2.out LGB2_.out hf); have n0_ := Aside0.mk hp; have n1_ := Aside0.mk (HF.out.trans hf); clear HP HF hp hf B1 B2 B3 p1 q30 f30 q31 f31 q32 f32 q33 f33 q34 f34 q35 f35 HR2; have HP := n0_; have HF := n1_; have B1 := n1b_; have B2 := n2b_; have B3 := n3b_; have HR2 := mHR2_; clear n0_ n1_ n1b_ n2b_ n3b_ mHR2_; have p1 : w8.cell? ⟨n1, 0, none⟩ = some (.pointer (some ⟨g, 0, none⟩)) := (blk_cell B1.out 0).trans rfl; obtain ⟨q30, q31, q32, q33, q34, q35⟩ := cells6 B3.out; obtain ⟨f30, f31, f32, f33, f34, f35⟩ := froz6 B3.out))
    obtain ⟨w8s, hw8s⟩ : ∃ W_ : World, W_ = (w8.setCell ⟨n3, 3, none⟩ (.slice AoB3_ lt.length coB3_)) := ⟨_, rfl⟩
    rw [← hw8s]
    have n0_ := Aside0.mk (show Pl w0 b Ab cb w8s g at4 e4 by rw [hw8s]; repeat (with_reducible first | exact HP.out | refine Pl.setNew ?_ NG1.out Z1.out _ _ | refine Pl.setNew ?_ NG2.out Z2.out _ _ | refine Pl.setNew ?_ NG3.out Z3.out _ _ | refine Pl.drew ?_))
    have n1_ := Aside0.mk (show But g w w8s by rw [hw8s]; repeat (with_reducible first | exact HF.out | refine But.set ?_ _ _ | refine But.setNew ?_ G1.out _ _ | refine But.setNew ?_ G2.out _ _ | refine But.setNew ?_ G3.out _ _ | refine But.drew ?_))
    have n1b_ := Aside0.mk (show w8s.heap[n1]? = some (.cells #[.pointer (some ⟨g, 0, none⟩)] 57 (0, 0)) by rw [hw8s]; repeat (with_reducible first | exact B1.out | refine blk_far (p := ⟨n3, _, none⟩) ?_ N13.out _))
    have n2b_ := Aside0.mk (show w8s.heap[n2]? = some (.cells #[.int .u8 0, .int .u16 0, .slice none 0 0, .slice none 0 0, .slice none 0 0, .slice none 0 0] 38 (0, 0)) by rw [hw8s]; repeat (with_reducible first | exact B2.out | refine blk_far (p := ⟨n3, _, none⟩) ?_ N23.out _))
    have n3b_ := Aside0.mk (show w8s.heap[n3]? = some (.cells #[.int .u8 (t1 % 256), .int .u16 s1, .slice AoB2_ li.length coB2_, .slice AoB3_ lt.length coB3_, .slice none 0 0, .slice none 0 0] 38 (0, 0)) by rw [hw8s]; exact (blk_set B3.out 3 _).trans rfl)
    have mHR2_ := Aside0.mk (show Kd.R k41r 41 w8s B2_ (fun _ => True) (.slice AoB2_ li.length coB2_) li by rw [hw8s]; repeat (with_reducible first | exact HR2.out | refine R_setold ?_ L3B2_.out _ _))
    have mHR3_ := Aside0.mk (show Kd.R k44 44 w8s B3_ (fun _ => True) (.slice AoB3_ lt.length coB3_) lt by rw [hw8s]; repeat (with_reducible first | exact HR3.out | refine R_setold ?_ L3B3_.out _ _))
    clear HP HF B1 B2 B3 hw8s HR2 HR3
    try clear p1
    try clear q30 f30 q31 f31 q32 f32 q33 f33 q34 f34 q35 f35
    have HP := n0_
    have HF := n1_
    have B1 := n1b_
    have B2 := n2b_
    have B3 := n3b_
    have HR2 := mHR2_
    have HR3 := mHR3_
    clear n0_ n1_ n1b_ n2b_ n3b_ mHR2_ mHR3_
    have p1 : w8s.cell? ⟨n1, 0, none⟩ = some (.pointer (some ⟨g, 0, none⟩)) := (blk_cell B1.out 0).trans rfl
    obtain ⟨q30, q31, q32, q33, q34, q35⟩ := cells6 B3.out
    obtain ⟨f30, f31, f32, f33, f34, f35⟩ := froz6 B3.out
    obtain ⟨B4_, hB4_⟩ : ∃ B_ : Nat, B_ = w8s.heap.size := ⟨_, rfl⟩
    have LGB4_ := Aside0.mk (show g < B4_ by rw [hB4_]; exact HP.out.lt)
    have L2B4_ := Aside0.mk (show n2 < B4_ by rw [hB4_]; exact blk_lt B2.out)
    have L3B4_ := Aside0.mk (show n3 < B4_ by rw [hB4_]; exact blk_lt B3.out)
    have LWB4_ := Aside0.mk (show w.heap.size ≤ B4_ by rw [hB4_]; exact HF.out.size)
    go_upto_region 8 with (first | (go_at_call 51; (with_reducible refine (many23_ok w0 b Ab cb g at4 e4 255 lv at5 e5 _ ?s1 HV.out).mono ?_); (case s1 => exact HP.out); rintro y w8b ⟨v, rfl, ho, hp, hf⟩; rw [← hB4_] at ho; obtain ⟨AoB4_, coB4_, eoB4_⟩ := Kd.R_slice ho; subst eoB4_; have HR4 := Aside0.mk ho; clear ho; have n1b_ := Aside0.mk (blk_but B1.out NG1.out.symm hf); have n2b_ := Aside0.mk (blk_but B2.out NG2.out.symm hf); have n3b_ := Aside0.mk (blk_but B3.out NG3.out.symm hf); have mHR2_ := Aside0.mk (R_but HR2.out LGB2_.out hf); have mHR3_ := Aside0.mk (R_but HR3.out LGB3_.out hf); have n0_ := Aside0.mk hp; have n1_ := Aside0.mk (HF.out.trans hf); clear HP HF hp hf B1 B2 B3 p1 q30 f30 q31 f31 q32 f32 q33 f33 q34 f34 q35 f35 HR2 HR3; have HP := n0_; have HF := n1_; have B1 := n1b_; have B2 := n2b_; have B3 := n3b_; have HR2 := mHR2_; have HR3 := mHR3_; clear n0_ n1_ n1b_ n2b_ n3b_ mHR2_ mHR3_; have p1 : w8b.cell? ⟨n1, 0, none⟩ = some (.pointer (some ⟨g, 0, none⟩)) := (blk_cell B1.out 0).trans rfl; obtain ⟨q30, q31, q32, q33, q34, q35⟩ := cells6 B3.out; obtain ⟨f30, f31, f32, f33, f34, f35⟩ := froz6 B3.out))
    obtain ⟨w8bs, hw8bs⟩ : ∃ W_ : World, W_ = (w8b.setCell ⟨n3, 4, none⟩ (.slice AoB4_ lv.length coB4_)) := ⟨_, rfl⟩
    rw [← hw8bs]
    have n0_ := Aside0.mk (show Pl w0 b Ab cb w8bs g at5 e5 by rw [hw8bs]; repeat (with_reducible first | exact HP.out | refine Pl.setNew ?_ NG1.out Z1.out _ _ | refine Pl.setNew ?_ NG2.out Z2.out _ _ | refine Pl.setNew ?_ NG3.out Z3.out _ _ | refine Pl.drew ?_))
    have n1_ := Aside0.mk (show But g w w8bs by rw [hw8bs]; repeat (with_reducible first | exact HF.out | refine But.set ?_ _ _ | refine But.setNew ?_ G1.out _ _ | refine But.setNew ?_ G2.out _ _ | refine But.setNew ?_ G3.out _ _ | refine But.drew ?_))
    have n1b_ := Aside0.mk (show w8bs.heap[n1]? = some (.cells #[.pointer (some ⟨g, 0, none⟩)] 57 (0, 0)) by rw [hw8bs]; repeat (with_reducible first | exact B1.out | refine blk_far (p := ⟨n3, _, none⟩) ?_ N13.out _))
    have n2b_ := Aside0.mk (show w8bs.heap[n2]? = some (.cells #[.int .u8 0, .int .u16 0, .slice none 0 0, .slice none 0 0, .slice none 0 0, .slice none 0 0] 38 (0, 0)) by rw [hw8bs]; repeat (with_reducible first | exact B2.out | refine blk_far (p := ⟨n3, _, none⟩) ?_ N23.out _))
    have n3b_ := Aside0.mk (show w8bs.heap[n3]? = some (.cells #[.int .u8 (t1 % 256), .int .u16 s1, .slice AoB2_ li.length coB2_, .slice AoB3_ lt.length coB3_, .slice AoB4_ lv.length coB4_, .slice none 0 0] 38 (0, 0)) by rw [hw8bs]; exact (blk_set B3.out 4 _).trans rfl)
    have mHR2_ := Aside0.mk (show Kd.R k41r 41 w8bs B2_ (fun _ => True) (.slice AoB2_ li.length coB2_) li by rw [hw8bs]; repeat (with_reducible first | exact HR2.out | refine R_setold ?_ L3B2_.out _ _))
    have mHR3_ := Aside0.mk (show Kd.R k44 44 w8bs B3_ (fun _ => True) (.slice AoB3_ lt.length coB3_) lt by rw [hw8bs]; repeat (with_reducible first | exact HR3.out | refine R_setold ?_ L3B3_.out _ _))
    have mHR4_ := Aside0.mk (show Kd.R (Kd.int .u16) 23 w8bs B4_ (fun _ => True) (.slice AoB4_ lv.length coB4_) lv by rw [hw8bs]; repeat (with_reducible first | exact HR4.out | refine R_setold ?_ L3B4_.out _ _))
    clear HP HF B1 B2 B3 hw8bs HR2 HR3 HR4
    try clear p1
    try clear q30 f30 q31 f31 q32 f32 q33 f33 q34 f34 q35 f35
    have HP := n0_
    have HF := n1_
    have B1 := n1b_
    have B2 := n2b_
    have B3 := n3b_
    have HR2 := mHR2_
    have HR3 := mHR3_
    have HR4 := mHR4_
    clear n0_ n1_ n1b_ n2b_ n3b_ mHR2_ mHR3_ mHR4_
    try clear c1a c1b
    have hn := HN.out
    clear HN
    by_cases c5 : e5 = 0
    rotate_left
    · rw [if_neg c5] at hn
      simp only [Option.some.injEq, Prod.mk.injEq] at hn
      obtain ⟨rfl, rfl, rfl⟩ := hn
      have c5a : (e5 == 0) = false := beq_eq_false_iff_ne.mpr c5
      have c5b : (e5 != 0) = true := bne_iff_ne.mpr c5
      clear c5
      have p1 : w8bs.cell? ⟨n1, 0, none⟩ = some (.pointer (some ⟨g, 0, none⟩)) := (blk_cell B1.out 0).trans rfl
      obtain ⟨q30, q31, q32, q33, q34, q35⟩ := cells6 B3.out
      obtain ⟨f30, f31, f32, f33, f34, f35⟩ := froz6 B3.out
      have q2 := HP.out.c2
      obtain ⟨q20, q21, q22, q23, q24, q25⟩ := cells6 B2.out
      obtain ⟨f20, f21, f22, f23, f24, f25⟩ := froz6 B2.out
      go_wp2
      (try simp only [Exit.inBlock, Exit.then])
      refine bodyPost_ret (results_single rfl (.cell n2 38 #[.int .u8 (t1 % 256), .int .u16 s1, .slice AoB2_ li.length coB2_, .slice AoB3_ lt.length coB3_, .slice AoB4_ lv.length coB4_, .slice none 0 0] (0, 0) _ rfl ((blk_set (blk_set (blk_set (blk_set (blk_set (blk_set B2.out 0 _) 1 _) 2 _) 3 _) 4 _) 5 _).trans rfl) Try.underlying38 rfl (by kernel_rfl) .nil)) rfl ?_
      exact ⟨_, _, _, _, rfl, Kd.R_lower (by repeat (with_reducible first | exact HR2.out | refine R_setold ?_ L2B2_.out _ _)) LWB2_.out, Kd.R_lower (by repeat (with_reducible first | exact HR3.out | refine R_setold ?_ L2B3_.out _ _)) LWB3_.out, Kd.R_lower (by repeat (with_reducible first | exact HR4.out | refine R_setold ?_ L2B4_.out _ _)) LWB4_.out, Kd.R_nil _ _ _ _ _, by repeat (with_reducible first | exact HP.out | refine Pl.setNew ?_ NG1.out Z1.out _ _ | refine Pl.setNew ?_ NG2.out Z2.out _ _ | refine Pl.setNew ?_ NG3.out Z3.out _ _ | refine Pl.drew ?_), by repeat (with_reducible first | exact HF.out | refine But.set ?_ _ _ | refine But.setNew ?_ G1.out _ _ | refine But.setNew ?_ G2.out _ _ | refine But.setNew ?_ G3.out _ _ | refine But.drew ?_)⟩
    rw [if_pos c5] at hn
    obtain ⟨m, hm, hn⟩ := Option.bind_eq_some_iff.mp hn
    have HM := Aside0.mk hm
    simp only [Option.some.injEq, Prod.mk.injEq] at hn
    obtain ⟨rfl, rfl, he_⟩ := hn
    subst c5
    clear hm
    have p1 : w8bs.cell? ⟨n1, 0, none⟩ = some (.pointer (some ⟨g, 0, none⟩)) := (blk_cell B1.out 0).trans rfl
    obtain ⟨q30, q31, q32, q33, q34, q35⟩ := cells6 B3.out
    obtain ⟨f30, f31, f32, f33, f34, f35⟩ := froz6 B3.out
    have q2 := HP.out.c2
    have f2 := HP.out.fz 2
    cases m with
    | true =>
      rw [if_pos rfl] at he_
      subst he_
      go_upto_region 10 with (first | (go_at_call 15; have hm_ := class_May.calls (t1 % 256) s1 AoB2_ coB2_ li AoB3_ coB3_ lt AoB4_ coB4_ lv none 0 [] true w8bs (k41r_C (Kd.R_reads' HR2.out).2.2) (Kd.R_reads' HR2.out).2.1 (Kd.R_reads' HR3.out).2.2 (Kd.R_reads' HR3.out).2.1 (Kd.R_reads' HR4.out).2.2 (Kd.R_reads' HR4.out).2.1 (Kd.C_nil _ _) (Nat.le_refl 0) HM.out; (try simp only [List.length_nil] at hm_); (with_reducible refine hm_.mono ?_); clear hm_; rintro y w9 ⟨rfl, hb⟩; have n1b_ := Aside0.mk (blk_below B1.out hb); have n2b_ := Aside0.mk (blk_below B2.out hb); have n3b_ := Aside0.mk (blk_below B3.out hb); have mHR2_ := Aside0.mk (Kd.R_below HR2.out hb); have mHR3_ := Aside0.mk (Kd.R_below HR3.out hb); have mHR4_ := Aside0.mk (Kd.R_below HR4.out hb); have n0_ := Aside0.mk (HP.out.below hb); have n1_ := Aside0.mk (HF.out.below hb); clear HP HF hb B1 B2 B3 p1 q2 f2 q30 f30 q31 f31 q32 f32 q33 f33 q34 f34 q35 f35 HR2 HR3 HR4; have HP := n0_; have HF := n1_; have B1 := n1b_; have B2 := n2b_; have B3 := n3b_; have HR2 := mHR2_; have HR3 := mHR3_; have HR4 := mHR4_; clear n0_ n1_ n1b_ n2b_ n3b_ mHR2_ mHR3_ mHR4_; have p1 : w9.cell? ⟨n1, 0, none⟩ = some (.pointer (some ⟨g, 0, none⟩)) := (blk_cell B1.out 0).trans rfl; obtain ⟨q30, q31, q32, q33, q34, q35⟩ := cells6 B3.out; obtain ⟨f30, f31, f32, f33, f34, f35⟩ := froz6 B3.out; have q2 := HP.out.c2; have f2 := HP.out.fz 2))
      obtain ⟨q20, q21, q22, q23, q24, q25⟩ := cells6 B2.out
      obtain ⟨f20, f21, f22, f23, f24, f25⟩ := froz6 B2.out
      go_wp2
      (try simp only [Exit.inBlock, Exit.then])
      refine bodyPost_ret (results_single rfl (.cell n2 38 #[.int .u8 (t1 % 256), .int .u16 s1, .slice AoB2_ li.length coB2_, .slice AoB3_ lt.length coB3_, .slice AoB4_ lv.length coB4_, .slice none 0 0] (0, 0) _ rfl ((blk_set (blk_set (blk_set (blk_set (blk_set (blk_set B2.out 0 _) 1 _) 2 _) 3 _) 4 _) 5 _).trans rfl) Try.underlying38 rfl (by kernel_rfl) .nil)) rfl ?_
      exact ⟨_, _, _, _, rfl, Kd.R_lower (by repeat (with_reducible first | exact HR2.out | refine R_setold ?_ L2B2_.out _ _)) LWB2_.out, Kd.R_lower (by repeat (with_reducible first | exact HR3.out | refine R_setold ?_ L2B3_.out _ _)) LWB3_.out, Kd.R_lower (by repeat (with_reducible first | exact HR4.out | refine R_setold ?_ L2B4_.out _ _)) LWB4_.out, Kd.R_nil _ _ _ _ _, by repeat (with_reducible first | exact HP.out | refine Pl.setNew ?_ NG1.out Z1.out _ _ | refine Pl.setNew ?_ NG2.out Z2.out _ _ | refine Pl.setNew ?_ NG3.out Z3.out _ _ | refine Pl.drew ?_), by repeat (with_reducible first | exact HF.out | refine But.set ?_ _ _ | refine But.setNew ?_ G1.out _ _ | refine But.setNew ?_ G2.out _ _ | refine But.setNew ?_ G3.out _ _ | refine But.drew ?_)⟩
    | false =>
      rw [if_neg (by decide)] at he_
      subst he_
      go_upto_region 10 with (first | (go_at_call 15; have hm_ := class_May.calls (t1 % 256) s1 AoB2_ coB2_ li AoB3_ coB3_ lt AoB4_ coB4_ lv none 0 [] false w8bs (k41r_C (Kd.R_reads' HR2.out).2.2) (Kd.R_reads' HR2.out).2.1 (Kd.R_reads' HR3.out).2.2 (Kd.R_reads' HR3.out).2.1 (Kd.R_reads' HR4.out).2.2 (Kd.R_reads' HR4.out).2.1 (Kd.C_nil _ _) (Nat.le_refl 0) HM.out; (try simp only [List.length_nil] at hm_); (with_reducible refine hm_.mono ?_); clear hm_; rintro y w9 ⟨rfl, hb⟩; have n1b_ := Aside0.mk (blk_below B1.out hb); have n2b_ := Aside0.mk (blk_below B2.out hb); have n3b_ := Aside0.mk (blk_below B3.out hb); have mHR2_ := Aside0.mk (Kd.R_below HR2.out hb); have mHR3_ := Aside0.mk (Kd.R_below HR3.out hb); have mHR4_ := Aside0.mk (Kd.R_below HR4.out hb); have n0_ := Aside0.mk (HP.out.below hb); have n1_ := Aside0.mk (HF.out.below hb); clear HP HF hb B1 B2 B3 p1 q2 f2 q30 f30 q31 f31 q32 f32 q33 f33 q34 f34 q35 f35 HR2 HR3 HR4; have HP := n0_; have HF := n1_; have B1 := n1b_; have B2 := n2b_; have B3 := n3b_; have HR2 := mHR2_; have HR3 := mHR3_; have HR4 := mHR4_; clear n0_ n1_ n1b_ n2b_ n3b_ mHR2_ mHR3_ mHR4_; have p1 : w9.cell? ⟨n1, 0, none⟩ = some (.pointer (some ⟨g, 0, none⟩)) := (blk_cell B1.out 0).trans rfl; obtain ⟨q30, q31, q32, q33, q34, q35⟩ := cells6 B3.out; obtain ⟨f30, f31, f32, f33, f34, f35⟩ := froz6 B3.out; have q2 := HP.out.c2; have f2 := HP.out.fz 2))
      clear q2 f2
      obtain ⟨w10, hw10⟩ : ∃ W_ : World, W_ = (w9.setCell ⟨g, 2, none⟩ (.int .i64 5)) := ⟨_, rfl⟩
      rw [← hw10]
      have n0_ := Aside0.mk (show Pl w0 b Ab cb w10 g at5 5 by rw [hw10]; exact HP.out.set2 _)
      have n1_ := Aside0.mk (show But g w w10 by rw [hw10]; repeat (with_reducible first | exact HF.out | refine But.set ?_ _ _ | refine But.setNew ?_ G1.out _ _ | refine But.setNew ?_ G2.out _ _ | refine But.setNew ?_ G3.out _ _ | refine But.drew ?_))
      have n1b_ := Aside0.mk (show w10.heap[n1]? = some (.cells #[.pointer (some ⟨g, 0, none⟩)] 57 (0, 0)) by rw [hw10]; exact blk_far (p := ⟨g, _, none⟩) B1.out NG1.out.symm _)
      have n2b_ := Aside0.mk (show w10.heap[n2]? = some (.cells #[.int .u8 0, .int .u16 0, .slice none 0 0, .slice none 0 0, .slice none 0 0, .slice none 0 0] 38 (0, 0)) by rw [hw10]; exact blk_far (p := ⟨g, _, none⟩) B2.out NG2.out.symm _)
      have n3b_ := Aside0.mk (show w10.heap[n3]? = some (.cells #[.int .u8 (t1 % 256), .int .u16 s1, .slice AoB2_ li.length coB2_, .slice AoB3_ lt.length coB3_, .slice AoB4_ lv.length coB4_, .slice none 0 0] 38 (0, 0)) by rw [hw10]; exact blk_far (p := ⟨g, _, none⟩) B3.out NG3.out.symm _)
      have mHR2_ := Aside0.mk (show Kd.R k41r 41 w10 B2_ (fun _ => True) (.slice AoB2_ li.length coB2_) li by rw [hw10]; exact R_setold HR2.out LGB2_.out _ _)
      have mHR3_ := Aside0.mk (show Kd.R k44 44 w10 B3_ (fun _ => True) (.slice AoB3_ lt.length coB3_) lt by rw [hw10]; exact R_setold HR3.out LGB3_.out _ _)
      have mHR4_ := Aside0.mk (show Kd.R (Kd.int .u16) 23 w10 B4_ (fun _ => True) (.slice AoB4_ lv.length coB4_) lv by rw [hw10]; exact R_setold HR4.out LGB4_.out _ _)
      clear HP HF B1 B2 B3 hw10 HR2 HR3 HR4
      try clear p1
      try clear q30 f30 q31 f31 q32 f32 q33 f33 q34 f34 q35 f35
      have HP := n0_
      have HF := n1_
      have B1 := n1b_
      have B2 := n2b_
      have B3 := n3b_
      have HR2 := mHR2_
      have HR3 := mHR3_
      have HR4 := mHR4_
      clear n0_ n1_ n1b_ n2b_ n3b_ mHR2_ mHR3_ mHR4_
      have p1 : w10.cell? ⟨n1, 0, none⟩ = some (.pointer (some ⟨g, 0, none⟩)) := (blk_cell B1.out 0).trans rfl
      obtain ⟨q30, q31, q32, q33, q34, q35⟩ := cells6 B3.out
      obtain ⟨f30, f31, f32, f33, f34, f35⟩ := froz6 B3.out
      obtain ⟨q20, q21, q22, q23, q24, q25⟩ := cells6 B2.out
      obtain ⟨f20, f21, f22, f23, f24, f25⟩ := froz6 B2.out
      go_wp2
      (try simp only [Exit.inBlock, Exit.then])
      refine bodyPost_ret (results_single rfl (.cell n2 38 #[.int .u8 (t1 % 256), .int .u16 s1, .slice AoB2_ li.length coB2_, .slice AoB3_ lt.length coB3_, .slice AoB4_ lv.length coB4_, .slice none 0 0] (0, 0) _ rfl ((blk_set (blk_set (blk_set (blk_set (blk_set (blk_set B2.out 0 _) 1 _) 2 _) 3 _) 4 _) 5 _).trans rfl) Try.underlying38 rfl (by kernel_rfl) .nil)) rfl ?_
      exact ⟨_, _, _, _, rfl, Kd.R_lower (by repeat (with_reducible first | exact HR2.out | refine R_setold ?_ L2B2_.out _ _)) LWB2_.out, Kd.R_lower (by repeat (with_reducible first | exact HR3.out | refine R_setold ?_ L2B3_.out _ _)) LWB3_.out, Kd.R_lower (by repeat (with_reducible first | exact HR4.out | refine R_setold ?_ L2B4_.out _ _)) LWB4_.out, Kd.R_nil _ _ _ _ _, by repeat (with_reducible first | exact HP.out | refine Pl.setNew ?_ NG1.out Z1.out _ _ | refine Pl.setNew ?_ NG2.out Z2.out _ _ | refine Pl.setNew ?_ NG3.out Z3.out _ _ | refine Pl.drew ?_), by repeat (with_reducible first | exact HF.out | refine But.set ?_ _ _ | refine But.setNew ?_ G1.out _ _ | refine But.setNew ?_ G2.out _ _ | refine But.setNew ?_ G3.out _ _ | refine But.drew ?_)⟩
  · rw [if_neg c1] at hn
    have c1a : (Go.bits .and .u8 (t1 % 256) 1 == 0) = false := beq_eq_false_iff_ne.mpr c1
    have c1b : (Go.bits .and .u8 (t1 % 256) 1 != 0) = true := bne_iff_ne.mpr c1
    clear c1
    obtain ⟨⟨ls, at2, e2⟩, h1, hn⟩ := Option.bind_eq_some_iff.mp hn
    have HS := Aside0.mk h1
    clear h1
    replace hn : (if e2 = 0 then (class_May.f (t1 % 256) 65535 [] [] [] ls).bind fun m => some ((⟨(t1 % 256), 65535, [], [], [], ls⟩ : S38), at2, if m = true then 0 else 5) else some ((⟨(t1 % 256), 65535, [], [], [], ls⟩ : S38), at2, e2)) = some (x, at', e') := hn
    have HN := Aside0.mk hn
    clear hn
    go_enter Try.func22, Try.ntmps22
    go_upto_region 2 with (first | ((with_reducible refine gate_dst (N := 1) rfl ?_); refine zbox (N := 1) (cs := #[.pointer (some ⟨g, 0, none⟩)]) (t := 57) ?_; intro n1 hg w1 hbox hb; have G1 := Aside0.mk (show w.heap.size ≤ n1 by rw [hg]; exact HF.out.size); have NG1 := Aside0.mk (show g ≠ n1 by rw [hg]; exact Nat.ne_of_lt HP.out.lt); have Z1 := Aside0.mk (show w0.heap.size ≤ n1 by rw [hg]; exact HP.out.fr.size); have n0_ := Aside0.mk (HP.out.below hb); have n1_ := Aside0.mk (HF.out.below hb); have B1 := Aside0.mk hbox; clear HP HF hb hg hbox; have HP := n0_; have HF := n1_; clear n0_ n1_; have p1 : w1.cell? ⟨n1, 0, none⟩ = some (.pointer (some ⟨g, 0, none⟩)) := (blk_cell B1.out 0).trans rfl) | ((with_reducible refine gate_dst (N := 2) rfl ?_); refine zbox (N := 2) (cs := #[.int .u8 0, .int .u16 0, .slice none 0 0, .slice none 0 0, .slice none 0 0, .slice none 0 0]) (t := 38) ?_; intro n2 hg w2 hbox hb; have o1_ := Aside0.mk (show n1 ≠ n2 by rw [hg]; exact Nat.ne_of_lt (blk_lt B1.out)); have nb1 := Aside0.mk (blk_below B1.out hb); clear B1; have B1 := nb1; clear nb1; have N12 := o1_; clear o1_; have G2 := Aside0.mk (show w.heap.size ≤ n2 by rw [hg]; exact HF.out.size); have NG2 := Aside0.mk (show g ≠ n2 by rw [hg]; exact Nat.ne_of_lt HP.out.lt); have Z2 := Aside0.mk (show w0.heap.size ≤ n2 by rw [hg]; exact HP.out.fr.size); have n0_ := Aside0.mk (HP.out.below hb); have n1_ := Aside0.mk (HF.out.below hb); have B2 := Aside0.mk hbox; clear HP HF hb hg hbox; have HP := n0_; have HF := n1_; clear n0_ n1_; clear p1; have p1 : w2.cell? ⟨n1, 0, none⟩ = some (.pointer (some ⟨g, 0, none⟩)) := (blk_cell B1.out 0).trans rfl) | (go_at_call 43; (with_reducible refine (number_ok w0 b Ab cb g at_ e 1 t1 at1 e1 _ ?s1 H1.out).mono ?_); (case s1 => exact HP.out); rintro y w3 ⟨rfl, hp, hf⟩; have n1b_ := Aside0.mk (blk_but B1.out NG1.out.symm hf); have n2_ := Aside0.mk (blk_but B2.out NG2.out.symm hf); have n0_ := Aside0.mk hp; have n1_ := Aside0.mk (HF.out.trans hf); clear HP HF hp hf B1 B2 p1; have HP := n0_; have HF := n1_; have B1 := n1b_; have B2 := n2_; clear n0_ n1_ n2_ n1b_; have p1 : w3.cell? ⟨n1, 0, none⟩ = some (.pointer (some ⟨g, 0, none⟩)) := (blk_cell B1.out 0).trans rfl) | ((with_reducible refine gate_dst (N := 3) rfl ?_); refine zbox (N := 3) (cs := #[.int .u8 0, .int .u16 0, .slice none 0 0, .slice none 0 0, .slice none 0 0, .slice none 0 0]) (t := 38) ?_; intro n3 hg w4 hbox hb; have o1_ := Aside0.mk (show n1 ≠ n3 by rw [hg]; exact Nat.ne_of_lt (blk_lt B1.out)); have nb1 := Aside0.mk (blk_below B1.out hb); clear B1; have B1 := nb1; clear nb1; have N13 := o1_; clear o1_; have o2_ := Aside0.mk (show n2 ≠ n3 by rw [hg]; exact Nat.ne_of_lt (blk_lt B2.out)); have nb2 := Aside0.mk (blk_below B2.out hb); clear B2; have B2 := nb2; clear nb2; have N23 := o2_; clear o2_; have G3 := Aside0.mk (show w.heap.size ≤ n3 by rw [hg]; exact HF.out.size); have NG3 := Aside0.mk (show g ≠ n3 by rw [hg]; exact Nat.ne_of_lt HP.out.lt); have Z3 := Aside0.mk (show w0.heap.size ≤ n3 by rw [hg]; exact HP.out.fr.size); have n0_ := Aside0.mk (HP.out.below hb); have n1_ := Aside0.mk (HF.out.below hb); have B3 := Aside0.mk hbox; clear HP HF hb hg hbox; have HP := n0_; have HF := n1_; clear n0_ n1_; clear p1; have p1 : w4.cell? ⟨n1, 0, none⟩ = some (.pointer (some ⟨g, 0, none⟩)) := (blk_cell B1.out 0).trans rfl; obtain ⟨q30, q31, q32, q33, q34, q35⟩ := cells6 B3.out; obtain ⟨f30, f31, f32, f33, f34, f35⟩ := froz6 B3.out))
    obtain ⟨w5, hw5⟩ : ∃ W_ : World, W_ = ((((((w4.setCell ⟨n3, 0, none⟩ (.int .u8 (t1 % 256))).setCell ⟨n3, 1, none⟩ (.int .u16 65535)).setCell ⟨n3, 2, none⟩ (.slice none 0 0)).setCell ⟨n3, 3, none⟩ (.slice none 0 0)).setCell ⟨n3, 4, none⟩ (.slice none 0 0)).setCell ⟨n3, 5, none⟩ (.slice none 0 0)) := ⟨_, rfl⟩
    rw [← hw5]
    have n0_ := Aside0.mk (show Pl w0 b Ab cb w5 g at1 e1 by rw [hw5]; repeat (with_reducible first | exact HP.out | refine Pl.setNew ?_ NG1.out Z1.out _ _ | refine Pl.setNew ?_ NG2.out Z2.out _ _ | refine Pl.setNew ?_ NG3.out Z3.out _ _ | refine Pl.drew ?_))
    have n1_ := Aside0.mk (show But g w w5 by rw [hw5]; repeat (with_reducible first | exact HF.out | refine But.set ?_ _ _ | refine But.setNew ?_ G1.out _ _ | refine But.setNew ?_ G2.out _ _ | refine But.setNew ?_ G3.out _ _ | refine But.drew ?_))
    have n1b_ := Aside0.mk (show w5.heap[n1]? = some (.cells #[.pointer (some ⟨g, 0, none⟩)] 57 (0, 0)) by rw [hw5]; repeat (with_reducible first | exact B1.out | refine blk_far (p := ⟨n3, _, none⟩) ?_ N13.out _))
    have n2b_ := Aside0.mk (show w5.heap[n2]? = some (.cells #[.int .u8 0, .int .u16 0, .slice none 0 0, .slice none 0 0, .slice none 0 0, .slice none 0 0] 38 (0, 0)) by rw [hw5]; repeat (with_reducible first | exact B2.out | refine blk_far (p := ⟨n3, _, none⟩) ?_ N23.out _))
    have n3b_ := Aside0.mk (show w5.heap[n3]? = some (.cells #[.int .u8 (t1 % 256), .int .u16 65535, .slice none 0 0, .slice none 0 0, .slice none 0 0, .slice none 0 0] 38 (0, 0)) by rw [hw5]; exact (blk_set (blk_set (blk_set (blk_set (blk_set (blk_set B3.out 0 _) 1 _) 2 _) 3 _) 4 _) 5 _).trans rfl)
    clear HP HF B1 B2 B3 hw5
    try clear p1
    try clear q30 f30 q31 f31 q32 f32 q33 f33 q34 f34 q35 f35
    have HP := n0_
    have HF := n1_
    have B1 := n1b_
    have B2 := n2b_
    have B3 := n3b_
    clear n0_ n1_ n1b_ n2b_ n3b_
    have p1 : w5.cell? ⟨n1, 0, none⟩ = some (.pointer (some ⟨g, 0, none⟩)) := (blk_cell B1.out 0).trans rfl
    obtain ⟨q30, q31, q32, q33, q34, q35⟩ := cells6 B3.out
    obtain ⟨f30, f31, f32, f33, f34, f35⟩ := froz6 B3.out
    obtain ⟨B5_, hB5_⟩ : ∃ B_ : Nat, B_ = w5.heap.size := ⟨_, rfl⟩
    have LGB5_ := Aside0.mk (show g < B5_ by rw [hB5_]; exact HP.out.lt)
    have L2B5_ := Aside0.mk (show n2 < B5_ by rw [hB5_]; exact blk_lt B2.out)
    have L3B5_ := Aside0.mk (show n3 < B5_ by rw [hB5_]; exact blk_lt B3.out)
    have LWB5_ := Aside0.mk (show w.heap.size ≤ B5_ by rw [hB5_]; exact HF.out.size)
    go_upto_region 8 with (first | (go_at_call 44; (with_reducible refine (many66_ok w0 b Ab cb g at1 e1 255 ls at2 e2 _ ?s1 HS.out).mono ?_); (case s1 => exact HP.out); rintro y w7 ⟨v, rfl, ho, hp, hf⟩; rw [← hB5_] at ho; obtain ⟨AoB5_, coB5_, eoB5_⟩ := Kd.R_slice ho; subst eoB5_; have HR5 := Aside0.mk ho; clear ho; have n1b_ := Aside0.mk (blk_but B1.out NG1.out.symm hf); have n2b_ := Aside0.mk (blk_but B2.out NG2.out.symm hf); have n3b_ := Aside0.mk (blk_but B3.out NG3.out.symm hf); have n0_ := Aside0.mk hp; have n1_ := Aside0.mk (HF.out.trans hf); clear HP HF hp hf B1 B2 B3 p1 q30 f30 q31 f31 q32 f32 q33 f33 q34 f34 q35 f35; have HP := n0_; have HF := n1_; have B1 := n1b_; have B2 := n2b_; have B3 := n3b_; clear n0_ n1_ n1b_ n2b_ n3b_; have p1 : w7.cell? ⟨n1, 0, none⟩ = some (.pointer (some ⟨g, 0, none⟩)) := (blk_cell B1.out 0).trans rfl; obtain ⟨q30, q31, q32, q33, q34, q35⟩ := cells6 B3.out; obtain ⟨f30, f31, f32, f33, f34, f35⟩ := froz6 B3.out))
    obtain ⟨w7s, hw7s⟩ : ∃ W_ : World, W_ = (w7.setCell ⟨n3, 5, none⟩ (.slice AoB5_ ls.length coB5_)) := ⟨_, rfl⟩
    rw [← hw7s]
    have n0_ := Aside0.mk (show Pl w0 b Ab cb w7s g at2 e2 by rw [hw7s]; repeat (with_reducible first | exact HP.out | refine Pl.setNew ?_ NG1.out Z1.out _ _ | refine Pl.setNew ?_ NG2.out Z2.out _ _ | refine Pl.setNew ?_ NG3.out Z3.out _ _ | refine Pl.drew ?_))
    have n1_ := Aside0.mk (show But g w w7s by rw [hw7s]; repeat (with_reducible first | exact HF.out | refine But.set ?_ _ _ | refine But.setNew ?_ G1.out _ _ | refine But.setNew ?_ G2.out _ _ | refine But.setNew ?_ G3.out _ _ | refine But.drew ?_))
    have n1b_ := Aside0.mk (show w7s.heap[n1]? = some (.cells #[.pointer (some ⟨g, 0, none⟩)] 57 (0, 0)) by rw [hw7s]; repeat (with_reducible first | exact B1.out | refine blk_far (p := ⟨n3, _, none⟩) ?_ N13.out _))
    have n2b_ := Aside0.mk (show w7s.heap[n2]? = some (.cells #[.int .u8 0, .int .u16 0, .slice none 0 0, .slice none 0 0, .slice none 0 0, .slice none 0 0] 38 (0, 0)) by rw [hw7s]; repeat (with_reducible first | exact B2.out | refine blk_far (p := ⟨n3, _, none⟩) ?_ N23.out _))
    have n3b_ := Aside0.mk (show w7s.heap[n3]? = some (.cells #[.int .u8 (t1 % 256), .int .u16 65535, .slice none 0 0, .slice none 0 0, .slice none 0 0, .slice AoB5_ ls.length coB5_] 38 (0, 0)) by rw [hw7s]; exact (blk_set B3.out 5 _).trans rfl)
    have mHR5_ := Aside0.mk (show Kd.R k66 66 w7s B5_ (fun _ => True) (.slice AoB5_ ls.length coB5_) ls by rw [hw7s]; repeat (with_reducible first | exact HR5.out | refine R_setold ?_ L3B5_.out _ _))
    clear HP HF B1 B2 B3 hw7s HR5
    try clear p1
    try clear q30 f30 q31 f31 q32 f32 q33 f33 q34 f34 q35 f35
    have HP := n0_
    have HF := n1_
    have B1 := n1b_
    have B2 := n2b_
    have B3 := n3b_
    have HR5 := mHR5_
    clear n0_ n1_ n1b_ n2b_ n3b_ mHR5_
    try clear c1a c1b
    have hn := HN.out
    clear HN
    by_cases c5 : e2 = 0
    rotate_left
    · rw [if_neg c5] at hn
      simp only [Option.some.injEq, Prod.mk.injEq] at hn
      obtain ⟨rfl, rfl, rfl⟩ := hn
      have c5a : (e2 == 0) = false := beq_eq_false_iff_ne.mpr c5
      have c5b : (e2 != 0) = true := bne_iff_ne.mpr c5
      clear c5
      have p1 : w7s.cell? ⟨n1, 0, none⟩ = some (.pointer (some ⟨g, 0, none⟩)) := (blk_cell B1.out 0).trans rfl
      obtain ⟨q30, q31, q32, q33, q34, q35⟩ := cells6 B3.out
      obtain ⟨f30, f31, f32, f33, f34, f35⟩ := froz6 B3.out
      have q2 := HP.out.c2
      obtain ⟨q20, q21, q22, q23, q24, q25⟩ := cells6 B2.out
      obtain ⟨f20, f21, f22, f23, f24, f25⟩ := froz6 B2.out
      go_wp2
      (try simp only [Exit.inBlock, Exit.then])
      refine bodyPost_ret (results_single rfl (.cell n2 38 #[.int .u8 (t1 % 256), .int .u16 65535, .slice none 0 0, .slice none 0 0, .slice none 0 0, .slice AoB5_ ls.length coB5_] (0, 0) _ rfl ((blk_set (blk_set (blk_set (blk_set (blk_set (blk_set B2.out 0 _) 1 _) 2 _) 3 _) 4 _) 5 _).trans rfl) Try.underlying38 rfl (by kernel_rfl) .nil)) rfl ?_
      exact ⟨_, _, _, _, rfl, Kd.R_nil _ _ _ _ _, Kd.R_nil _ _ _ _ _, Kd.R_nil _ _ _ _ _, Kd.R_lower (by repeat (with_reducible first | exact HR5.out | refine R_setold ?_ L2B5_.out _ _)) LWB5_.out, by repeat (with_reducible first | exact HP.out | refine Pl.setNew ?_ NG1.out Z1.out _ _ | refine Pl.setNew ?_ NG2.out Z2.out _ _ | refine Pl.setNew ?_ NG3.out Z3.out _ _ | refine Pl.drew ?_), by repeat (with_reducible first | exact HF.out | refine But.set ?_ _ _ | refine But.setNew ?_ G1.out _ _ | refine But.setNew ?_ G2.out _ _ | refine But.setNew ?_ G3.out _ _ | refine But.drew ?_)⟩
    rw [if_pos c5] at hn
    obtain ⟨m, hm, hn⟩ := Option.bind_eq_some_iff.mp hn
    have HM := Aside0.mk hm
    simp only [Option.some.injEq, Prod.mk.injEq] at hn
    obtain ⟨rfl, rfl, he_⟩ := hn
    subst c5
    clear hm
    have p1 : w7s.cell? ⟨n1, 0, none⟩ = some (.pointer (some ⟨g, 0, none⟩)) := (blk_cell B1.out 0).trans rfl
    obtain ⟨q30, q31, q32, q33, q34, q35⟩ := cells6 B3.out
    obtain ⟨f30, f31, f32, f33, f34, f35⟩ := froz6 B3.out
    have q2 := HP.out.c2
    have f2 := HP.out.fz 2
    cases m with
    | true =>
      rw [if_pos rfl] at he_
      subst he_
      go_upto_region 10 with (first | (go_at_call 15; have hm_ := class_May.calls (t1 % 256) 65535 none 0 [] none 0 [] none 0 [] AoB5_ coB5_ ls true w7s (Kd.C_nil _ _) (Nat.le_refl 0) (Kd.C_nil _ _) (Nat.le_refl 0) (Kd.C_nil _ _) (Nat.le_refl 0) (Kd.R_reads' HR5.out).2.2 (Kd.R_reads' HR5.out).2.1 HM.out; (try simp only [List.length_nil] at hm_); (with_reducible refine hm_.mono ?_); clear hm_; rintro y w9 ⟨rfl, hb⟩; have n1b_ := Aside0.mk (blk_below B1.out hb); have n2b_ := Aside0.mk (blk_below B2.out hb); have n3b_ := Aside0.mk (blk_below B3.out hb); have mHR5_ := Aside0.mk (Kd.R_below HR5.out hb); have n0_ := Aside0.mk (HP.out.below hb); have n1_ := Aside0.mk (HF.out.below hb); clear HP HF hb B1 B2 B3 p1 q2 f2 q30 f30 q31 f31 q32 f32 q33 f33 q34 f34 q35 f35 HR5; have HP := n0_; have HF := n1_; have B1 := n1b_; have B2 := n2b_; have B3 := n3b_; have HR5 := mHR5_; clear n0_ n1_ n1b_ n2b_ n3b_ mHR5_; have p1 : w9.cell? ⟨n1, 0, none⟩ = some (.pointer (some ⟨g, 0, none⟩)) := (blk_cell B1.out 0).trans rfl; obtain ⟨q30, q31, q32, q33, q34, q35⟩ := cells6 B3.out; obtain ⟨f30, f31, f32, f33, f34, f35⟩ := froz6 B3.out; have q2 := HP.out.c2; have f2 := HP.out.fz 2))
      obtain ⟨q20, q21, q22, q23, q24, q25⟩ := cells6 B2.out
      obtain ⟨f20, f21, f22, f23, f24, f25⟩ := froz6 B2.out
      go_wp2
      (try simp only [Exit.inBlock, Exit.then])
      refine bodyPost_ret (results_single rfl (.cell n2 38 #[.int .u8 (t1 % 256), .int .u16 65535, .slice none 0 0, .slice none 0 0, .slice none 0 0, .slice AoB5_ ls.length coB5_] (0, 0) _ rfl ((blk_set (blk_set (blk_set (blk_set (blk_set (blk_set B2.out 0 _) 1 _) 2 _) 3 _) 4 _) 5 _).trans rfl) Try.underlying38 rfl (by kernel_rfl) .nil)) rfl ?_
      exact ⟨_, _, _, _, rfl, Kd.R_nil _ _ _ _ _, Kd.R_nil _ _ _ _ _, Kd.R_nil _ _ _ _ _, Kd.R_lower (by repeat (with_reducible first | exact HR5.out | refine R_setold ?_ L2B5_.out _ _)) LWB5_.out, by repeat (with_reducible first | exact HP.out | refine Pl.setNew ?_ NG1.out Z1.out _ _ | refine Pl.setNew ?_ NG2.out Z2.out _ _ | refine Pl.setNew ?_ NG3.out Z3.out _ _ | refine Pl.drew ?_), by repeat (with_reducible first | exact HF.out | refine But.set ?_ _ _ | refine But.setNew ?_ G1.out _ _ | refine But.setNew ?_ G2.out _ _ | refine But.setNew ?_ G3.out _ _ | refine But.drew ?_)⟩
    | false =>
      rw [if_neg (by decide)] at he_
      subst he_
      go_upto_region 10 with (first | (go_at_call 15; have hm_ := class_May.calls (t1 % 256) 65535 none 0 [] none 0 [] none 0 [] AoB5_ coB5_ ls false w7s (Kd.C_nil _ _) (Nat.le_refl 0) (Kd.C_nil _ _) (Nat.le_refl 0) (Kd.C_nil _ _) (Nat.le_refl 0) (Kd.R_reads' HR5.out).2.2 (Kd.R_reads' HR5.out).2.1 HM.out; (try simp only [List.length_nil] at hm_); (with_reducible refine hm_.mono ?_); clear hm_; rintro y w9 ⟨rfl, hb⟩; have n1b_ := Aside0.mk (blk_below B1.out hb); have n2b_ := Aside0.mk (blk_below B2.out hb); have n3b_ := Aside0.mk (blk_below B3.out hb); have mHR5_ := Aside0.mk (Kd.R_below HR5.out hb); have n0_ := Aside0.mk (HP.out.below hb); have n1_ := Aside0.mk (HF.out.below hb); clear HP HF hb B1 B2 B3 p1 q2 f2 q30 f30 q31 f31 q32 f32 q33 f33 q34 f34 q35 f35 HR5; have HP := n0_; have HF := n1_; have B1 := n1b_; have B2 := n2b_; have B3 := n3b_; have HR5 := mHR5_; clear n0_ n1_ n1b_ n2b_ n3b_ mHR5_; have p1 : w9.cell? ⟨n1, 0, none⟩ = some (.pointer (some ⟨g, 0, none⟩)) := (blk_cell B1.out 0).trans rfl; obtain ⟨q30, q31, q32, q33, q34, q35⟩ := cells6 B3.out; obtain ⟨f30, f31, f32, f33, f34, f35⟩ := froz6 B3.out; have q2 := HP.out.c2; have f2 := HP.out.fz 2))
      clear q2 f2
      obtain ⟨w10, hw10⟩ : ∃ W_ : World, W_ = (w9.setCell ⟨g, 2, none⟩ (.int .i64 5)) := ⟨_, rfl⟩
      rw [← hw10]
      have n0_ := Aside0.mk (show Pl w0 b Ab cb w10 g at2 5 by rw [hw10]; exact HP.out.set2 _)
      have n1_ := Aside0.mk (show But g w w10 by rw [hw10]; repeat (with_reducible first | exact HF.out | refine But.set ?_ _ _ | refine But.setNew ?_ G1.out _ _ | refine But.setNew ?_ G2.out _ _ | refine But.setNew ?_ G3.out _ _ | refine But.drew ?_))
      have n1b_ := Aside0.mk (show w10.heap[n1]? = some (.cells #[.pointer (some ⟨g, 0, none⟩)] 57 (0, 0)) by rw [hw10]; exact blk_far (p := ⟨g, _, none⟩) B1.out NG1.out.symm _)
      have n2b_ := Aside0.mk (show w10.heap[n2]? = some (.cells #[.int .u8 0, .int .u16 0, .slice none 0 0, .slice none 0 0, .slice none 0 0, .slice none 0 0] 38 (0, 0)) by rw [hw10]; exact blk_far (p := ⟨g, _, none⟩) B2.out NG2.out.symm _)
      have n3b_ := Aside0.mk (show w10.heap[n3]? = some (.cells #[.int .u8 (t1 % 256), .int .u16 65535, .slice none 0 0, .slice none 0 0, .slice none 0 0, .slice AoB5_ ls.length coB5_] 38 (0, 0)) by rw [hw10]; exact blk_far (p := ⟨g, _, none⟩) B3.out NG3.out.symm _)
      have mHR5_ := Aside0.mk (show Kd.R k66 66 w10 B5_ (fun _ => True) (.slice AoB5_ ls.length coB5_) ls by rw [hw10]; exact R_setold HR5.out LGB5_.out _ _)
      clear HP HF B1 B2 B3 hw10 HR5
      try clear p1
      try clear q30 f30 q31 f31 q32 f32 q33 f33 q34 f34 q35 f35
      have HP := n0_
      have HF := n1_
      have B1 := n1b_
      have B2 := n2b_
      have B3 := n3b_
      have HR5 := mHR5_
      clear n0_ n1_ n1b_ n2b_ n3b_ mHR5_
      have p1 : w10.cell? ⟨n1, 0, none⟩ = some (.pointer (some ⟨g, 0, none⟩)) := (blk_cell B1.out 0).trans rfl
      obtain ⟨q30, q31, q32, q33, q34, q35⟩ := cells6 B3.out
      obtain ⟨f30, f31, f32, f33, f34, f35⟩ := froz6 B3.out
      obtain ⟨q20, q21, q22, q23, q24, q25⟩ := cells6 B2.out
      obtain ⟨f20, f21, f22, f23, f24, f25⟩ := froz6 B2.out
      go_wp2
      (try simp only [Exit.inBlock, Exit.then])
      refine bodyPost_ret (results_single rfl (.cell n2 38 #[.int .u8 (t1 % 256), .int .u16 65535, .slice none 0 0, .slice none 0 0, .slice none 0 0, .slice AoB5_ ls.length coB5_] (0, 0) _ rfl ((blk_set (blk_set (blk_set (blk_set (blk_set (blk_set B2.out 0 _) 1 _) 2 _) 3 _) 4 _) 5 _).trans rfl) Try.underlying38 rfl (by kernel_rfl) .nil)) rfl ?_
      exact ⟨_, _, _, _, rfl, Kd.R_nil _ _ _ _ _, Kd.R_nil _ _ _ _ _, Kd.R_nil _ _ _ _ _, Kd.R_lower (by repeat (with_reducible first | exact HR5.out | refine R_setold ?_ L2B5_.out _ _)) LWB5_.out, by repeat (with_reducible first | exact HP.out | refine Pl.setNew ?_ NG1.out Z1.out _ _ | refine Pl.setNew ?_ NG2.out Z2.out _ _ | refine Pl.setNew ?_ NG3.out Z3.out _ _ | refine Pl.drew ?_), by repeat (with_reducible first | exact HF.out | refine But.set ?_ _ _ | refine But.setNew ?_ G1.out _ _ | refine But.setNew ?_ G2.out _ _ | refine But.setNew ?_ G3.out _ _ | refine But.drew ?_)⟩
theorem minfo38 : (Try.prog.info? 38).map (fun i => (i.zero, i.size, i.bytes)) = some (some (.agg #[.int .u8 0, .int .u16 0, .slice none 0 0, .slice none 0 0, .slice none 0 0, .slice none 0 0]), 6, 104) := by kernel_rfl
set_option maxHeartbeats 8000000 in
set_option maxRecDepth 100000 in
theorem many38_ok (w0 : World) (b : List Int) (Ab : Option Addr) (cb g : Nat) (at_ e most : Int) (l : List S38) (at' e' : Int) (w : World) (h : Pl w0 b Ab cb w g at_ e) (hn : manyG (classG b) b most at_ e = some (l, at', e')) :
    Calls Try.prog 21 #[.pointer (some ⟨g, 0, none⟩), .int .i64 most, .func (.func 22) #[.agg #[.pointer (some ⟨g, 0, none⟩)]] #[]] w fun y w' => ∃ v : Value, y = .returned v ∧ Kd.R k38r 38 w' w.heap.size (fun _ => True) v l ∧ Pl w0 b Ab cb w' g at' e' ∧ But g w w' := by
  have HP := Aside0.mk h
  have HF := Aside0.mk (But.refl g w)
  have LG := Aside0.mk h.lt
  clear h
  unfold manyG at hn
  have hu22 := Try.underlying22
  obtain ⟨⟨t1, at1, e1⟩, h1, hn⟩ := Option.bind_eq_some_iff.mp hn
  have H1 := Aside0.mk h1
  clear h1
  replace hn : (if 0 ≤ t1 ∧ t1 ≤ 255 then manyL (classG b) t1.toNat [] at1 (if e1 = 0 ∧ t1 > most then 3 else e1) else none) = some (l, at', e') := hn
  by_cases c1 : 0 ≤ t1 ∧ t1 ≤ 255
  rotate_left
  · rw [if_neg c1] at hn
    cases hn
  rw [if_pos c1] at hn
  have C1 := Aside0.mk c1
  clear c1
  obtain ⟨E, hE⟩ : ∃ E_ : Int, E_ = (if e1 = 0 ∧ t1 > most then 3 else e1) := ⟨_, rfl⟩
  rw [← hE] at hn
  have HE := Aside0.mk hE
  have HN := Aside0.mk hn
  clear hn hE
  go_enter Try.func21, Try.ntmps21
  go_upto_region 2 with (first | (go_at_call 43; (with_reducible refine (number_ok w0 b Ab cb g at_ e 1 t1 at1 e1 _ ?s1 H1.out).mono ?_); (case s1 => exact HP.out); rintro y w1 ⟨rfl, hp, hf⟩; have n0_ := Aside0.mk hp; have n1_ := Aside0.mk (HF.out.trans hf); clear HP HF hp hf; have HP := n0_; have HF := n1_; clear n0_ n1_))
  go_cut [7, 21] from 10 (fun v7 v21 wc => v7 = .int .i64 t1 ∧ v21 = .bool (decide (e1 = 0 ∧ t1 > most)) ∧ Aside0 (Pl w0 b Ab cb wc g at1 e1) ∧ Aside0 (But g w wc))
  case first =>
    have q2 := HP.out.c2
    by_cases c2 : e1 = 0
    · subst c2
      by_cases c3 : t1 > most
      · have c3b : decide (most < t1) = true := decide_eq_true c3
        go_wp2
        go_meet
        case rel => exact ⟨rfl, by simp [c3], HP, HF⟩
      · have c3b : decide (most < t1) = false := decide_eq_false c3
        go_wp2
        go_meet
        case rel => exact ⟨rfl, by simp [c3], HP, HF⟩
    · have c3a : (e1 == 0) = false := beq_eq_false_iff_ne.mpr c2
      have c3b : (e1 != 0) = true := bne_iff_ne.mpr c2
      go_wp2
      go_meet
      case rel => exact ⟨rfl, by simp [c2], HP, HF⟩
  case rest =>
    clear HP HF
    obtain ⟨rfl, rfl, HP, HF⟩ := hcut
    go_upto_if 21 with (fail)
    go_cut [7] from 10 (fun v7 wc => v7 = .int .i64 t1 ∧ Aside0 (Pl w0 b Ab cb wc g at1 E) ∧ Aside0 (But g w wc))
    case first =>
      have q2 := HP.out.c2
      have f2 := HP.out.fz 2
      have hE := HE.out
      by_cases c2 : e1 = 0 ∧ t1 > most
      · rw [if_pos c2] at hE
        subst hE
        have c2b := decide_eq_true c2
        rw [c2b]
        clear c2
        go_wp2
        go_meet
        case rel => exact ⟨rfl, ⟨HP.out.set2 3⟩, ⟨HF.out.set _ _⟩⟩
      · rw [if_neg c2] at hE
        subst hE
        have c2b := decide_eq_false c2
        rw [c2b]
        clear c2
        go_wp2
        go_meet
        case rel => exact ⟨rfl, HP, HF⟩
    case rest =>
      clear HP HF HE
      obtain ⟨rfl, HP, HF⟩ := hcut
      have hn := HN.out
      clear HN
      go_wp2
      have HM := Aside0.mk hn
      clear hn
      go_loopg [8, 9] t1.toNat (fun kq v8 v9 w' => ∃ (acc : List S38) (x a_ e_ : Int), v9 = .int .i64 x ∧ Aside0 (0 ≤ x ∧ (kq : Int) + x = t1 ∧ acc.length + kq ≤ 255) ∧ Aside0 (manyL (classG b) kq acc a_ e_ = some (l, at', e')) ∧ Aside0 (Kd.R k38r 38 w' w.heap.size (fun _ => True) v8 acc) ∧ Aside0 (Pl w0 b Ab cb w' g a_ e_) ∧ Aside0 (But g w w'))
      case atStart => exact ⟨[], 0, at1, E, rfl, ⟨by have := C1.out; simp; omega⟩, HM, ⟨Kd.R_nil _ _ _ _ _⟩, ⟨HP.out⟩, ⟨HF.out⟩⟩
      case round =>
        clear HP HF HM
        obtain ⟨acc, x, a_, e_, rfl, HI, HA, HO8, HP, HF⟩ := hrel
        obtain ⟨Ao8, co8, eo8⟩ := Kd.R_slice HO8.out
        subst eo8
        have q2 := HP.out.c2
        cases gk with
        | zero =>
          have c2 : decide (x < t1) = false := decide_eq_false (by have := HI.out; omega)
          have hA := HA.out
          unfold manyL at hA
          simp only [Option.some.injEq, Prod.mk.injEq] at hA
          obtain ⟨rfl, rfl, rfl⟩ := hA
          clear HA
          go_wp2
          go_ret
          exact ⟨_, rfl, HO8.out, HP.out, HF.out⟩
        | succ k1 =>
          have c2 : decide (x < t1) = true := decide_eq_true (by have := HI.out; omega)
          have hA := HA.out
          unfold manyL at hA
          clear HA
          by_cases c3 : e_ = 0
          rotate_left
          · rw [if_neg c3] at hA
            simp only [Option.some.injEq, Prod.mk.injEq] at hA
            obtain ⟨rfl, rfl, rfl⟩ := hA
            have c3a : (e_ == 0) = false := beq_eq_false_iff_ne.mpr c3
            have c3b : (e_ != 0) = true := bne_iff_ne.mpr c3
            clear c3
            go_wp2
            go_ret
            exact ⟨_, rfl, HO8.out, HP.out, HF.out⟩
          rw [if_pos c3] at hA
          subst c3
          obtain ⟨⟨x_, a2, e2⟩, h2, hA⟩ := Option.bind_eq_some_iff.mp hA
          have H2 := Aside0.mk h2
          have HA := Aside0.mk hA
          clear h2 hA
          have hw : wrap64 (x + 1) = x + 1 := by have := HI.out; have := C1.out; unfold wrap64; omega
          have HW := Aside0.mk hw
          clear hw
          obtain ⟨B, hB⟩ : ∃ B_ : Nat, B_ = wr.heap.size := ⟨_, rfl⟩
          have LT8 := Aside0.mk (show ∀ k, (Value.slice Ao8 acc.length co8).ownBlock = some k → k < B by rw [hB]; exact Kd.R_lt HO8.out)
          have LW := Aside0.mk (show w.heap.size ≤ B by rw [hB]; exact HF.out.size)
          go_wp2_with (first | (go_at_call 22; (with_reducible refine (class_ok w0 b Ab cb g a_ 0 x_ a2 e2 _ ?s1 H2.out).mono ?_); (case s1 => exact HP.out); rintro y w3 ⟨v2, v3, v4, v5, rfl, h2, h3, h4, h5, hp, hf⟩; obtain ⟨Ao0, co0, eo0⟩ := Kd.R_slice h2; subst eo0; rw [← hB] at h2; have HR0 := Aside0.mk h2; clear h2; obtain ⟨Ao1, co1, eo1⟩ := Kd.R_slice h3; subst eo1; rw [← hB] at h3; have HR1 := Aside0.mk h3; clear h3; obtain ⟨Ao2, co2, eo2⟩ := Kd.R_slice h4; subst eo2; rw [← hB] at h4; have HR2 := Aside0.mk h4; clear h4; obtain ⟨Ao3, co3, eo3⟩ := Kd.R_slice h5; subst eo3; rw [← hB] at h5; have HR3 := Aside0.mk h5; clear h5; have n0_ := Aside0.mk hp; have n1_ := Aside0.mk (HF.out.trans hf); have n2_ := Aside0.mk (R_but HO8.out LG.out hf); clear HP HF HO8 hp hf q2; have HP := n0_; have HF := n1_; have HO8 := n2_; clear n0_ n1_ n2_) | ((with_reducible refine gate_builtin (b := .append) (xs := #[.tmp 37, .tmp 40]) rfl ?_); at_builtin; refine Kd.R_append k38r (w0 := w3) w.heap.size rfl (.tmp 37) (.tmp 40) 22 38 (.agg #[.int .u8 0, .int .u16 0, .slice none 0 0, .slice none 0 0, .slice none 0 0, .slice none 0 0]) 104 rfl Try.underlying22 minfo38 rfl (by decide) (by omega) _ acc x_ [.int .u8 x_.f0, .int .u16 x_.f1, .slice Ao0 x_.f2.length co0, .slice Ao1 x_.f3.length co1, .slice Ao2 x_.f4.length co2, .slice Ao3 x_.f5.length co3] (fun _ => True) (fun k => B ≤ k) rfl rfl ?aP ?aK (fun _ _ => trivial) ?aO ?aB ?aS ?aL ?_; (case aP => exact k38r_mkM _ _ _ x_ (Kd.R_lower (Kd.R_mono (Kd.R_bound HR0.out) (fun k hk => hk.2.1)) LW.out) (Kd.R_lower (Kd.R_mono (Kd.R_bound HR1.out) (fun k hk => hk.2.1)) LW.out) (Kd.R_lower (Kd.R_mono (Kd.R_bound HR2.out) (fun k hk => hk.2.1)) LW.out) (Kd.R_lower (Kd.R_mono (Kd.R_bound HR3.out) (fun k hk => hk.2.1)) LW.out)); (case aK => exact fun k hk => ⟨trivial, fun h_ => absurd (LT8.out k h_.symm) (Nat.not_lt.mpr hk)⟩); (case aO => exact HO8.out); (case aB => exact Below.refl _ _); (case aS => exact HF.out.size); (case aL => have := HI.out; omega); intro v41 w41 ho hb hg hat; have n0_ := Aside0.mk ho; have n1_ := Aside0.mk (HP.out.step LG.out hb); have n2_ := Aside0.mk (HF.out.step (Nat.le_refl _) hb); clear HO8 HP HF HR0 HR1 HR2 HR3; have HO8 := n0_; have HP := n1_; have HF := n2_; clear n0_ n1_ n2_ ho hb hg hat))
          go_roundg k1
          case measure => omega
          case rel => exact ⟨acc ++ [x_], x + 1, a2, e2, by rw [HW.out], ⟨by have := HI.out; simp only [List.length_append, List.length_cons, List.length_nil]; omega⟩, HA, ⟨HO8.out⟩, ⟨HP.out⟩, ⟨HF.out⟩⟩
def class_Get.f (_k : Nat) (l0 : List Int) : Option ((List (S38)) × Int) := (manyG (classG l0) l0 64 0 0).bind fun t => some (if t.2.2 = 0 then (if t.2.1 < (l0.length : Int) then ([], 5) else (t.1, 0)) else ([], t.2.2))
set_option maxHeartbeats 8000000 in
set_option maxRecDepth 100000 in
theorem class_Get.callsr (k : Nat) (A0 : Option Addr) (c0 : Nat) (l0 : List Int) (r1 : List (S38)) (r2 : Int) (w : World) (hr0 : Kd.C (Kd.int .u8) w A0 l0.length l0) (hc0 : l0.length ≤ c0) (h : class_Get.f k l0 = some (r1, r2)) :
    Calls Try.prog 9 #[.slice A0 l0.length c0] w fun e w' => ∃ v0_ : Value, e = .returned (.tuple #[v0_, .int .i64 r2]) ∧ Kd.R k38r 38 w' w.heap.size (fun _ => True) v0_ r1 ∧ Below w.heap.size w w' := by
  have HR0 := Aside0.mk hr0
  have HC0 := Aside0.mk hc0
  clear hr0 hc0
  have HB := Aside0.mk (Below.refl w.heap.size w)
  have hu55 := Try.underlying55
  have hu57 := Try.underlying57
  have hu24 := Try.underlying24
  unfold class_Get.f at h
  obtain ⟨⟨l, at1, e1⟩, hg, h⟩ := Option.bind_eq_some_iff.mp h
  have HG := Aside0.mk hg
  clear hg
  replace h : some (if e1 = 0 then (if at1 < (l0.length : Int) then (([] : List S38), (5 : Int)) else (l, 0)) else ([], e1)) = some (r1, r2) := h
  have HH := Aside0.mk h
  clear h
  go_enter Try.func9, Try.ntmps9
  go_upto_region 2 with (first | ((with_reducible refine gate_dst (N := 8) rfl ?_); refine zbox (N := 8) (cs := #[.slice A0 l0.length c0, .int .i64 0, .int .i64 0]) (t := 55) ?_; intro n8 hg w1 hbox hb; have G8 := Aside0.mk (show w.heap.size ≤ n8 by rw [hg]; exact below_size (zb)); have n0_ := Aside0.mk (below_step (zb) hb); have B8 := Aside0.mk hbox; clear HB hb hg hbox; have HB := n0_; clear n0_) | ((with_reducible refine gate_dst (N := 4) rfl ?_); refine zbox (N := 4) (cs := #[.pointer none]) (t := 57) ?_; intro n4 hg w2 hbox hb; have nb8 := Aside0.mk (blk_below B8.out hb); have o8_ := Aside0.mk (show n8 ≠ n4 by rw [hg]; exact Nat.ne_of_lt (blk_lt B8.out)); clear B8; have B8 := nb8; have N84 := o8_; clear nb8 o8_; have G4 := Aside0.mk (show w.heap.size ≤ n4 by rw [hg]; exact below_size (zb)); have n0_ := Aside0.mk (below_step (zb) hb); have B4 := Aside0.mk hbox; clear HB hb hg hbox; have HB := n0_; clear n0_; have q40 : w2.cell? ⟨n4, 0, none⟩ = some (.pointer none) := (blk_cell B4.out 0).trans rfl; have f40 := blk_frozen B4.out 0))
  obtain ⟨w3, hw3⟩ : ∃ W_ : World, W_ = (w2.setCell ⟨n4, 0, none⟩ (.pointer (some ⟨n8, 0, none⟩))) := ⟨_, rfl⟩
  rw [← hw3]
  have n0_ := Aside0.mk (show Below w.heap.size w w3 by rw [hw3]; exact below_set HB.out G4.out)
  have n4_ := Aside0.mk (show w3.heap[n4]? = some (.cells #[.pointer (some ⟨n8, 0, none⟩)] 57 (0, 0)) by rw [hw3]; exact blk_put (cs' := #[.pointer (some ⟨n8, 0, none⟩)]) B4.out 0 _ rfl)
  have n8_ := Aside0.mk (show w3.heap[n8]? = some (.cells #[.slice A0 l0.length c0, .int .i64 0, .int .i64 0] 55 (0, 0)) by rw [hw3]; exact blk_far (p := ⟨n4, 0, none⟩) B8.out N84.out _)
  clear HB B4 B8 q40 f40 hw3
  have HB := n0_
  have B4 := n4_
  have HP := Aside0.mk (show Pl w l0 A0 c0 w3 n8 0 0 from ⟨n8_.out, HC0.out, G8.out, HR0.out, HB.out⟩)
  clear n0_ n4_ n8_
  have q40 : w3.cell? ⟨n4, 0, none⟩ = some (.pointer (some ⟨n8, 0, none⟩)) := (blk_cell B4.out 0).trans rfl
  go_upto_region 3 with (first | (go_at_call 21; (with_reducible refine (many38_ok w l0 A0 c0 n8 0 0 64 l at1 e1 _ ?s1 HG.out).mono ?_); (case s1 => exact HP.out); rintro y w5 ⟨v, rfl, ho, hp, hf⟩; have n0_ := Aside0.mk (Kd.R_lower ho HB.out.size); have n4_ := Aside0.mk (blk_but B4.out N84.out.symm hf); have n1_ := Aside0.mk (But.own HB.out G8.out HB.out.size hf); clear HP HB B4 ho hf q40; have HP := Aside0.mk hp; have HO := n0_; have B4 := n4_; have HB := n1_; clear n0_ n1_ n4_ hp; have q40 : w5.cell? ⟨n4, 0, none⟩ = some (.pointer (some ⟨n8, 0, none⟩)) := (blk_cell B4.out 0).trans rfl; have q1 := HP.out.c1; have q2 := HP.out.c2))
  have h := HH.out
  clear HH
  by_cases c1 : e1 = 0
  · rw [if_pos c1] at h
    subst c1
    by_cases c2 : at1 < (l0.length : Int)
    · rw [if_pos c2] at h
      simp only [Option.some.injEq, Prod.mk.injEq] at h
      obtain ⟨rfl, rfl⟩ := h
      have c2b : decide (at1 < (l0.length : Int)) = true := decide_eq_true c2
      clear c2
      go_wp2
      go_ret2
      exact ⟨_, rfl, Kd.R_nil _ _ _ _ _, HB.out⟩
    · rw [if_neg c2] at h
      simp only [Option.some.injEq, Prod.mk.injEq] at h
      obtain ⟨rfl, rfl⟩ := h
      have c2b : decide (at1 < (l0.length : Int)) = false := decide_eq_false c2
      clear c2
      go_wp2
      go_ret2
      exact ⟨_, rfl, HO.out, HB.out⟩
  · rw [if_neg c1] at h
    simp only [Option.some.injEq, Prod.mk.injEq] at h
    obtain ⟨rfl, rfl⟩ := h
    have c1a : (e1 == 0) = false := beq_eq_false_iff_ne.mpr c1
    have c1b : (e1 != 0) = true := bne_iff_ne.mpr c1
    clear c1
    go_wp2
    (try go_region)
    all_goals ((try go_wp2); (try go_region); (try go_wp2); (try simp only [Exit.inBlock, Exit.then]); refine bodyPost_ret (results_list (rs := [.tmp 2, .tmp 3]) rfl (by simp) (.tmp (.tmp .nil))) rfl ?_; exact ⟨_, rfl, Kd.R_nil _ _ _ _ _, zb⟩)
theorem class_Get.calls (k : Nat) (A0 : Option Addr) (c0 : Nat) (l0 : List Int) (r1 : List (S38)) (r2 : Int) (w : World) (hr0 : Kd.C (Kd.int .u8) w A0 l0.length l0) (hc0 : l0.length ≤ c0) (h : class_Get.f k l0 = some (r1, r2)) :
    Calls Try.prog 9 #[.slice A0 l0.length c0] w fun e w' => ∃ v0_ : Value, e = .returned (.tuple #[v0_, .int .i64 r2]) ∧ Kd.R k38 38 w' w.heap.size (fun _ => True) v0_ r1 ∧ Below w.heap.size w w' :=
  (class_Get.callsr k A0 c0 l0 r1 r2 w hr0 hc0 h).mono (fun e w' ⟨v, he, hr, hb⟩ => ⟨v, he, k38r_R hr, hb⟩)
end Go.Proofs.Ytjbpdmkalegacaa.PClassFresh
