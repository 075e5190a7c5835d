-- laid by fake.py, a program of this session's, over the kit's print
import Derived.Test.YtjbpdmkalegacaaPClassBackx0
import Derived.Test.YtjbpdmkalegacaaPClassBackx3
import Derived.Test.YtjbpdmkalegacaaPClassBackx4
import Derived.Test.YtjbpdmkalegacaaPClassBackx5
import Derived.Test.YtjbpdmkalegacaaPClassBackx9
namespace Go.Proofs.Ytjbpdmkalegacaa.PClassBack
open Go.RowKit Go.Proofs.YtjbpdmkalegacaaW.PrintWords Go.Proofs.YtjbpdmkalegacaaW.PrintLast Go.Proofs.YtjbpdmkalegacaaW.PrintMore Go.Proofs.YtjbpdmkalegacaaW.Mine
attribute [local go_sem] Go.Proofs.YtjbpdmkalegacaaW.Mine.isSome_set max2_int min2_int max_two min_two max_three min_three max_four min_four   -- for this text's walks alone
set_option linter.unusedVariables false
set_option linter.unusedSimpArgs false

/-! ### garderoberef00_Same: function 18 -/
def garderoberef00_Same.l0 : Nat → List Int → List Int → Int → Option (Bool)
  | 0, _, _, _ => none
  | k + 1, x0, x1, x5 => if x5 < (x0.length : Int) then (if 0 ≤ x5 then (if x5 < (x1.length : Int) then (if (rd x0 x5) = (rd x1 x5) then (garderoberef00_Same.l0 k x0 x1 (wrap64 (x5 + 1))) else (some false)) else (none)) else (none)) else (some true)
def garderoberef00_Same.f (k : Nat) (l0 : List Int) (l1 : List Int) : Option (Bool) := if (l0.length : Int) = (l1.length : Int) then (garderoberef00_Same.l0 k l0 l1 0) else (some false)
theorem garderoberef00_Same.mono_l : ∀ k, (∀ y0 y1 y2, LeO (garderoberef00_Same.l0 k y0 y1 y2) (garderoberef00_Same.l0 (k + 1) y0 y1 y2))
  | 0 => fun _ _ _ r h => by simp [garderoberef00_Same.l0] at h
  | k + 1 => by
    have ih0 := garderoberef00_Same.mono_l k
    · intro y0 y1 y2
      unfold garderoberef00_Same.l0
      repeat' first
      | (with_reducible exact ih0 _ _ _)
      | (with_reducible exact LeO.refl _)
      | (with_reducible exact LeO.none _)
      | (with_reducible refine LeO.ite ?_ ?_)
      | (with_reducible refine LeO.bind ?_ (fun _ => ?_))
      | exact ih0 _ _ _
      | exact LeO.none _
      | refine LeO.ite ?_ ?_
      | refine LeO.bind ?_ (fun _ => ?_)
theorem garderoberef00_Same.mono : ∀ a0 a1 k, LeO (garderoberef00_Same.f k a0 a1) (garderoberef00_Same.f (k + 1) a0 a1) := by
  intro a0 a1 k
  have ih0 := garderoberef00_Same.mono_l k
  unfold garderoberef00_Same.f
  repeat' first
      | (with_reducible exact ih0 _ _ _)
      | (with_reducible exact LeO.refl _)
      | (with_reducible exact LeO.none _)
      | (with_reducible refine LeO.ite ?_ ?_)
      | (with_reducible refine LeO.bind ?_ (fun _ => ?_))
      | exact ih0 _ _ _
      | exact LeO.none _
      | refine LeO.ite ?_ ?_
      | refine LeO.bind ?_ (fun _ => ?_)
set_option maxHeartbeats 8000000 in
set_option maxRecDepth 100000 in
theorem garderoberef00_Same.calls (k : Nat) (A0 : Option Addr) (c0 : Nat) (l0 : List Int) (A1 : Option Addr) (c1 : Nat) (l1 : List Int) (r : Bool) (w : World) (hr0 : Kd.C (Kd.int .u8) w A0 l0.length l0) (hc0 : l0.length ≤ c0) (hr1 : Kd.C (Kd.int .u8) w A1 l1.length l1) (hc1 : l1.length ≤ c1) (h : garderoberef00_Same.f k l0 l1 = some r) :
    Calls Try.prog 18 #[.slice A0 l0.length c0, .slice A1 l1.length c1] w fun e w' => e = .returned (.bool r) ∧ Drawn0 w w' := by
  have HR0 := Aside0.mk hr0
  have HC0 := Aside0.mk hc0
  clear hr0 hc0
  have HR1 := Aside0.mk hr1
  have HC1 := Aside0.mk hc1
  clear hr1 hc1
  have H : (if (l0.length : Int) = (l1.length : Int) then (garderoberef00_Same.l0 k l0 l1 0) else (some false)) = some r := h
  clear h
  by_cases c3 : (l0.length : Int) = (l1.length : Int)
  · rw [if_pos c3] at H
    have c3b0 : ((l0.length : Int) == (l1.length : Int)) = true := beq_iff_eq.mpr c3
    have c3b1 : ((l0.length : Int) != (l1.length : Int)) = false := bne_eq_false_iff_eq.mpr c3
    have c3b2 : (l0.length == l1.length) = true := by first | simpa using c3 | (simp at c3 ⊢; omega)
    clear c3
    have H' := Aside0.mk H
    clear H
    go_enter Try.func18, Try.ntmps18
    go_wp2
    repeat (go_quiet (fail); try go_wp2)
    go_loopg [5] k (fun kq v5 w' => ∃ (x5_1 : Int), v5 = .int .i64 x5_1 ∧ Aside0 (garderoberef00_Same.l0 kq l0 l1 x5_1 = some r) ∧ Aside0 (kq ≤ k) ∧ Drawn0 w w')
    case atStart => exact ⟨(0), (by first | rfl | (simp; done) | (simp [*]; done)), H', ⟨Nat.le_refl _⟩, by repeat (first | exact Drawn0.refl _ | apply Drawn0.step)⟩
    case round =>
      clear H'
      try clear c1
      try clear p2
      try clear c3
      try clear c3b0
      try clear c3b1
      try clear c3b2
      obtain ⟨x5_1, rfl, HA, HK1, ⟨m1, rfl⟩⟩ := hrel
      cases gk with
      | zero => exact absurd HA.out (by simp [garderoberef00_Same.l0])
      | succ k1 =>
        have H := HA.out
        clear HA
        simp only [garderoberef00_Same.l0] at H
        by_cases c4 : x5_1 < (l0.length : Int)
        · rw [if_pos c4] at H
          have c4b0 : decide (x5_1 < (l0.length : Int)) = true := decide_eq_true c4
          clear c4
          by_cases c5 : 0 ≤ x5_1
          · rw [if_pos c5] at H
            have c5b0 : decide (0 ≤ x5_1) = true := decide_eq_true c5
            clear c5
            by_cases c6 : x5_1 < (l1.length : Int)
            · rw [if_pos c6] at H
              have c6b0 : decide (x5_1 < (l1.length : Int)) = true := decide_eq_true c6
              clear c6
              by_cases c7 : (rd l0 x5_1) = (rd l1 x5_1)
              · rw [if_pos c7] at H
                have c7b0 : ((rd l0 x5_1) == (rd l1 x5_1)) = true := beq_iff_eq.mpr c7
                have c7b1 : ((rd l0 x5_1) != (rd l1 x5_1)) = false := bne_eq_false_iff_eq.mpr c7
                clear c7
                have H' := Aside0.mk H
                clear H
                have p421 : 0 ≤ (x5_1 : Int) := of_decide_eq_true (by first | (with_reducible assumption) | assumption)
                have q421 : x5_1 < (l0.length : Int) := of_decide_eq_true (by first | (with_reducible assumption) | assumption)
                obtain ⟨ad421, e421, hx421_0⟩ := Kd.at_int HR0.out x5_1 p421 q421
                cases e421
                replace p421 := eq_true p421
                replace q421 := eq_true q421
                have p422 : 0 ≤ (x5_1 : Int) := of_decide_eq_true (by first | (with_reducible assumption) | assumption)
                have q422 : x5_1 < (l1.length : Int) := of_decide_eq_true (by first | (with_reducible assumption) | assumption)
                obtain ⟨ad422, e422, hx422_0⟩ := Kd.at_int HR1.out x5_1 p422 q422
                cases e422
                replace p422 := eq_true p422
                replace q422 := eq_true q422
                go_wp2
                repeat (go_quiet (fail); try go_wp2)
                go_roundg k1
                case measure => have := HK1.out; omega
                case rel => exact ⟨(wrap64 (x5_1 + 1)), (by first | rfl | (simp; done) | (simp [*]; done)), H', ⟨by have := HK1.out; omega⟩, by repeat (first | exact Drawn0.refl _ | apply Drawn0.step)⟩
              · rw [if_neg c7] at H
                have c7b0 : ((rd l0 x5_1) == (rd l1 x5_1)) = false := beq_eq_false_iff_ne.mpr c7
                have c7b1 : ((rd l0 x5_1) != (rd l1 x5_1)) = true := bne_iff_ne.mpr c7
                obtain rfl := Option.some.inj H
                have p421 : 0 ≤ (x5_1 : Int) := of_decide_eq_true (by first | (with_reducible assumption) | assumption)
                have q421 : x5_1 < (l0.length : Int) := of_decide_eq_true (by first | (with_reducible assumption) | assumption)
                obtain ⟨ad421, e421, hx421_0⟩ := Kd.at_int HR0.out x5_1 p421 q421
                cases e421
                replace p421 := eq_true p421
                replace q421 := eq_true q421
                have p422 : 0 ≤ (x5_1 : Int) := of_decide_eq_true (by first | (with_reducible assumption) | assumption)
                have q422 : x5_1 < (l1.length : Int) := of_decide_eq_true (by first | (with_reducible assumption) | assumption)
                obtain ⟨ad422, e422, hx422_0⟩ := Kd.at_int HR1.out x5_1 p422 q422
                cases e422
                replace p422 := eq_true p422
                replace q422 := eq_true q422
                go_wp2
                repeat (go_quiet (fail); try go_wp2)
                go_ret
                exact ⟨by first | rfl | (simp; done) | (simp [*]; done), by repeat (first | exact Drawn0.refl _ | apply Drawn0.step)⟩
            · rw [if_neg c6] at H
              exact absurd H (by simp)
          · rw [if_neg c5] at H
            exact absurd H (by simp)
        · rw [if_neg c4] at H
          have c4b0 : decide (x5_1 < (l0.length : Int)) = false := decide_eq_false c4
          clear c4
          obtain rfl := Option.some.inj H
          go_wp2
          repeat (go_quiet (fail); try go_wp2)
          go_ret
          exact ⟨by first | rfl | (simp; done) | (simp [*]; done), by repeat (first | exact Drawn0.refl _ | apply Drawn0.step)⟩
  · rw [if_neg c3] at H
    have c3b0 : ((l0.length : Int) == (l1.length : Int)) = false := beq_eq_false_iff_ne.mpr c3
    have c3b1 : ((l0.length : Int) != (l1.length : Int)) = true := bne_iff_ne.mpr c3
    have c3b2 : (l0.length == l1.length) = false := by first | simpa using c3 | (simp at c3 ⊢; omega)
    obtain rfl := Option.some.inj H
    go_enter Try.func18, Try.ntmps18
    go_wp2
    repeat (go_quiet (fail); try go_wp2)
    go_ret
    exact ⟨by first | rfl | (simp; done) | (simp [*]; done), by repeat (first | exact Drawn0.refl _ | apply Drawn0.step)⟩

/-! ### garderobelaw08_ClassBack: function 6 -/
def garderobelaw08_ClassBack.j0 : Nat → List Int → Option (Bool)
  | 0, _ => none
  | k + 1, x1 => (class_Get.f k x1).bind fun bt432 => (if bt432.2 = 0 then ((class_Put.f bt432.1).bind fun bt436 => (if bt436.2 = 0 then ((garderoberef00_Same.f k bt436.1 x1).bind fun t440 => (if t440 = true then ((garderobelaw08_works.f k).bind fun t441 => (some t441)) else (none))) else (none))) else (if (bt432.1.length : Int) = 0 then ((garderobelaw08_works.f k).bind fun t442 => (some t442)) else (none)))
def garderobelaw08_ClassBack.f (k : Nat) (l0 : List (S38)) (l1 : List Int) : Option (Bool) := (class_Put.f l0).bind fun bt423 => (if bt423.2 = 0 then ((class_Get.f k bt423.1).bind fun bt427 => (if bt427.2 = 0 then ((garderoberef08_Same.f k l0 bt427.1).bind fun t431 => (if t431 = true then (garderobelaw08_ClassBack.j0 k l1) else (none))) else (none))) else (garderobelaw08_ClassBack.j0 k l1))
theorem garderobelaw08_ClassBack.mono_l : ∀ k, (∀ y0, LeO (garderobelaw08_ClassBack.j0 k y0) (garderobelaw08_ClassBack.j0 (k + 1) y0))
  | 0 => fun _ r h => by simp [garderobelaw08_ClassBack.j0] at h
  | k + 1 => by
    have ih0 := garderobelaw08_ClassBack.mono_l k
    · intro y0
      unfold garderobelaw08_ClassBack.j0
      repeat' first
      | (with_reducible exact ih0 _)
      | (with_reducible exact class_Get.mono _ _)
      | (with_reducible exact garderobelaw08_works.mono _)
      | (with_reducible exact garderoberef00_Same.mono _ _ _)
      | (with_reducible exact garderoberef08_Same.mono _ _ _)
      | (with_reducible exact LeO.refl _)
      | (with_reducible exact LeO.none _)
      | (with_reducible refine LeO.ite ?_ ?_)
      | (with_reducible refine LeO.bind ?_ (fun _ => ?_))
      | exact ih0 _
      | exact class_Get.mono _ _
      | exact garderobelaw08_works.mono _
      | exact garderoberef00_Same.mono _ _ _
      | exact garderoberef08_Same.mono _ _ _
      | exact LeO.none _
      | refine LeO.ite ?_ ?_
      | refine LeO.bind ?_ (fun _ => ?_)
theorem garderobelaw08_ClassBack.mono : ∀ a0 a1 k, LeO (garderobelaw08_ClassBack.f k a0 a1) (garderobelaw08_ClassBack.f (k + 1) a0 a1) := by
  intro a0 a1 k
  have ih0 := garderobelaw08_ClassBack.mono_l k
  unfold garderobelaw08_ClassBack.f
  repeat' first
      | (with_reducible exact ih0 _)
      | (with_reducible exact class_Get.mono _ _)
      | (with_reducible exact garderobelaw08_works.mono _)
      | (with_reducible exact garderoberef00_Same.mono _ _ _)
      | (with_reducible exact garderoberef08_Same.mono _ _ _)
      | (with_reducible exact LeO.refl _)
      | (with_reducible exact LeO.none _)
      | (with_reducible refine LeO.ite ?_ ?_)
      | (with_reducible refine LeO.bind ?_ (fun _ => ?_))
      | exact ih0 _
      | exact class_Get.mono _ _
      | exact garderobelaw08_works.mono _
      | exact garderoberef00_Same.mono _ _ _
      | exact garderoberef08_Same.mono _ _ _
      | exact LeO.none _
      | refine LeO.ite ?_ ?_
      | refine LeO.bind ?_ (fun _ => ?_)
set_option maxHeartbeats 8000000 in
set_option maxRecDepth 100000 in
theorem garderobelaw08_ClassBack.calls (k : Nat) (A0 : Option Addr) (c0 : Nat) (l0 : List (S38)) (A1 : Option Addr) (c1 : Nat) (l1 : List Int) (r : Bool) (w : World) (hr0 : Kd.C k38 w A0 l0.length l0) (hc0 : l0.length ≤ c0) (hr1 : Kd.C (Kd.int .u8) w A1 l1.length l1) (hc1 : l1.length ≤ c1) (h : garderobelaw08_ClassBack.f k l0 l1 = some r) :
    Calls Try.prog 6 #[.slice A0 l0.length c0, .slice A1 l1.length c1] w fun e w' => e = .returned (.bool r) ∧ Below w.heap.size w w' := by
  have HR0 := Aside0.mk hr0
  have HC0 := Aside0.mk hc0
  clear hr0 hc0
  have HR1 := Aside0.mk hr1
  have HC1 := Aside0.mk hc1
  clear hr1 hc1
  have HB := Aside0.mk (Below.refl w.heap.size w)
  have H : ((class_Put.f l0).bind fun bt423 => (if bt423.2 = 0 then ((class_Get.f k bt423.1).bind fun bt427 => (if bt427.2 = 0 then ((garderoberef08_Same.f k l0 bt427.1).bind fun t431 => (if t431 = true then (garderobelaw08_ClassBack.j0 k l1) else (none))) else (none))) else (garderobelaw08_ClassBack.j0 k l1))) = some r := h
  clear h
  replace H := Option.bind_eq_some_iff.mp H
  obtain ⟨⟨t423, t424⟩, A30, H⟩ := H
  replace H : (if t424 = 0 then ((class_Get.f k t423).bind fun bt427 => (if bt427.2 = 0 then ((garderoberef08_Same.f k l0 bt427.1).bind fun t431 => (if t431 = true then (garderobelaw08_ClassBack.j0 k l1) else (none))) else (none))) else (garderobelaw08_ClassBack.j0 k l1)) = some r := H
  have A3 := Aside0.mk A30
  clear A30
  have HC4 := Aside0.mk H
  clear H
  go_enter Try.func6, Try.ntmps6
  go_upto_if 19 with (first | ((with_reducible refine gate_callee (f := 7) rfl ?_); refine goesL_ (some 15) rfl rfl Try.func7 (by kernel_rfl) rfl #[.slice A0 l0.length c0] rfl zargs ?_; (with_reducible refine (class_Put.calls _ _ l0 t423 t424 _ ?side1 ?side2 A3.out).mono ?_); (case side1 => repeat (first | exact HR0.out | (with_reducible refine Kd.C_alloc ?_ _) | (with_reducible refine Kd.C_drewN ?_ _) | (with_reducible refine Kd.C_drew ?_))); (case side2 => exact HC0.out); rintro e w5 ⟨v425, rfl, ho0, hb⟩; refine ⟨_, rfl, ?_⟩; have n0_ := Aside0.mk (Kd.R_lower ho0 (below_size (zb))); have n1_ := Aside0.mk (below_step (zb) hb); clear HB; have HO426 := n0_; have HB := n1_; clear n0_ n1_; (try clear hb); (try clear hb2); (try clear hk); (try clear hi); (try clear ho0)))
  (try simp only [Act.put, List.setIfInBounds_toArray, List.set_cons_zero, List.set_cons_succ])
  go_cut [] (fun wc => ∃ (kq : Nat), Aside0 (garderobelaw08_ClassBack.j0 kq l1 = some r) ∧ Aside0 (kq ≤ k) ∧ Aside0 (Below w.heap.size w wc))
  case first =>
    have H := HC4.out
    clear HC4
    by_cases c6 : t424 = 0
    · rw [if_pos c6] at H
      have c6b0 : (t424 == 0) = true := beq_iff_eq.mpr c6
      have c6b1 : (t424 != 0) = false := bne_eq_false_iff_eq.mpr c6
      clear c6
      (first | rw [c6b0] | (simp only [i64_w, i32_w]; rw [c6b0]) | skip)
      replace H := Option.bind_eq_some_iff.mp H
      obtain ⟨⟨t427, t428⟩, A70, H⟩ := H
      replace H : (if t428 = 0 then ((garderoberef08_Same.f k l0 t427).bind fun t431 => (if t431 = true then (garderobelaw08_ClassBack.j0 k l1) else (none))) else (none)) = some r := H
      have A7 := Aside0.mk A70
      clear A70
      by_cases c8 : t428 = 0
      · rw [if_pos c8] at H
        have c8b0 : (t428 == 0) = true := beq_iff_eq.mpr c8
        have c8b1 : (t428 != 0) = false := bne_eq_false_iff_eq.mpr c8
        clear c8
        replace H := Option.bind_eq_some_iff.mp H
        obtain ⟨t431, A90, H⟩ := H
        replace H : (if t431 = true then (garderobelaw08_ClassBack.j0 k l1) else (none)) = some r := H
        have A9 := Aside0.mk A90
        clear A90
        by_cases c10 : t431 = true
        · subst c10
          have H1 : (garderobelaw08_ClassBack.j0 k l1) = some r := by rw [if_pos rfl] at H; exact H
          clear H
          have H := H1
          clear H1
          have H' := Aside0.mk H
          clear H
          obtain ⟨Ao11, co11, eo11⟩ := Kd.R_slice HO426.out
          subst eo11
          go_wp2_with (first | ((with_reducible refine gate_callee (f := 9) rfl ?_); refine goesL_ (some 22) rfl rfl Try.func9 (by kernel_rfl) rfl #[.slice Ao11 t423.length co11] rfl zargs ?_; (with_reducible refine (class_Get.calls k _ _ t423 t427 t428 _ ?side1 ?side2 A7.out).mono ?_); (case side1 => repeat (first | exact (Kd.R_reads' HO426.out).2.2 | (with_reducible refine Kd.C_alloc ?_ _) | (with_reducible refine Kd.C_drewN ?_ _) | (with_reducible refine Kd.C_drew ?_))); (case side2 => exact (Kd.R_reads' HO426.out).2.1); rintro e w12 ⟨v429, rfl, ho0, hb⟩; refine ⟨_, rfl, ?_⟩; have n0_ := Aside0.mk (Kd.R_below (by (with_reducible repeat (first | apply Kd.R_alloc | apply Kd.R_drewN | apply Kd.R_drew)); exact HO426.out) hb); have n1_ := Aside0.mk (Kd.R_lower (Kd.R_new' ho0 (Kd.R_lt (by (with_reducible repeat (first | apply Kd.R_alloc | apply Kd.R_drewN | apply Kd.R_drew)); exact HO426.out))) (below_size (zb))); have n2_ := Aside0.mk (below_step (zb) hb); clear HO426; clear HB; have HO426 := n0_; have HO430 := n1_; have HB := n2_; clear n0_ n1_ n2_; (try clear hb); (try clear hb2); (try clear hk); (try clear hi); (try clear ho0); obtain ⟨Ao13, co13, eo13⟩ := Kd.R_slice HO430.out; subst eo13) | (go_at_call 14; (with_reducible refine (garderoberef08_Same.calls k _ _ l0 _ _ t427 true _ ?side1 ?side2 ?side3 ?side4 A9.out).mono ?_); (case side1 => repeat (first | exact (Kd.C_below HR0.out HB.out) | (with_reducible refine Kd.C_alloc ?_ _) | (with_reducible refine Kd.C_drewN ?_ _) | (with_reducible refine Kd.C_drew ?_))); (case side2 => exact HC0.out); (case side3 => repeat (first | exact (Kd.R_reads' HO430.out).2.2 | (with_reducible refine Kd.C_alloc ?_ _) | (with_reducible refine Kd.C_drewN ?_ _) | (with_reducible refine Kd.C_drew ?_))); (case side4 => exact (Kd.R_reads' HO430.out).2.1); rintro e w14 ⟨rfl, hb⟩; have n0_ := Aside0.mk (Kd.R_below (by (with_reducible repeat (first | apply Kd.R_alloc | apply Kd.R_drewN | apply Kd.R_drew)); exact HO426.out) hb); have n1_ := Aside0.mk (Kd.R_below (by (with_reducible repeat (first | apply Kd.R_alloc | apply Kd.R_drewN | apply Kd.R_drew)); exact HO430.out) hb); have n2_ := Aside0.mk (below_step (zb) hb); clear HO426; clear HO430; clear HB; have HO426 := n0_; have HO430 := n1_; have HB := n2_; clear n0_ n1_ n2_; (try clear hb); (try clear hb2); (try clear hk); (try clear hi)))
          go_meet
          case rel => exact ⟨_, H', ⟨by first | omega | exact Nat.le_refl _⟩, ⟨zb⟩⟩
        · replace c10 := Bool.eq_false_iff.mpr c10
          subst c10
          have H1 : (none) = some r := by rw [if_neg (show ¬ (false = true) by decide)] at H; exact H
          clear H
          have H := H1
          clear H1
          exact absurd H (by simp)
      · rw [if_neg c8] at H
        exact absurd H (by simp)
    · rw [if_neg c6] at H
      have c6b0 : (t424 == 0) = false := beq_eq_false_iff_ne.mpr c6
      have c6b1 : (t424 != 0) = true := bne_iff_ne.mpr c6
      (first | rw [c6b0] | (simp only [i64_w, i32_w]; rw [c6b0]) | skip)
      have H' := Aside0.mk H
      clear H
      go_wp2
      go_meet
      case rel => exact ⟨_, H', ⟨by first | omega | exact Nat.le_refl _⟩, ⟨zb⟩⟩
  case rest =>
    clear HC4
    try clear c1
    try clear p2
    try clear c6
    try clear c6b0
    try clear c6b1
    try clear c7
    try clear c8
    try clear c8b0
    try clear c8b1
    try clear c9
    try clear c10
    obtain ⟨kq, HA, HJ3, HB⟩ := hcut
    cases kq with
    | zero => exact absurd HA.out (by simp [garderobelaw08_ClassBack.j0])
    | succ kj3 =>
      have H := HA.out
      clear HA
      simp only [garderobelaw08_ClassBack.j0] at H
      replace H := Option.bind_eq_some_iff.mp H
      obtain ⟨⟨t432, t433⟩, A150, H⟩ := H
      replace H : (if t433 = 0 then ((class_Put.f t432).bind fun bt436 => (if bt436.2 = 0 then ((garderoberef00_Same.f kj3 bt436.1 l1).bind fun t440 => (if t440 = true then ((garderobelaw08_works.f kj3).bind fun t441 => (some t441)) else (none))) else (none))) else (if (t432.length : Int) = 0 then ((garderobelaw08_works.f kj3).bind fun t442 => (some t442)) else (none))) = some r := H
      have A15 := Aside0.mk A150
      clear A150
      by_cases c16 : t433 = 0
      · rw [if_pos c16] at H
        have c16b0 : (t433 == 0) = true := beq_iff_eq.mpr c16
        have c16b1 : (t433 != 0) = false := bne_eq_false_iff_eq.mpr c16
        clear c16
        replace H := Option.bind_eq_some_iff.mp H
        obtain ⟨⟨t436, t437⟩, A170, H⟩ := H
        replace H : (if t437 = 0 then ((garderoberef00_Same.f kj3 t436 l1).bind fun t440 => (if t440 = true then ((garderobelaw08_works.f kj3).bind fun t441 => (some t441)) else (none))) else (none)) = some r := H
        have A17 := Aside0.mk A170
        clear A170
        by_cases c18 : t437 = 0
        · rw [if_pos c18] at H
          have c18b0 : (t437 == 0) = true := beq_iff_eq.mpr c18
          have c18b1 : (t437 != 0) = false := bne_eq_false_iff_eq.mpr c18
          clear c18
          replace H := Option.bind_eq_some_iff.mp H
          obtain ⟨t440, A190, H⟩ := H
          replace H : (if t440 = true then ((garderobelaw08_works.f kj3).bind fun t441 => (some t441)) else (none)) = some r := H
          have A19 := Aside0.mk A190
          clear A190
          by_cases c20 : t440 = true
          · subst c20
            have H1 : ((garderobelaw08_works.f kj3).bind fun t441 => (some t441)) = some r := by rw [if_pos rfl] at H; exact H
            clear H
            have H := H1
            clear H1
            replace H := Option.bind_eq_some_iff.mp H
            obtain ⟨t441, A210, H⟩ := H
            replace H : (some t441) = some r := H
            have A21 := Aside0.mk A210
            clear A210
            obtain rfl := Option.some.inj H
            go_wp2_with (first | ((with_reducible refine gate_callee (f := 9) rfl ?_); refine goesL_ (some 35) rfl rfl Try.func9 (by kernel_rfl) rfl #[.slice A1 l1.length c1] rfl zargs ?_; (with_reducible refine (class_Get.calls kj3 _ _ l1 t432 t433 _ ?side1 ?side2 A15.out).mono ?_); (case side1 => repeat (first | exact (Kd.C_below HR1.out HB.out) | (with_reducible refine Kd.C_alloc ?_ _) | (with_reducible refine Kd.C_drewN ?_ _) | (with_reducible refine Kd.C_drew ?_))); (case side2 => exact HC1.out); rintro e w22 ⟨v434, rfl, ho0, hb⟩; refine ⟨_, rfl, ?_⟩; have n0_ := Aside0.mk (Kd.R_lower ho0 (below_size (zb))); have n1_ := Aside0.mk (below_step (zb) hb); clear HB; have HO435 := n0_; have HB := n1_; clear n0_ n1_; (try clear hb); (try clear hb2); (try clear hk); (try clear hi); (try clear ho0); obtain ⟨Ao23, co23, eo23⟩ := Kd.R_slice HO435.out; subst eo23) | ((with_reducible refine gate_callee (f := 7) rfl ?_); refine goesL_ (some 48) rfl rfl Try.func7 (by kernel_rfl) rfl #[.slice Ao23 t432.length co23] rfl zargs ?_; (with_reducible refine (class_Put.calls _ _ t432 t436 t437 _ ?side1 ?side2 A17.out).mono ?_); (case side1 => repeat (first | exact (Kd.R_reads' HO435.out).2.2 | (with_reducible refine Kd.C_alloc ?_ _) | (with_reducible refine Kd.C_drewN ?_ _) | (with_reducible refine Kd.C_drew ?_))); (case side2 => exact (Kd.R_reads' HO435.out).2.1); rintro e w24 ⟨v438, rfl, ho0, hb⟩; refine ⟨_, rfl, ?_⟩; have n0_ := Aside0.mk (Kd.R_elder' (by (with_reducible repeat (first | apply Kd.R_alloc | apply Kd.R_drewN | apply Kd.R_drew)); exact HO435.out) (Kd.R_base ho0) hb); have n1_ := Aside0.mk (Kd.R_lower ho0 (below_size (zb))); have n2_ := Aside0.mk (below_step (zb) hb); clear HO435; clear HB; have HO435 := n0_; have HO439 := n1_; have HB := n2_; clear n0_ n1_ n2_; (try clear hb); (try clear hb2); (try clear hk); (try clear hi); (try clear ho0); obtain ⟨Ao25, co25, eo25⟩ := Kd.R_slice HO439.out; subst eo25) | (go_at_call 18; (with_reducible refine (garderoberef00_Same.calls kj3 _ _ t436 _ _ l1 true _ ?side1 ?side2 ?side3 ?side4 A19.out).mono ?_); (case side1 => repeat (first | exact (Kd.R_reads' HO439.out).2.2 | (with_reducible refine Kd.C_alloc ?_ _) | (with_reducible refine Kd.C_drewN ?_ _) | (with_reducible refine Kd.C_drew ?_))); (case side2 => exact (Kd.R_reads' HO439.out).2.1); (case side3 => repeat (first | exact (Kd.C_below HR1.out HB.out) | (with_reducible refine Kd.C_alloc ?_ _) | (with_reducible refine Kd.C_drewN ?_ _) | (with_reducible refine Kd.C_drew ?_))); (case side4 => exact HC1.out); rintro e w' ⟨rfl, ⟨nd, rfl⟩⟩) | (go_at_call 8; (with_reducible refine (garderobelaw08_works.calls kj3  t441 _ A21.out).mono ?_); rintro e w26 ⟨rfl, hb⟩; have n0_ := Aside0.mk (Kd.R_below (by (with_reducible repeat (first | apply Kd.R_alloc | apply Kd.R_drewN | apply Kd.R_drew)); exact HO435.out) hb); have n1_ := Aside0.mk (Kd.R_below (by (with_reducible repeat (first | apply Kd.R_alloc | apply Kd.R_drewN | apply Kd.R_drew)); exact HO439.out) hb); have n2_ := Aside0.mk (below_step (zb) hb); clear HO435; clear HO439; clear HB; have HO435 := n0_; have HO439 := n1_; have HB := n2_; clear n0_ n1_ n2_; (try clear hb); (try clear hb2); (try clear hk); (try clear hi)))
            go_ret
            exact ⟨by first | rfl | (simp [errW_none, errW_some] <;> rfl) | (simp [*, errW_none, errW_some] <;> rfl), zb⟩
          · replace c20 := Bool.eq_false_iff.mpr c20
            subst c20
            have H1 : (none) = some r := by rw [if_neg (show ¬ (false = true) by decide)] at H; exact H
            clear H
            have H := H1
            clear H1
            exact absurd H (by simp)
        · rw [if_neg c18] at H
          exact absurd H (by simp)
      · rw [if_neg c16] at H
        have c16b0 : (t433 == 0) = false := beq_eq_false_iff_ne.mpr c16
        have c16b1 : (t433 != 0) = true := bne_iff_ne.mpr c16
        by_cases c27 : (t432.length : Int) = 0
        · rw [if_pos c27] at H
          have c27b0 : ((t432.length : Int) == 0) = true := beq_iff_eq.mpr c27
          have c27b1 : ((t432.length : Int) != 0) = false := bne_eq_false_iff_eq.mpr c27
          clear c27
          replace H := Option.bind_eq_some_iff.mp H
          obtain ⟨t442, A280, H⟩ := H
          replace H : (some t442) = some r := H
          have A28 := Aside0.mk A280
          clear A280
          obtain rfl := Option.some.inj H
          go_wp2_with (first | ((with_reducible refine gate_callee (f := 9) rfl ?_); refine goesL_ (some 35) rfl rfl Try.func9 (by kernel_rfl) rfl #[.slice A1 l1.length c1] rfl zargs ?_; (with_reducible refine (class_Get.calls kj3 _ _ l1 t432 t433 _ ?side1 ?side2 A15.out).mono ?_); (case side1 => repeat (first | exact (Kd.C_below HR1.out HB.out) | (with_reducible refine Kd.C_alloc ?_ _) | (with_reducible refine Kd.C_drewN ?_ _) | (with_reducible refine Kd.C_drew ?_))); (case side2 => exact HC1.out); rintro e w29 ⟨v434, rfl, ho0, hb⟩; refine ⟨_, rfl, ?_⟩; have n0_ := Aside0.mk (Kd.R_lower ho0 (below_size (zb))); have n1_ := Aside0.mk (below_step (zb) hb); clear HB; have HO435 := n0_; have HB := n1_; clear n0_ n1_; (try clear hb); (try clear hb2); (try clear hk); (try clear hi); (try clear ho0); obtain ⟨Ao30, co30, eo30⟩ := Kd.R_slice HO435.out; subst eo30) | (go_at_call 8; (with_reducible refine (garderobelaw08_works.calls kj3  t442 _ A28.out).mono ?_); rintro e w31 ⟨rfl, hb⟩; have n0_ := Aside0.mk (Kd.R_below (by (with_reducible repeat (first | apply Kd.R_alloc | apply Kd.R_drewN | apply Kd.R_drew)); exact HO435.out) hb); have n1_ := Aside0.mk (below_step (zb) hb); clear HO435; clear HB; have HO435 := n0_; have HB := n1_; clear n0_ n1_; (try clear hb); (try clear hb2); (try clear hk); (try clear hi)))
          go_ret
          exact ⟨by first | rfl | (simp [errW_none, errW_some] <;> rfl) | (simp [*, errW_none, errW_some] <;> rfl), zb⟩
        · rw [if_neg c27] at H
          exact absurd H (by simp)

end Go.Proofs.Ytjbpdmkalegacaa.PClassBack
