/- Of ClassFresh's texts: what the law uses. -/
import Derived.Test.YtjbpdmkalegacaaVPClassFreshx0
import Derived.Test.YtjbpdmkalegacaaVPClassFreshx5
namespace Go.Proofs.Ytjbpdmkalegacaa.PClassFresh
open Go.RowKit Go.Proofs.YtjbpdmkalegacaaW.PrintWords Go.Proofs.YtjbpdmkalegacaaW.PrintLast Go.Proofs.YtjbpdmkalegacaaW.PrintMore Go.Proofs.YtjbpdmkalegacaaW.Mine
attribute [local go_sem] Go.Proofs.YtjbpdmkalegacaaW.Mine.isSome_set max2_int min2_int max_two min_two max_three min_three max_four min_four   -- for this text's walks alone
set_option linter.unusedVariables false
set_option linter.unusedSimpArgs false
def garderoberef02_Size.f (a0 : Int) : Option (Bool) := if a0 = 1 then (some true) else (if a0 = 2 then (some true) else (some (a0 == 4)))
set_option maxHeartbeats 8000000 in
set_option maxRecDepth 100000 in
theorem garderoberef02_Size.calls (a0 : Int) (r : Bool) (w : World) (h : garderoberef02_Size.f a0 = some r) :
    Calls Try.prog 72 #[.int .i64 a0] w fun e w' => e = .returned (.bool r) ∧ Drawn0 w w' := by
  have H : (if a0 = 1 then (some true) else (if a0 = 2 then (some true) else (some (a0 == 4)))) = some r := h
  clear h
  by_cases c2 : a0 = 1
  · rw [if_pos c2] at H
    have c2b0 : (a0 == 1) = true := beq_iff_eq.mpr c2
    have c2b1 : (a0 != 1) = false := bne_eq_false_iff_eq.mpr c2
    clear c2
    obtain rfl := Option.some.inj H
    go_enter Try.func72, Try.ntmps72
    go_wp2
    go_ret
    exact ⟨by first | rfl | (simp; done) | (simp [*]; done), by repeat (first | exact Drawn0.refl _ | apply Drawn0.step)⟩
  · rw [if_neg c2] at H
    have c2b0 : (a0 == 1) = false := beq_eq_false_iff_ne.mpr c2
    have c2b1 : (a0 != 1) = true := bne_iff_ne.mpr c2
    by_cases c3 : a0 = 2
    · rw [if_pos c3] at H
      have c3b0 : (a0 == 2) = true := beq_iff_eq.mpr c3
      have c3b1 : (a0 != 2) = false := bne_eq_false_iff_eq.mpr c3
      clear c3
      obtain rfl := Option.some.inj H
      go_enter Try.func72, Try.ntmps72
      go_wp2
      go_ret
      exact ⟨by first | rfl | (simp; done) | (simp [*]; done), by repeat (first | exact Drawn0.refl _ | apply Drawn0.step)⟩
    · rw [if_neg c3] at H
      have c3b0 : (a0 == 2) = false := beq_eq_false_iff_ne.mpr c3
      have c3b1 : (a0 != 2) = true := bne_iff_ne.mpr c3
      obtain rfl := Option.some.inj H
      go_enter Try.func72, Try.ntmps72
      go_wp2
      go_ret
      exact ⟨by first | rfl | (simp; done) | (simp [*]; done), by repeat (first | exact Drawn0.refl _ | apply Drawn0.step)⟩
mutual
def garderoberef02_Get.j0 : Nat → List Int → Int → Int → Bool → Option (Int × Int)
  | 0, _, _, _, _ => none
  | k + 1, x0, x1, x2, x22 => if x22 = true then (some (0, 2)) else (if (wrap64 ((x0.length : Int) - x1)) < x2 then (some (0, 4)) else (garderoberef02_Get.l0 k x0 x1 x2 0 0))
def garderoberef02_Get.l0 : Nat → List Int → Int → Int → Int → Int → Option (Int × Int)
  | 0, _, _, _, _, _ => none
  | k + 1, x0, x1, x2, x8, x9 => if x9 < x2 then (if 0 ≤ (wrap64 (x1 + x9)) then (if (wrap64 (x1 + x9)) < (x0.length : Int) then (garderoberef02_Get.l0 k x0 x1 x2 ((((256 * x8) % 4294967296) + ((rd x0 (wrap64 (x1 + x9))) % 4294967296)) % 4294967296) (wrap64 (x9 + 1))) else (none)) else (none)) else (some (x8, 0))
end
def garderoberef02_Get.f (k : Nat) (l0 : List Int) (a1 : Int) (a2 : Int) : Option (Int × Int) := (garderoberef02_Size.f a2).bind fun t305 => (if t305 = true then (if a1 < 0 then (garderoberef02_Get.j0 k l0 a1 a2 true) else (garderoberef02_Get.j0 k l0 a1 a2 (decide (a1 > (l0.length : Int))))) else (garderoberef02_Get.j0 k l0 a1 a2 true))
set_option maxHeartbeats 8000000 in
set_option maxRecDepth 100000 in
theorem garderoberef02_Get.calls (k : Nat) (A0 : Option Addr) (c0 : Nat) (l0 : List Int) (a1 : Int) (a2 : Int) (r1 : Int) (r2 : Int) (w : World) (hr0 : Kd.C (Kd.int .u8) w A0 l0.length l0) (hc0 : l0.length ≤ c0) (h : garderoberef02_Get.f k l0 a1 a2 = some (r1, r2)) :
    Calls Try.prog 52 #[.slice A0 l0.length c0, .int .i64 a1, .int .i64 a2] w fun e w' => e = .returned (.tuple #[.int .u32 r1, .int .i64 r2]) ∧ Drawn0 w w' := by
  have HR0 := Aside0.mk hr0
  have HC0 := Aside0.mk hc0
  clear hr0 hc0
  have H : ((garderoberef02_Size.f a2).bind fun t305 => (if t305 = true then (if a1 < 0 then (garderoberef02_Get.j0 k l0 a1 a2 true) else (garderoberef02_Get.j0 k l0 a1 a2 (decide (a1 > (l0.length : Int))))) else (garderoberef02_Get.j0 k l0 a1 a2 true))) = some (r1, r2) := h
  clear h
  have HC4 := Aside0.mk H
  clear H
  go_enter Try.func52, Try.ntmps52
  go_upto_region 1 with (fail)
  go_cut [22] (fun v22 wc => ∃ (kq : Nat) (x22_3 : Bool), v22 = .bool x22_3 ∧ Aside0 (garderoberef02_Get.j0 kq l0 a1 a2 x22_3 = some (r1, r2)) ∧ Aside0 (kq ≤ k) ∧ Drawn0 w wc)
  case first =>
    have H := HC4.out
    clear HC4
    replace H := Option.bind_eq_some_iff.mp H
    obtain ⟨t305, A50, H⟩ := H
    replace H : (if t305 = true then (if a1 < 0 then (garderoberef02_Get.j0 k l0 a1 a2 true) else (garderoberef02_Get.j0 k l0 a1 a2 (decide (a1 > (l0.length : Int))))) else (garderoberef02_Get.j0 k l0 a1 a2 true)) = some (r1, r2) := H
    have A5 := Aside0.mk A50
    clear A50
    by_cases c6 : t305 = true
    · subst c6
      have H1 : (if a1 < 0 then (garderoberef02_Get.j0 k l0 a1 a2 true) else (garderoberef02_Get.j0 k l0 a1 a2 (decide (a1 > (l0.length : Int))))) = some (r1, r2) := by rw [if_pos rfl] at H; exact H
      clear H
      have H := H1
      clear H1
      by_cases c7 : a1 < 0
      · rw [if_pos c7] at H
        have c7b0 : decide (a1 < 0) = true := decide_eq_true c7
        clear c7
        (first | rw [c7b0] | (simp only [i64_w, i32_w]; rw [c7b0]) | skip)
        have H' := Aside0.mk H
        clear H
        go_wp2_with (first | ((with_reducible refine gate_callee (f := 72) rfl ?_); refine goesL_ (some 11) rfl rfl Try.func72 (by kernel_rfl) rfl #[.int .i64 a2] rfl zargs ?_; (with_reducible refine (garderoberef02_Size.calls a2 true _ A5.out).mono ?_); rintro e w' ⟨rfl, ⟨nd, rfl⟩⟩; refine ⟨_, rfl, ?_⟩))
        go_meet
        case rel => exact ⟨_, (true), zs, H', ⟨by first | omega | exact Nat.le_refl _⟩, by repeat (first | exact Drawn0.refl _ | apply Drawn0.step)⟩
      · rw [if_neg c7] at H
        have c7b0 : decide (a1 < 0) = false := decide_eq_false c7
        clear c7
        (first | rw [c7b0] | (simp only [i64_w, i32_w]; rw [c7b0]) | skip)
        have H' := Aside0.mk H
        clear H
        go_wp2_with (first | ((with_reducible refine gate_callee (f := 72) rfl ?_); refine goesL_ (some 11) rfl rfl Try.func72 (by kernel_rfl) rfl #[.int .i64 a2] rfl zargs ?_; (with_reducible refine (garderoberef02_Size.calls a2 true _ A5.out).mono ?_); rintro e w' ⟨rfl, ⟨nd, rfl⟩⟩; refine ⟨_, rfl, ?_⟩))
        go_meet
        case rel => exact ⟨_, (decide (a1 > (l0.length : Int))), zs, H', ⟨by first | omega | exact Nat.le_refl _⟩, by repeat (first | exact Drawn0.refl _ | apply Drawn0.step)⟩
    · replace c6 := Bool.eq_false_iff.mpr c6
      subst c6
      have H1 : (garderoberef02_Get.j0 k l0 a1 a2 true) = some (r1, r2) := by rw [if_neg (show ¬ (false = true) by decide)] at H; exact H
      clear H
      have H := H1
      clear H1
      have H' := Aside0.mk H
      clear H
      go_wp2_with (first | ((with_reducible refine gate_callee (f := 72) rfl ?_); refine goesL_ (some 11) rfl rfl Try.func72 (by kernel_rfl) rfl #[.int .i64 a2] rfl zargs ?_; (with_reducible refine (garderoberef02_Size.calls a2 false _ A5.out).mono ?_); rintro e w' ⟨rfl, ⟨nd, rfl⟩⟩; refine ⟨_, rfl, ?_⟩))
      go_meet
      case rel => exact ⟨_, (true), zs, H', ⟨by first | omega | exact Nat.le_refl _⟩, by repeat (first | exact Drawn0.refl _ | apply Drawn0.step)⟩
  case rest =>
    clear HC4
    try clear p2
    try clear c5
    try clear c6
    try clear c7
    try clear c7b0
    obtain ⟨kq, x22_3, rfl, HA, HJ3, ⟨mc3, rfl⟩⟩ := hcut
    cases kq with
    | zero => exact absurd HA.out (by simp [garderoberef02_Get.j0])
    | succ kj3 =>
      have H := HA.out
      clear HA
      simp only [garderoberef02_Get.j0] at H
      by_cases c8 : x22_3 = true
      · subst c8
        have H1 : (some (0, 2)) = some (r1, r2) := by rw [if_pos rfl] at H; exact H
        clear H
        have H := H1
        clear H1
        simp only [Option.some.injEq, Prod.mk.injEq] at H
        obtain ⟨rfl, rfl⟩ := H
        go_wp2
        go_ret2
        exact ⟨by first | rfl | (simp; done) | (simp [*]; done), by repeat (first | exact Drawn0.refl _ | apply Drawn0.step)⟩
      · replace c8 := Bool.eq_false_iff.mpr c8
        subst c8
        have H1 : (if (wrap64 ((l0.length : Int) - a1)) < a2 then (some (0, 4)) else (garderoberef02_Get.l0 kj3 l0 a1 a2 0 0)) = some (r1, r2) := by rw [if_neg (show ¬ (false = true) by decide)] at H; exact H
        clear H
        have H := H1
        clear H1
        by_cases c9 : (wrap64 ((l0.length : Int) - a1)) < a2
        · rw [if_pos c9] at H
          have c9b0 : decide ((wrap64 ((l0.length : Int) - a1)) < a2) = true := decide_eq_true c9
          clear c9
          simp only [Option.some.injEq, Prod.mk.injEq] at H
          obtain ⟨rfl, rfl⟩ := H
          go_wp2
          go_ret2
          exact ⟨by first | rfl | (simp; done) | (simp [*]; done), by repeat (first | exact Drawn0.refl _ | apply Drawn0.step)⟩
        · rw [if_neg c9] at H
          have c9b0 : decide ((wrap64 ((l0.length : Int) - a1)) < a2) = false := decide_eq_false c9
          clear c9
          have H' := Aside0.mk H
          clear H
          go_wp2
          go_loopg [8, 9] kj3 (fun kq v8 v9 w' => ∃ (x8_2 : Int) (x9_2 : Int), v8 = .int .u32 x8_2 ∧ v9 = .int .i64 x9_2 ∧ Aside0 (garderoberef02_Get.l0 kq l0 a1 a2 x8_2 x9_2 = some (r1, r2)) ∧ Aside0 (kq ≤ kj3) ∧ Drawn0 w w')
          case atStart => exact ⟨(0), (0), zs, zs, H', ⟨Nat.le_refl _⟩, by repeat (first | exact Drawn0.refl _ | apply Drawn0.step)⟩
          case round =>
            clear H'
            try clear p2
            try clear c3
            try clear c5
            try clear c6
            try clear p6
            try clear c7
            try clear c7b0
            try clear c8
            try clear c9
            try clear c9b0
            try clear p2
            obtain ⟨x8_2, x9_2, rfl, rfl, HA, HK2, ⟨m2, rfl⟩⟩ := hrel
            cases gk with
            | zero => exact absurd HA.out (by simp [garderoberef02_Get.l0])
            | succ k2 =>
              have H := HA.out
              clear HA
              simp only [garderoberef02_Get.l0] at H
              by_cases c10 : x9_2 < a2
              · rw [if_pos c10] at H
                have c10b0 : decide (x9_2 < a2) = true := decide_eq_true c10
                clear c10
                obtain ⟨ji11, hji11⟩ : ∃ j_ : Int, (wrap64 (a1 + x9_2)) = j_ := ⟨_, rfl⟩
                replace H : (if 0 ≤ (ji11) then (if (ji11) < (l0.length : Int) then (garderoberef02_Get.l0 k2 l0 a1 a2 ((((256 * x8_2) % 4294967296) + ((rd l0 (ji11)) % 4294967296)) % 4294967296) (wrap64 (x9_2 + 1))) else (none)) else (none)) = some (r1, r2) := by first | (rw [hji11] at H; exact H) | (simp only [hji11] at H ⊢; exact H)
                have hji11w : (IntKind.i64.wrap (a1 + x9_2)) = ji11 := (i64_w _).trans hji11
                by_cases c12 : 0 ≤ (ji11)
                · rw [if_pos c12] at H
                  have c12b0 : decide (0 ≤ (ji11)) = true := decide_eq_true c12
                  clear c12
                  by_cases c13 : (ji11) < (l0.length : Int)
                  · rw [if_pos c13] at H
                    have c13b0 : decide ((ji11) < (l0.length : Int)) = true := decide_eq_true c13
                    clear c13
                    have H' := Aside0.mk H
                    clear H
                    have p306 : 0 ≤ ((ji11) : Int) := of_decide_eq_true (by first | (with_reducible assumption) | assumption)
                    have q306 : (ji11) < (l0.length : Int) := of_decide_eq_true (by first | (with_reducible assumption) | assumption)
                    obtain ⟨ad306, e306, hx306_0⟩ := Kd.at_int HR0.out (ji11) p306 q306
                    cases e306
                    replace p306 := eq_true p306
                    replace q306 := eq_true q306
                    go_wp2
                    go_roundg k2
                    case measure => have := HJ3.out; have := HK2.out; omega
                    case rel => exact ⟨((((256 * x8_2) % 4294967296) + ((rd l0 (ji11)) % 4294967296)) % 4294967296), (wrap64 (x9_2 + 1)), (by first | rfl | (simp; done) | (simp only [← hji11] <;> (first | rfl | simp)) | (simp [*]; done)), zs, H', ⟨by have := HJ3.out; have := HK2.out; omega⟩, by repeat (first | exact Drawn0.refl _ | apply Drawn0.step)⟩
                  · rw [if_neg c13] at H
                    exact absurd H (by simp)
                · rw [if_neg c12] at H
                  exact absurd H (by simp)
              · rw [if_neg c10] at H
                have c10b0 : decide (x9_2 < a2) = false := decide_eq_false c10
                clear c10
                simp only [Option.some.injEq, Prod.mk.injEq] at H
                obtain ⟨rfl, rfl⟩ := H
                go_wp2
                go_ret2
                exact ⟨by first | rfl | (simp; done) | (simp [*]; done), by repeat (first | exact Drawn0.refl _ | apply Drawn0.step)⟩
-- NOT PRINTED: function 23 (garderoberef08_taker_number)
def garderoberef04_Get.j0 : Nat → List Int → Int → Int → Bool → Option (Int × Int × Int × Int)
  | 0, _, _, _, _ => none
  | k + 1, x0, x1, x7, x27 => if x27 = true then (some (0, 0, 0, 5)) else ((garderoberef04_classed.f ((x7) % 256)).bind fun t313 => (if t313 = true then ((garderoberef02_Get.f k x0 (wrap64 (x1 + 1)) 2).bind fun bt314 => (if bt314.2 = 0 then (some ((x7) % 256, IntKind.u16.wrap (bt314.1), wrap64 ((wrap64 (x1 + 1)) + 2), 0)) else (some (0, 0, 0, bt314.2)))) else (some ((x7) % 256, 0, wrap64 (x1 + 1), 0))))
def garderoberef04_Get.f (k : Nat) (l0 : List Int) (a1 : Int) : Option (Int × Int × Int × Int) := (garderoberef02_Get.f k l0 a1 1).bind fun bt310 => (if bt310.2 = 0 then (if bt310.1 < 1 then (garderoberef04_Get.j0 k l0 a1 bt310.1 true) else (garderoberef04_Get.j0 k l0 a1 bt310.1 (decide (bt310.1 > 8)))) else (some (0, 0, 0, bt310.2)))
set_option maxHeartbeats 8000000 in
set_option maxRecDepth 100000 in
theorem garderoberef04_Get.calls (k : Nat) (A0 : Option Addr) (c0 : Nat) (l0 : List Int) (a1 : Int) (r1 : Int) (r2 : Int) (r3 : Int) (r4 : Int) (w : World) (hr0 : Kd.C (Kd.int .u8) w A0 l0.length l0) (hc0 : l0.length ≤ c0) (h : garderoberef04_Get.f k l0 a1 = some (r1, r2, r3, r4)) :
    Calls Try.prog 55 #[.slice A0 l0.length c0, .int .i64 a1] w fun e w' => e = .returned (.tuple #[.agg #[.int .u8 r1, .int .u16 r2], .int .i64 r3, .int .i64 r4]) ∧ Below w.heap.size w w' := by
  have hu44 := Try.underlying44
  have HR0 := Aside0.mk hr0
  have HC0 := Aside0.mk hc0
  clear hr0 hc0
  have HB := Aside0.mk (Below.refl w.heap.size w)
  have H : ((garderoberef02_Get.f k l0 a1 1).bind fun bt310 => (if bt310.2 = 0 then (if bt310.1 < 1 then (garderoberef04_Get.j0 k l0 a1 bt310.1 true) else (garderoberef04_Get.j0 k l0 a1 bt310.1 (decide (bt310.1 > 8)))) else (some (0, 0, 0, bt310.2)))) = some (r1, r2, r3, r4) := h
  clear h
  replace H := Option.bind_eq_some_iff.mp H
  obtain ⟨⟨t310, t311⟩, A30, H⟩ := H
  replace H : (if t311 = 0 then (if t310 < 1 then (garderoberef04_Get.j0 k l0 a1 t310 true) else (garderoberef04_Get.j0 k l0 a1 t310 (decide (t310 > 8)))) else (some (0, 0, 0, t311))) = some (r1, r2, r3, r4) := H
  have A3 := Aside0.mk A30
  clear A30
  by_cases c4 : t311 = 0
  · rw [if_pos c4] at H
    have c4b0 : (t311 == 0) = true := beq_iff_eq.mpr c4
    have c4b1 : (t311 != 0) = false := bne_eq_false_iff_eq.mpr c4
    clear c4
    have HC5 := Aside0.mk H
    clear H
    go_enter Try.func55, Try.ntmps55
    go_upto_region 4 with (first | ((with_reducible refine gate_dst (N := 4) rfl ?_); refine zbox (N := 4) (cs := #[.int .u8 0, .int .u16 0]) (t := 44) ?_; intro gb309 hg w6 hbox hb; have n0_ := Aside0.mk (below_step (zb) hb); have n1_ := Aside0.mk (hbox); have n2_ := Aside0.mk ((by rw [hg]; exact (below_size (zb)) : w.heap.size ≤ gb309)); have n3_ := Aside0.mk ((by rw [hg]; exact (below_size (zb)) : w.heap.size ≤ gb309)); clear HB; have HB := n0_; have BK309 := n1_; have GW309 := n2_; have GE309 := n3_; clear n0_ n1_ n2_ n3_; clear hb hbox hg) | ((with_reducible refine gate_callee (f := 52) rfl ?_); refine goesL_ (some 15) rfl rfl Try.func52 (by kernel_rfl) rfl #[.slice A0 l0.length c0, .int .i64 a1, .int .i64 1] rfl zargs ?_; (with_reducible refine (garderoberef02_Get.calls k _ _ l0 a1 1 t310 t311 _ ?side1 ?side2 A3.out).mono ?_); (case side1 => exact zc (Kd.C_below HR0.out HB.out)); (case side2 => exact HC0.out); rintro e w' ⟨rfl, ⟨nd, rfl⟩⟩; refine ⟨_, rfl, ?_⟩))
    (try simp only [Act.put, List.setIfInBounds_toArray, List.set_cons_zero, List.set_cons_succ])
    go_cut [27] (fun v27 wc => ∃ (kq : Nat) (x27_4 : Bool), v27 = .bool x27_4 ∧ Aside0 (garderoberef04_Get.j0 kq l0 a1 t310 x27_4 = some (r1, r2, r3, r4)) ∧ Aside0 (kq ≤ k) ∧ Aside0 (wc.heap[gb309]? = some (.cells #[.int .u8 0, .int .u16 0] 44 (0, 0))) ∧ Aside0 (Below w.heap.size w wc))
    case first =>
      have H := HC5.out
      clear HC5
      by_cases c7 : t310 < 1
      · rw [if_pos c7] at H
        have c7b0 : decide (t310 < 1) = true := decide_eq_true c7
        clear c7
        (first | rw [c7b0] | (simp only [i64_w, i32_w]; rw [c7b0]) | skip)
        have H' := Aside0.mk H
        clear H
        go_wp2
        go_meet
        case rel => exact ⟨_, (true), zs, H', ⟨by first | omega | exact Nat.le_refl _⟩, ⟨by (with_reducible repeat (first | refine blk_drewN ?_ _ | refine blk_drew ?_ | refine blk_alloc ?_ _)); exact BK309.out⟩, ⟨zb⟩⟩
      · rw [if_neg c7] at H
        have c7b0 : decide (t310 < 1) = false := decide_eq_false c7
        clear c7
        (first | rw [c7b0] | (simp only [i64_w, i32_w]; rw [c7b0]) | skip)
        have H' := Aside0.mk H
        clear H
        go_wp2
        go_meet
        case rel => exact ⟨_, (decide (t310 > 8)), zs, H', ⟨by first | omega | exact Nat.le_refl _⟩, ⟨by (with_reducible repeat (first | refine blk_drewN ?_ _ | refine blk_drew ?_ | refine blk_alloc ?_ _)); exact BK309.out⟩, ⟨zb⟩⟩
    case rest =>
      clear HC5
      try clear p2
      try clear c4
      try clear c4b0
      try clear c4b1
      try clear c5
      try clear c7
      try clear c7b0
      obtain ⟨kq, x27_4, rfl, HA, HJ4, BK309, HB⟩ := hcut
      cases kq with
      | zero => exact absurd HA.out (by simp [garderoberef04_Get.j0])
      | succ kj4 =>
        have H := HA.out
        clear HA
        simp only [garderoberef04_Get.j0] at H
        by_cases c8 : x27_4 = true
        · subst c8
          have H1 : (some (0, 0, 0, 5)) = some (r1, r2, r3, r4) := by rw [if_pos rfl] at H; exact H
          clear H
          have H := H1
          clear H1
          simp only [Option.some.injEq, Prod.mk.injEq] at H
          obtain ⟨rfl, rfl, rfl, rfl⟩ := H
          obtain ⟨hcz9_0, hcz9_1⟩ := cells2 BK309.out
          obtain ⟨hfz9_0, hfz9_1⟩ := froz2 BK309.out
          go_wp2
          refine bodyPost_ret (results_ctt rfl _ _ gb309 44 #[.int .u8 0, .int .u16 0] (0, 0) _ rfl (by (with_reducible repeat (first | refine blk_drewN ?_ _ | refine blk_drew ?_ | refine blk_alloc ?_ _)); refine blk_put (cs := #[.int .u8 0, .int .u16 0]) ?_ 1 _ rfl; (with_reducible repeat (first | refine blk_drewN ?_ _ | refine blk_drew ?_ | refine blk_alloc ?_ _)); refine blk_put (cs := #[.int .u8 0, .int .u16 0]) ?_ 0 _ rfl; (with_reducible repeat (first | refine blk_drewN ?_ _ | refine blk_drew ?_ | refine blk_alloc ?_ _)); exact BK309.out) Try.underlying44 rfl (by kernel_rfl)) rfl ?_
          exact ⟨ze, zb⟩
        · replace c8 := Bool.eq_false_iff.mpr c8
          subst c8
          have H1 : ((garderoberef04_classed.f ((t310) % 256)).bind fun t313 => (if t313 = true then ((garderoberef02_Get.f kj4 l0 (wrap64 (a1 + 1)) 2).bind fun bt314 => (if bt314.2 = 0 then (some ((t310) % 256, IntKind.u16.wrap (bt314.1), wrap64 ((wrap64 (a1 + 1)) + 2), 0)) else (some (0, 0, 0, bt314.2)))) else (some ((t310) % 256, 0, wrap64 (a1 + 1), 0)))) = some (r1, r2, r3, r4) := by rw [if_neg (show ¬ (false = true) by decide)] at H; exact H
          clear H
          have H := H1
          clear H1
          replace H := Option.bind_eq_some_iff.mp H
          obtain ⟨t313, A100, H⟩ := H
          replace H : (if t313 = true then ((garderoberef02_Get.f kj4 l0 (wrap64 (a1 + 1)) 2).bind fun bt314 => (if bt314.2 = 0 then (some ((t310) % 256, IntKind.u16.wrap (bt314.1), wrap64 ((wrap64 (a1 + 1)) + 2), 0)) else (some (0, 0, 0, bt314.2)))) else (some ((t310) % 256, 0, wrap64 (a1 + 1), 0))) = some (r1, r2, r3, r4) := H
          have A10 := Aside0.mk A100
          clear A100
          by_cases c11 : t313 = true
          · subst c11
            have H1 : ((garderoberef02_Get.f kj4 l0 (wrap64 (a1 + 1)) 2).bind fun bt314 => (if bt314.2 = 0 then (some ((t310) % 256, IntKind.u16.wrap (bt314.1), wrap64 ((wrap64 (a1 + 1)) + 2), 0)) else (some (0, 0, 0, bt314.2)))) = some (r1, r2, r3, r4) := by rw [if_pos rfl] at H; exact H
            clear H
            have H := H1
            clear H1
            replace H := Option.bind_eq_some_iff.mp H
            obtain ⟨⟨t314, t315⟩, A120, H⟩ := H
            replace H : (if t315 = 0 then (some ((t310) % 256, IntKind.u16.wrap (t314), wrap64 ((wrap64 (a1 + 1)) + 2), 0)) else (some (0, 0, 0, t315))) = some (r1, r2, r3, r4) := H
            have A12 := Aside0.mk A120
            clear A120
            by_cases c13 : t315 = 0
            · rw [if_pos c13] at H
              have c13b0 : (t315 == 0) = true := beq_iff_eq.mpr c13
              have c13b1 : (t315 != 0) = false := bne_eq_false_iff_eq.mpr c13
              clear c13
              simp only [Option.some.injEq, Prod.mk.injEq] at H
              obtain ⟨rfl, rfl, rfl, rfl⟩ := H
              go_wp2_with (first | ((with_reducible refine gate_dst (N := 9) rfl ?_); refine zbox (N := 9) (cs := #[.int .u8 0, .int .u16 0]) (t := 44) ?_; intro gb312 hg w14 hbox hb; have n0_ := Aside0.mk (blk_below (g := gb309) (o := .cells #[.int .u8 0, .int .u16 0] 44 (0, 0)) zk hb); have n1_ := Aside0.mk (below_step (zb) hb); have n2_ := Aside0.mk (hbox); have n3_ := Aside0.mk ((by rw [hg]; exact (below_size (zb)) : w.heap.size ≤ gb312)); have n4_ := Aside0.mk ((by rw [hg]; exact (below_size (zb)) : w.heap.size ≤ gb312)); have n5_ := Aside0.mk ((by rw [hg]; exact Nat.ne_of_lt (blk_lt (g := gb309) (o := .cells #[.int .u8 0, .int .u16 0] 44 (0, 0)) zk) : gb309 ≠ gb312)); have n6_ := Aside0.mk ((by rw [hg]; exact Nat.ne_of_gt (blk_lt (g := gb309) (o := .cells #[.int .u8 0, .int .u16 0] 44 (0, 0)) zk) : gb312 ≠ gb309)); clear BK309; clear HB; have BK309 := n0_; have HB := n1_; have BK312 := n2_; have GW312 := n3_; have GE312 := n4_; have NB309_312 := n5_; have NB312_309 := n6_; clear n0_ n1_ n2_ n3_ n4_ n5_ n6_; clear hb hbox hg; have hnb15 := NB312_309.out; have hnc15 := NB309_312.out; obtain ⟨hcz16_0, hcz16_1⟩ := cells2 BK312.out; obtain ⟨hfz16_0, hfz16_1⟩ := froz2 BK312.out) | ((with_reducible refine gate_callee (f := 61) rfl ?_); refine goesL_ (some 36) rfl rfl Try.func61 (by kernel_rfl) rfl #[.int .u8 ((t310) % 256)] rfl zargs ?_; (with_reducible refine (garderoberef04_classed.calls ((t310) % 256) true _ A10.out).mono ?_); rintro e w' ⟨rfl, ⟨nd, rfl⟩⟩; refine ⟨_, rfl, ?_⟩) | ((with_reducible refine gate_callee (f := 52) rfl ?_); refine goesL_ (some 40) rfl rfl Try.func52 (by kernel_rfl) rfl #[.slice A0 l0.length c0, .int .i64 (wrap64 (a1 + 1)), .int .i64 2] rfl zargs ?_; (with_reducible refine (garderoberef02_Get.calls kj4 _ _ l0 (wrap64 (a1 + 1)) 2 t314 t315 _ ?side1 ?side2 A12.out).mono ?_); (case side1 => exact Kd.C_below HR0.out (zb)); (case side2 => exact HC0.out); rintro e w' ⟨rfl, ⟨nd, rfl⟩⟩; refine ⟨_, rfl, ?_⟩; obtain ⟨hcz17_0, hcz17_1⟩ := cells2 BK309.out; obtain ⟨hfz17_0, hfz17_1⟩ := froz2 BK309.out))
              refine bodyPost_ret (results_ctt rfl _ _ gb309 44 #[.int .u8 ((t310) % 256), .int .u16 (IntKind.u16.wrap (t314))] (0, 0) _ rfl (by (with_reducible repeat (first | refine blk_drewN ?_ _ | refine blk_drew ?_ | refine blk_alloc ?_ _)); refine blk_put (cs := #[.int .u8 ((t310) % 256), .int .u16 0]) ?_ 1 _ rfl; (with_reducible repeat (first | refine blk_drewN ?_ _ | refine blk_drew ?_ | refine blk_alloc ?_ _)); refine blk_put (cs := #[.int .u8 0, .int .u16 0]) ?_ 0 _ rfl; (with_reducible repeat (first | refine blk_drewN ?_ _ | refine blk_drew ?_ | refine blk_alloc ?_ _)); refine blk_far ?_ NB309_312.out _; (with_reducible repeat (first | refine blk_drewN ?_ _ | refine blk_drew ?_ | refine blk_alloc ?_ _)); refine blk_far ?_ NB309_312.out _; (with_reducible repeat (first | refine blk_drewN ?_ _ | refine blk_drew ?_ | refine blk_alloc ?_ _)); refine blk_far ?_ NB309_312.out _; (with_reducible repeat (first | refine blk_drewN ?_ _ | refine blk_drew ?_ | refine blk_alloc ?_ _)); exact BK309.out) Try.underlying44 rfl (by kernel_rfl)) rfl ?_
              exact ⟨ze, zb⟩
            · rw [if_neg c13] at H
              have c13b0 : (t315 == 0) = false := beq_eq_false_iff_ne.mpr c13
              have c13b1 : (t315 != 0) = true := bne_iff_ne.mpr c13
              simp only [Option.some.injEq, Prod.mk.injEq] at H
              obtain ⟨rfl, rfl, rfl, rfl⟩ := H
              go_wp2_with (first | ((with_reducible refine gate_dst (N := 9) rfl ?_); refine zbox (N := 9) (cs := #[.int .u8 0, .int .u16 0]) (t := 44) ?_; intro gb312 hg w18 hbox hb; have n0_ := Aside0.mk (blk_below (g := gb309) (o := .cells #[.int .u8 0, .int .u16 0] 44 (0, 0)) zk hb); have n1_ := Aside0.mk (below_step (zb) hb); have n2_ := Aside0.mk (hbox); have n3_ := Aside0.mk ((by rw [hg]; exact (below_size (zb)) : w.heap.size ≤ gb312)); have n4_ := Aside0.mk ((by rw [hg]; exact (below_size (zb)) : w.heap.size ≤ gb312)); have n5_ := Aside0.mk ((by rw [hg]; exact Nat.ne_of_lt (blk_lt (g := gb309) (o := .cells #[.int .u8 0, .int .u16 0] 44 (0, 0)) zk) : gb309 ≠ gb312)); have n6_ := Aside0.mk ((by rw [hg]; exact Nat.ne_of_gt (blk_lt (g := gb309) (o := .cells #[.int .u8 0, .int .u16 0] 44 (0, 0)) zk) : gb312 ≠ gb309)); clear BK309; clear HB; have BK309 := n0_; have HB := n1_; have BK312 := n2_; have GW312 := n3_; have GE312 := n4_; have NB309_312 := n5_; have NB312_309 := n6_; clear n0_ n1_ n2_ n3_ n4_ n5_ n6_; clear hb hbox hg; have hnb19 := NB312_309.out; have hnc19 := NB309_312.out; obtain ⟨hcz20_0, hcz20_1⟩ := cells2 BK312.out; obtain ⟨hfz20_0, hfz20_1⟩ := froz2 BK312.out) | ((with_reducible refine gate_callee (f := 61) rfl ?_); refine goesL_ (some 36) rfl rfl Try.func61 (by kernel_rfl) rfl #[.int .u8 ((t310) % 256)] rfl zargs ?_; (with_reducible refine (garderoberef04_classed.calls ((t310) % 256) true _ A10.out).mono ?_); rintro e w' ⟨rfl, ⟨nd, rfl⟩⟩; refine ⟨_, rfl, ?_⟩) | ((with_reducible refine gate_callee (f := 52) rfl ?_); refine goesL_ (some 40) rfl rfl Try.func52 (by kernel_rfl) rfl #[.slice A0 l0.length c0, .int .i64 (wrap64 (a1 + 1)), .int .i64 2] rfl zargs ?_; (with_reducible refine (garderoberef02_Get.calls kj4 _ _ l0 (wrap64 (a1 + 1)) 2 t314 t315 _ ?side1 ?side2 A12.out).mono ?_); (case side1 => exact Kd.C_below HR0.out (zb)); (case side2 => exact HC0.out); rintro e w' ⟨rfl, ⟨nd, rfl⟩⟩; refine ⟨_, rfl, ?_⟩; obtain ⟨hcz21_0, hcz21_1⟩ := cells2 BK309.out; obtain ⟨hfz21_0, hfz21_1⟩ := froz2 BK309.out))
              refine bodyPost_ret (results_ctt rfl _ _ gb309 44 #[.int .u8 0, .int .u16 0] (0, 0) _ rfl (by (with_reducible repeat (first | refine blk_drewN ?_ _ | refine blk_drew ?_ | refine blk_alloc ?_ _)); refine blk_put (cs := #[.int .u8 0, .int .u16 0]) ?_ 1 _ rfl; (with_reducible repeat (first | refine blk_drewN ?_ _ | refine blk_drew ?_ | refine blk_alloc ?_ _)); refine blk_put (cs := #[.int .u8 0, .int .u16 0]) ?_ 0 _ rfl; (with_reducible repeat (first | refine blk_drewN ?_ _ | refine blk_drew ?_ | refine blk_alloc ?_ _)); refine blk_far ?_ NB309_312.out _; (with_reducible repeat (first | refine blk_drewN ?_ _ | refine blk_drew ?_ | refine blk_alloc ?_ _)); refine blk_far ?_ NB309_312.out _; (with_reducible repeat (first | refine blk_drewN ?_ _ | refine blk_drew ?_ | refine blk_alloc ?_ _)); exact BK309.out) Try.underlying44 rfl (by kernel_rfl)) rfl ?_
              exact ⟨ze, zb⟩
          · replace c11 := Bool.eq_false_iff.mpr c11
            subst c11
            have H1 : (some ((t310) % 256, 0, wrap64 (a1 + 1), 0)) = some (r1, r2, r3, r4) := by rw [if_neg (show ¬ (false = true) by decide)] at H; exact H
            clear H
            have H := H1
            clear H1
            simp only [Option.some.injEq, Prod.mk.injEq] at H
            obtain ⟨rfl, rfl, rfl, rfl⟩ := H
            go_wp2_with (first | ((with_reducible refine gate_dst (N := 9) rfl ?_); refine zbox (N := 9) (cs := #[.int .u8 0, .int .u16 0]) (t := 44) ?_; intro gb312 hg w22 hbox hb; have n0_ := Aside0.mk (blk_below (g := gb309) (o := .cells #[.int .u8 0, .int .u16 0] 44 (0, 0)) zk hb); have n1_ := Aside0.mk (below_step (zb) hb); have n2_ := Aside0.mk (hbox); have n3_ := Aside0.mk ((by rw [hg]; exact (below_size (zb)) : w.heap.size ≤ gb312)); have n4_ := Aside0.mk ((by rw [hg]; exact (below_size (zb)) : w.heap.size ≤ gb312)); have n5_ := Aside0.mk ((by rw [hg]; exact Nat.ne_of_lt (blk_lt (g := gb309) (o := .cells #[.int .u8 0, .int .u16 0] 44 (0, 0)) zk) : gb309 ≠ gb312)); have n6_ := Aside0.mk ((by rw [hg]; exact Nat.ne_of_gt (blk_lt (g := gb309) (o := .cells #[.int .u8 0, .int .u16 0] 44 (0, 0)) zk) : gb312 ≠ gb309)); clear BK309; clear HB; have BK309 := n0_; have HB := n1_; have BK312 := n2_; have GW312 := n3_; have GE312 := n4_; have NB309_312 := n5_; have NB312_309 := n6_; clear n0_ n1_ n2_ n3_ n4_ n5_ n6_; clear hb hbox hg; have hnb23 := NB312_309.out; have hnc23 := NB309_312.out; obtain ⟨hcz24_0, hcz24_1⟩ := cells2 BK312.out; obtain ⟨hfz24_0, hfz24_1⟩ := froz2 BK312.out) | ((with_reducible refine gate_callee (f := 61) rfl ?_); refine goesL_ (some 36) rfl rfl Try.func61 (by kernel_rfl) rfl #[.int .u8 ((t310) % 256)] rfl zargs ?_; (with_reducible refine (garderoberef04_classed.calls ((t310) % 256) false _ A10.out).mono ?_); rintro e w' ⟨rfl, ⟨nd, rfl⟩⟩; refine ⟨_, rfl, ?_⟩; obtain ⟨hcz25_0, hcz25_1⟩ := cells2 BK309.out; obtain ⟨hfz25_0, hfz25_1⟩ := froz2 BK309.out))
            refine bodyPost_ret (results_ctt rfl _ _ gb309 44 #[.int .u8 ((t310) % 256), .int .u16 0] (0, 0) _ rfl (by (with_reducible repeat (first | refine blk_drewN ?_ _ | refine blk_drew ?_ | refine blk_alloc ?_ _)); refine blk_put (cs := #[.int .u8 ((t310) % 256), .int .u16 0]) ?_ 1 _ rfl; (with_reducible repeat (first | refine blk_drewN ?_ _ | refine blk_drew ?_ | refine blk_alloc ?_ _)); refine blk_put (cs := #[.int .u8 0, .int .u16 0]) ?_ 0 _ rfl; (with_reducible repeat (first | refine blk_drewN ?_ _ | refine blk_drew ?_ | refine blk_alloc ?_ _)); refine blk_far ?_ NB309_312.out _; (with_reducible repeat (first | refine blk_drewN ?_ _ | refine blk_drew ?_ | refine blk_alloc ?_ _)); refine blk_far ?_ NB309_312.out _; (with_reducible repeat (first | refine blk_drewN ?_ _ | refine blk_drew ?_ | refine blk_alloc ?_ _)); exact BK309.out) Try.underlying44 rfl (by kernel_rfl)) rfl ?_
            exact ⟨ze, zb⟩
  · rw [if_neg c4] at H
    have c4b0 : (t311 == 0) = false := beq_eq_false_iff_ne.mpr c4
    have c4b1 : (t311 != 0) = true := bne_iff_ne.mpr c4
    simp only [Option.some.injEq, Prod.mk.injEq] at H
    obtain ⟨rfl, rfl, rfl, rfl⟩ := H
    go_enter Try.func55, Try.ntmps55
    go_wp2_with (first | ((with_reducible refine gate_dst (N := 4) rfl ?_); refine zbox (N := 4) (cs := #[.int .u8 0, .int .u16 0]) (t := 44) ?_; intro gb309 hg w26 hbox hb; have n0_ := Aside0.mk (below_step (zb) hb); have n1_ := Aside0.mk (hbox); have n2_ := Aside0.mk ((by rw [hg]; exact (below_size (zb)) : w.heap.size ≤ gb309)); have n3_ := Aside0.mk ((by rw [hg]; exact (below_size (zb)) : w.heap.size ≤ gb309)); clear HB; have HB := n0_; have BK309 := n1_; have GW309 := n2_; have GE309 := n3_; clear n0_ n1_ n2_ n3_; clear hb hbox hg) | ((with_reducible refine gate_callee (f := 52) rfl ?_); refine goesL_ (some 15) rfl rfl Try.func52 (by kernel_rfl) rfl #[.slice A0 l0.length c0, .int .i64 a1, .int .i64 1] rfl zargs ?_; (with_reducible refine (garderoberef02_Get.calls k _ _ l0 a1 1 t310 t311 _ ?side1 ?side2 A3.out).mono ?_); (case side1 => exact zc (Kd.C_below HR0.out HB.out)); (case side2 => exact HC0.out); rintro e w' ⟨rfl, ⟨nd, rfl⟩⟩; refine ⟨_, rfl, ?_⟩; (try (rw [drewN_self w26]; generalize hq_ : World.drewN w26 _ = w26; have n0_ : Aside0 (w26.heap[gb309]? = some (.cells #[.int .u8 0, .int .u16 0] 44 (0, 0))) := ⟨by rw [← hq_]; exact zk⟩; have n1_ : Aside0 (Below w.heap.size w w26) := ⟨by rw [← hq_]; exact (zb)⟩; clear BK309 HB hq_; have BK309 := n0_; have HB := n1_; clear n0_ n1_)); obtain ⟨hcz27_0, hcz27_1⟩ := cells2 BK309.out; obtain ⟨hfz27_0, hfz27_1⟩ := froz2 BK309.out))
    refine bodyPost_ret (results_ctt rfl _ _ gb309 44 #[.int .u8 0, .int .u16 0] (0, 0) _ rfl (by (with_reducible repeat (first | refine blk_drewN ?_ _ | refine blk_drew ?_ | refine blk_alloc ?_ _)); refine blk_put (cs := #[.int .u8 0, .int .u16 0]) ?_ 1 _ rfl; (with_reducible repeat (first | refine blk_drewN ?_ _ | refine blk_drew ?_ | refine blk_alloc ?_ _)); refine blk_put (cs := #[.int .u8 0, .int .u16 0]) ?_ 0 _ rfl; (with_reducible repeat (first | refine blk_drewN ?_ _ | refine blk_drew ?_ | refine blk_alloc ?_ _)); exact BK309.out) Try.underlying44 rfl (by kernel_rfl)) rfl ?_
    exact ⟨ze, zb⟩
mutual
def garderoberef04_GetSig.j0 : Nat → List Int → Int → Int → Int → Option ((List (S44)) × Int × Int × Int × Int)
  | 0, _, _, _, _ => none
  | k + 1, x0, x1, x320001, x320002 => (garderoberef02_Get.f k x0 x1 1).bind fun bt325 => (if bt325.2 = 0 then (if bt325.1 > 15 then (some (([] : List (S44)), 0, 0, 0, 5)) else (garderoberef04_GetSig.l0 k x0 (wrap64 (x1 + 1)) bt325.1 0 ([] : List (S44)) x320001 x320002)) else (some (([] : List (S44)), 0, 0, 0, bt325.2)))
def garderoberef04_GetSig.l0 : Nat → List Int → Int → Int → Int → List (S44) → Int → Int → Option ((List (S44)) × Int × Int × Int × Int)
  | 0, _, _, _, _, _, _, _ => none
  | k + 1, x0, x1, x13, x15, x320000, x320001, x320002 => if x15 < (wrap64 (x13)) then ((garderoberef04_Get.f k x0 x1).bind fun bt327 => (if bt327.2.2.2 = 0 then (if x320000.length < 35184372088832 then (garderoberef04_GetSig.l0 k x0 bt327.2.2.1 x13 (wrap64 (x15 + 1)) (x320000 ++ [(⟨bt327.1, bt327.2.1⟩ : S44)]) x320001 x320002) else (none)) else (some (([] : List (S44)), 0, 0, 0, bt327.2.2.2)))) else (some (x320000, x320001, x320002, x1, 0))
end
def garderoberef04_GetSig.f (k : Nat) (l0 : List Int) (a1 : Int) : Option ((List (S44)) × Int × Int × Int × Int) := (garderoberef02_Get.f k l0 a1 1).bind fun bt317 => (if bt317.2 = 0 then (if bt317.1 = 0 then (garderoberef04_GetSig.j0 k l0 (wrap64 (a1 + 1)) 0 0) else ((garderoberef04_Get.f k l0 a1).bind fun bt320 => (if bt320.2.2.2 = 0 then (garderoberef04_GetSig.j0 k l0 bt320.2.2.1 bt320.1 bt320.2.1) else (some (([] : List (S44)), 0, 0, 0, bt320.2.2.2))))) else (some (([] : List (S44)), 0, 0, 0, bt317.2)))
set_option maxHeartbeats 8000000 in
set_option maxRecDepth 100000 in
theorem garderoberef04_GetSig.calls (k : Nat) (A0 : Option Addr) (c0 : Nat) (l0 : List Int) (a1 : Int) (r1 : List (S44)) (r2 : Int) (r3 : Int) (r4 : Int) (r5 : Int) (w : World) (hr0 : Kd.C (Kd.int .u8) w A0 l0.length l0) (hc0 : l0.length ≤ c0) (h : garderoberef04_GetSig.f k l0 a1 = some (r1, r2, r3, r4, r5)) :
    Calls Try.prog 53 #[.slice A0 l0.length c0, .int .i64 a1] w fun e w' => ∃ v0_ : Value, e = .returned (.tuple #[.agg #[v0_, .int .u8 r2, .int .u16 r3], .int .i64 r4, .int .i64 r5]) ∧ Kd.R k44 44 w' w.heap.size (fun _ => True) v0_ r1 ∧ Below w.heap.size w w' := by
  have hu66 := Try.underlying66
  have hu44 := Try.underlying44
  have HR0 := Aside0.mk hr0
  have HC0 := Aside0.mk hc0
  clear hr0 hc0
  have HB := Aside0.mk (Below.refl w.heap.size w)
  have H : ((garderoberef02_Get.f k l0 a1 1).bind fun bt317 => (if bt317.2 = 0 then (if bt317.1 = 0 then (garderoberef04_GetSig.j0 k l0 (wrap64 (a1 + 1)) 0 0) else ((garderoberef04_Get.f k l0 a1).bind fun bt320 => (if bt320.2.2.2 = 0 then (garderoberef04_GetSig.j0 k l0 bt320.2.2.1 bt320.1 bt320.2.1) else (some (([] : List (S44)), 0, 0, 0, bt320.2.2.2))))) else (some (([] : List (S44)), 0, 0, 0, bt317.2)))) = some (r1, r2, r3, r4, r5) := h
  clear h
  replace H := Option.bind_eq_some_iff.mp H
  obtain ⟨⟨t317, t318⟩, A30, H⟩ := H
  replace H : (if t318 = 0 then (if t317 = 0 then (garderoberef04_GetSig.j0 k l0 (wrap64 (a1 + 1)) 0 0) else ((garderoberef04_Get.f k l0 a1).bind fun bt320 => (if bt320.2.2.2 = 0 then (garderoberef04_GetSig.j0 k l0 bt320.2.2.1 bt320.1 bt320.2.1) else (some (([] : List (S44)), 0, 0, 0, bt320.2.2.2))))) else (some (([] : List (S44)), 0, 0, 0, t318))) = some (r1, r2, r3, r4, r5) := H
  have A3 := Aside0.mk A30
  clear A30
  by_cases c4 : t318 = 0
  · rw [if_pos c4] at H
    have c4b0 : (t318 == 0) = true := beq_iff_eq.mpr c4
    have c4b1 : (t318 != 0) = false := bne_eq_false_iff_eq.mpr c4
    clear c4
    have HC5 := Aside0.mk H
    clear H
    go_enter Try.func53, Try.ntmps53
    go_upto_if 30 with (first | ((with_reducible refine gate_dst (N := 4) rfl ?_); refine zbox (N := 4) (cs := #[.slice none 0 0, .int .u8 0, .int .u16 0]) (t := 66) ?_; intro gb316 hg w6 hbox hb; have n0_ := Aside0.mk (below_step (zb) hb); have n1_ := Aside0.mk (hbox); have n2_ := Aside0.mk ((by rw [hg]; exact (below_size (zb)) : w.heap.size ≤ gb316)); have n3_ := Aside0.mk ((by rw [hg]; exact (below_size (zb)) : w.heap.size ≤ gb316)); clear HB; have HB := n0_; have BK316 := n1_; have GW316 := n2_; have GE316 := n3_; clear n0_ n1_ n2_ n3_; clear hb hbox hg) | ((with_reducible refine gate_callee (f := 52) rfl ?_); refine goesL_ (some 22) rfl rfl Try.func52 (by kernel_rfl) rfl #[.slice A0 l0.length c0, .int .i64 a1, .int .i64 1] rfl zargs ?_; (with_reducible refine (garderoberef02_Get.calls k _ _ l0 a1 1 t317 t318 _ ?side1 ?side2 A3.out).mono ?_); (case side1 => exact zc (Kd.C_below HR0.out HB.out)); (case side2 => exact HC0.out); rintro e w' ⟨rfl, ⟨nd, rfl⟩⟩; refine ⟨_, rfl, ?_⟩) | ((with_reducible refine gate_dst (N := 9) rfl ?_); refine zbox (N := 9) (cs := #[.slice none 0 0, .int .u8 0, .int .u16 0]) (t := 66) ?_; intro gb319 hg w7 hbox hb; have n0_ := Aside0.mk (blk_below (g := gb316) (o := .cells #[.slice none 0 0, .int .u8 0, .int .u16 0] 66 (0, 0)) zk hb); have n1_ := Aside0.mk (below_step (zb) hb); have n2_ := Aside0.mk (hbox); have n3_ := Aside0.mk ((by rw [hg]; exact (below_size (zb)) : w.heap.size ≤ gb319)); have n4_ := Aside0.mk ((by rw [hg]; exact (below_size (zb)) : w.heap.size ≤ gb319)); have n5_ := Aside0.mk ((by rw [hg]; exact Nat.ne_of_lt (blk_lt (g := gb316) (o := .cells #[.slice none 0 0, .int .u8 0, .int .u16 0] 66 (0, 0)) zk) : gb316 ≠ gb319)); have n6_ := Aside0.mk ((by rw [hg]; exact Nat.ne_of_gt (blk_lt (g := gb316) (o := .cells #[.slice none 0 0, .int .u8 0, .int .u16 0] 66 (0, 0)) zk) : gb319 ≠ gb316)); clear BK316; clear HB; have BK316 := n0_; have HB := n1_; have BK319 := n2_; have GW319 := n3_; have GE319 := n4_; have NB316_319 := n5_; have NB319_316 := n6_; clear n0_ n1_ n2_ n3_ n4_ n5_ n6_; clear hb hbox hg))
    (try simp only [Act.put, List.setIfInBounds_toArray, List.set_cons_zero, List.set_cons_succ])
    go_cut [1] (fun v1 wc => ∃ (kq : Nat) (x1_4 : Int) (x317001_4 : Int) (x317002_4 : Int) (x320001_4 : Int) (x320002_4 : Int), v1 = .int .i64 x1_4 ∧ Aside0 (garderoberef04_GetSig.j0 kq l0 x1_4 x320001_4 x320002_4 = some (r1, r2, r3, r4, r5)) ∧ Aside0 (kq ≤ k) ∧ Aside0 (wc.heap[gb316]? = some (.cells #[(.slice none 0 0), .int .u8 x317001_4, .int .u16 x317002_4] 66 (0, 0))) ∧ Aside0 (wc.heap[gb319]? = some (.cells #[(.slice none 0 0), .int .u8 x320001_4, .int .u16 x320002_4] 66 (0, 0))) ∧ Aside0 (Below w.heap.size w wc))
    case first =>
      have H := HC5.out
      clear HC5
      by_cases c8 : t317 = 0
      · rw [if_pos c8] at H
        have c8b0 : (t317 == 0) = true := beq_iff_eq.mpr c8
        have c8b1 : (t317 != 0) = false := bne_eq_false_iff_eq.mpr c8
        clear c8
        (first | rw [c8b0] | (simp only [i64_w, i32_w]; rw [c8b0]) | skip)
        have H' := Aside0.mk H
        clear H
        go_wp2
        go_meet
        case rel => exact ⟨_, (wrap64 (a1 + 1)), (0), (0), (0), (0), zs, H', ⟨by first | omega | exact Nat.le_refl _⟩, ⟨by (with_reducible repeat (first | refine blk_drewN ?_ _ | refine blk_drew ?_ | refine blk_alloc ?_ _)); exact BK316.out⟩, ⟨by (with_reducible repeat (first | refine blk_drewN ?_ _ | refine blk_drew ?_ | refine blk_alloc ?_ _)); exact BK319.out⟩, ⟨zb⟩⟩
      · rw [if_neg c8] at H
        have c8b0 : (t317 == 0) = false := beq_eq_false_iff_ne.mpr c8
        have c8b1 : (t317 != 0) = true := bne_iff_ne.mpr c8
        (first | rw [c8b0] | (simp only [i64_w, i32_w]; rw [c8b0]) | skip)
        replace H := Option.bind_eq_some_iff.mp H
        obtain ⟨⟨t320, t321, t322, t323⟩, A90, H⟩ := H
        replace H : (if t323 = 0 then (garderoberef04_GetSig.j0 k l0 t322 t320 t321) else (some (([] : List (S44)), 0, 0, 0, t323))) = some (r1, r2, r3, r4, r5) := H
        have A9 := Aside0.mk A90
        clear A90
        by_cases c10 : t323 = 0
        · rw [if_pos c10] at H
          have c10b0 : (t323 == 0) = true := beq_iff_eq.mpr c10
          have c10b1 : (t323 != 0) = false := bne_eq_false_iff_eq.mpr c10
          clear c10
          have H' := Aside0.mk H
          clear H
          go_wp2_with (first | ((with_reducible refine gate_callee (f := 55) rfl ?_); refine goesL_ (some 36) rfl rfl Try.func55 (by kernel_rfl) rfl #[.slice A0 l0.length c0, .int .i64 a1] rfl zargs ?_; (with_reducible refine (garderoberef04_Get.calls k _ _ l0 a1 t320 t321 t322 t323 _ ?side1 ?side2 A9.out).mono ?_); (case side1 => exact zc (Kd.C_below HR0.out HB.out)); (case side2 => exact HC0.out); rintro e w11 ⟨rfl, hb⟩; refine ⟨_, rfl, ?_⟩; have n0_ := Aside0.mk (blk_below (g := gb316) (o := .cells #[.slice none 0 0, .int .u8 0, .int .u16 0] 66 (0, 0)) zk hb); have n1_ := Aside0.mk (blk_below (g := gb319) (o := .cells #[.slice none 0 0, .int .u8 0, .int .u16 0] 66 (0, 0)) zk hb); have n2_ := Aside0.mk (below_step (zb) hb); clear BK316; clear BK319; clear HB; have BK316 := n0_; have BK319 := n1_; have HB := n2_; clear n0_ n1_ n2_; (try clear hb); (try clear hb2); (try clear hk); (try clear hi)) | ((with_reducible refine gate_dst (N := 10) rfl ?_); refine zbox (N := 10) (cs := #[.int .u8 0, .int .u16 0]) (t := 44) ?_; intro gb324 hg w12 hbox hb; have n0_ := Aside0.mk (blk_below (g := gb316) (o := .cells #[.slice none 0 0, .int .u8 0, .int .u16 0] 66 (0, 0)) zk hb); have n1_ := Aside0.mk (blk_below (g := gb319) (o := .cells #[.slice none 0 0, .int .u8 0, .int .u16 0] 66 (0, 0)) zk hb); have n2_ := Aside0.mk (below_step (zb) hb); have n3_ := Aside0.mk (hbox); have n4_ := Aside0.mk ((by rw [hg]; exact (below_size (zb)) : w.heap.size ≤ gb324)); have n5_ := Aside0.mk ((by rw [hg]; exact (below_size (zb)) : w.heap.size ≤ gb324)); have n6_ := Aside0.mk ((by rw [hg]; exact Nat.ne_of_lt (blk_lt (g := gb316) (o := .cells #[.slice none 0 0, .int .u8 0, .int .u16 0] 66 (0, 0)) zk) : gb316 ≠ gb324)); have n7_ := Aside0.mk ((by rw [hg]; exact Nat.ne_of_gt (blk_lt (g := gb316) (o := .cells #[.slice none 0 0, .int .u8 0, .int .u16 0] 66 (0, 0)) zk) : gb324 ≠ gb316)); have n8_ := Aside0.mk ((by rw [hg]; exact Nat.ne_of_lt (blk_lt (g := gb319) (o := .cells #[.slice none 0 0, .int .u8 0, .int .u16 0] 66 (0, 0)) zk) : gb319 ≠ gb324)); have n9_ := Aside0.mk ((by rw [hg]; exact Nat.ne_of_gt (blk_lt (g := gb319) (o := .cells #[.slice none 0 0, .int .u8 0, .int .u16 0] 66 (0, 0)) zk) : gb324 ≠ gb319)); clear BK316; clear BK319; clear HB; have BK316 := n0_; have BK319 := n1_; have HB := n2_; have BK324 := n3_; have GW324 := n4_; have GE324 := n5_; have NB316_324 := n6_; have NB324_316 := n7_; have NB319_324 := n8_; have NB324_319 := n9_; clear n0_ n1_ n2_ n3_ n4_ n5_ n6_ n7_ n8_ n9_; clear hb hbox hg; have hnb13 := NB324_316.out; have hnc13 := NB316_324.out; have hnb14 := NB324_319.out; have hnc14 := NB319_324.out; obtain ⟨hcz15_0, hcz15_1⟩ := cells2 BK324.out; obtain ⟨hfz15_0, hfz15_1⟩ := froz2 BK324.out; have hnb16 := NB319_316.out; have hnc16 := NB316_319.out; obtain ⟨hcz17_0, hcz17_1, hcz17_2⟩ := cells3 BK319.out; obtain ⟨hfz17_0, hfz17_1, hfz17_2⟩ := froz3 BK319.out))
          go_meet
          case rel => exact ⟨_, (t322), (0), (0), (t320), (t321), zs, H', ⟨by first | omega | exact Nat.le_refl _⟩, ⟨by (with_reducible repeat (first | refine blk_drewN ?_ _ | refine blk_drew ?_ | refine blk_alloc ?_ _)); refine blk_far ?_ NB316_319.out _; (with_reducible repeat (first | refine blk_drewN ?_ _ | refine blk_drew ?_ | refine blk_alloc ?_ _)); refine blk_far ?_ NB316_319.out _; (with_reducible repeat (first | refine blk_drewN ?_ _ | refine blk_drew ?_ | refine blk_alloc ?_ _)); refine blk_far ?_ NB316_324.out _; (with_reducible repeat (first | refine blk_drewN ?_ _ | refine blk_drew ?_ | refine blk_alloc ?_ _)); refine blk_far ?_ NB316_324.out _; (with_reducible repeat (first | refine blk_drewN ?_ _ | refine blk_drew ?_ | refine blk_alloc ?_ _)); exact BK316.out⟩, ⟨by (with_reducible repeat (first | refine blk_drewN ?_ _ | refine blk_drew ?_ | refine blk_alloc ?_ _)); refine blk_put (cs := #[.slice none 0 0, .int .u8 t320, .int .u16 0]) ?_ 2 _ rfl; (with_reducible repeat (first | refine blk_drewN ?_ _ | refine blk_drew ?_ | refine blk_alloc ?_ _)); refine blk_put (cs := #[.slice none 0 0, .int .u8 0, .int .u16 0]) ?_ 1 _ rfl; (with_reducible repeat (first | refine blk_drewN ?_ _ | refine blk_drew ?_ | refine blk_alloc ?_ _)); refine blk_far ?_ NB319_324.out _; (with_reducible repeat (first | refine blk_drewN ?_ _ | refine blk_drew ?_ | refine blk_alloc ?_ _)); refine blk_far ?_ NB319_324.out _; (with_reducible repeat (first | refine blk_drewN ?_ _ | refine blk_drew ?_ | refine blk_alloc ?_ _)); exact BK319.out⟩, ⟨zb⟩⟩
        · rw [if_neg c10] at H
          have c10b0 : (t323 == 0) = false := beq_eq_false_iff_ne.mpr c10
          have c10b1 : (t323 != 0) = true := bne_iff_ne.mpr c10
          simp only [Option.some.injEq, Prod.mk.injEq] at H
          obtain ⟨rfl, rfl, rfl, rfl, rfl⟩ := H
          go_wp2_with (first | ((with_reducible refine gate_callee (f := 55) rfl ?_); refine goesL_ (some 36) rfl rfl Try.func55 (by kernel_rfl) rfl #[.slice A0 l0.length c0, .int .i64 a1] rfl zargs ?_; (with_reducible refine (garderoberef04_Get.calls k _ _ l0 a1 t320 t321 t322 t323 _ ?side1 ?side2 A9.out).mono ?_); (case side1 => exact zc (Kd.C_below HR0.out HB.out)); (case side2 => exact HC0.out); rintro e w18 ⟨rfl, hb⟩; refine ⟨_, rfl, ?_⟩; have n0_ := Aside0.mk (blk_below (g := gb316) (o := .cells #[.slice none 0 0, .int .u8 0, .int .u16 0] 66 (0, 0)) zk hb); have n1_ := Aside0.mk (blk_below (g := gb319) (o := .cells #[.slice none 0 0, .int .u8 0, .int .u16 0] 66 (0, 0)) zk hb); have n2_ := Aside0.mk (below_step (zb) hb); clear BK316; clear BK319; clear HB; have BK316 := n0_; have BK319 := n1_; have HB := n2_; clear n0_ n1_ n2_; (try clear hb); (try clear hb2); (try clear hk); (try clear hi)) | ((with_reducible refine gate_dst (N := 10) rfl ?_); refine zbox (N := 10) (cs := #[.int .u8 0, .int .u16 0]) (t := 44) ?_; intro gb324 hg w19 hbox hb; have n0_ := Aside0.mk (blk_below (g := gb316) (o := .cells #[.slice none 0 0, .int .u8 0, .int .u16 0] 66 (0, 0)) zk hb); have n1_ := Aside0.mk (blk_below (g := gb319) (o := .cells #[.slice none 0 0, .int .u8 0, .int .u16 0] 66 (0, 0)) zk hb); have n2_ := Aside0.mk (below_step (zb) hb); have n3_ := Aside0.mk (hbox); have n4_ := Aside0.mk ((by rw [hg]; exact (below_size (zb)) : w.heap.size ≤ gb324)); have n5_ := Aside0.mk ((by rw [hg]; exact (below_size (zb)) : w.heap.size ≤ gb324)); have n6_ := Aside0.mk ((by rw [hg]; exact Nat.ne_of_lt (blk_lt (g := gb316) (o := .cells #[.slice none 0 0, .int .u8 0, .int .u16 0] 66 (0, 0)) zk) : gb316 ≠ gb324)); have n7_ := Aside0.mk ((by rw [hg]; exact Nat.ne_of_gt (blk_lt (g := gb316) (o := .cells #[.slice none 0 0, .int .u8 0, .int .u16 0] 66 (0, 0)) zk) : gb324 ≠ gb316)); have n8_ := Aside0.mk ((by rw [hg]; exact Nat.ne_of_lt (blk_lt (g := gb319) (o := .cells #[.slice none 0 0, .int .u8 0, .int .u16 0] 66 (0, 0)) zk) : gb319 ≠ gb324)); have n9_ := Aside0.mk ((by rw [hg]; exact Nat.ne_of_gt (blk_lt (g := gb319) (o := .cells #[.slice none 0 0, .int .u8 0, .int .u16 0] 66 (0, 0)) zk) : gb324 ≠ gb319)); clear BK316; clear BK319; clear HB; have BK316 := n0_; have BK319 := n1_; have HB := n2_; have BK324 := n3_; have GW324 := n4_; have GE324 := n5_; have NB316_324 := n6_; have NB324_316 := n7_; have NB319_324 := n8_; have NB324_319 := n9_; clear n0_ n1_ n2_ n3_ n4_ n5_ n6_ n7_ n8_ n9_; clear hb hbox hg; have hnb20 := NB324_316.out; have hnc20 := NB316_324.out; have hnb21 := NB324_319.out; have hnc21 := NB319_324.out; obtain ⟨hcz22_0, hcz22_1⟩ := cells2 BK324.out; obtain ⟨hfz22_0, hfz22_1⟩ := froz2 BK324.out; have hnb23 := NB316_319.out; have hnc23 := NB319_316.out; obtain ⟨hcz24_0, hcz24_1, hcz24_2⟩ := cells3 BK316.out; obtain ⟨hfz24_0, hfz24_1, hfz24_2⟩ := froz3 BK316.out))
          refine bodyPost_ret (results_ctt rfl _ _ gb316 66 #[.slice none 0 0, .int .u8 0, .int .u16 0] (0, 0) _ rfl (by (with_reducible repeat (first | refine blk_drewN ?_ _ | refine blk_drew ?_ | refine blk_alloc ?_ _)); refine blk_put (cs := #[.slice none 0 0, .int .u8 0, .int .u16 0]) ?_ 2 _ rfl; (with_reducible repeat (first | refine blk_drewN ?_ _ | refine blk_drew ?_ | refine blk_alloc ?_ _)); refine blk_put (cs := #[.slice none 0 0, .int .u8 0, .int .u16 0]) ?_ 1 _ rfl; (with_reducible repeat (first | refine blk_drewN ?_ _ | refine blk_drew ?_ | refine blk_alloc ?_ _)); refine blk_put (cs := #[.slice none 0 0, .int .u8 0, .int .u16 0]) ?_ 0 _ rfl; (with_reducible repeat (first | refine blk_drewN ?_ _ | refine blk_drew ?_ | refine blk_alloc ?_ _)); refine blk_far ?_ NB316_324.out _; (with_reducible repeat (first | refine blk_drewN ?_ _ | refine blk_drew ?_ | refine blk_alloc ?_ _)); refine blk_far ?_ NB316_324.out _; (with_reducible repeat (first | refine blk_drewN ?_ _ | refine blk_drew ?_ | refine blk_alloc ?_ _)); exact BK316.out) Try.underlying66 rfl (by kernel_rfl)) rfl ?_
          exact ⟨_, ze, by first | exact Kd.R_nil _ _ _ _ _ | exact Kd.N_nil _ _ _ _ _ | exact Kd.V_nil _ _ _ _ _ | exact Kd.Q_nil _ _ _ _ _ | exact Kd.S_nil _ _ _ _ _, zb⟩
    case rest =>
      clear HC5
      try clear c1
      try clear c2
      try clear p2
      try clear c4
      try clear c4b0
      try clear c4b1
      try clear c5
      try clear p6
      try clear c8
      try clear c8b0
      try clear c8b1
      try clear c10
      try clear c10b0
      try clear c10b1
      try clear c13
      try clear c14
      try clear c16
      try clear c20
      try clear c21
      try clear c23
      try clear hcz15_0
      try clear hcz15_1
      try clear hcz17_0
      try clear hcz17_1
      try clear hcz17_2
      try clear hcz22_0
      try clear hcz22_1
      try clear hcz24_0
      try clear hcz24_1
      try clear hcz24_2
      try clear hfz15_0
      try clear hfz15_1
      try clear hfz17_0
      try clear hfz17_1
      try clear hfz17_2
      try clear hfz22_0
      try clear hfz22_1
      try clear hfz24_0
      try clear hfz24_1
      try clear hfz24_2
      obtain ⟨kq, x1_4, x317001_4, x317002_4, x320001_4, x320002_4, rfl, HA, HJ4, BK316, BK319, HB⟩ := hcut
      cases kq with
      | zero => exact absurd HA.out (by simp [garderoberef04_GetSig.j0])
      | succ kj4 =>
        have H := HA.out
        clear HA
        simp only [garderoberef04_GetSig.j0] at H
        replace H := Option.bind_eq_some_iff.mp H
        obtain ⟨⟨t325, t326⟩, A250, H⟩ := H
        replace H : (if t326 = 0 then (if t325 > 15 then (some (([] : List (S44)), 0, 0, 0, 5)) else (garderoberef04_GetSig.l0 kj4 l0 (wrap64 (x1_4 + 1)) t325 0 ([] : List (S44)) x320001_4 x320002_4)) else (some (([] : List (S44)), 0, 0, 0, t326))) = some (r1, r2, r3, r4, r5) := H
        have A25 := Aside0.mk A250
        clear A250
        by_cases c26 : t326 = 0
        · rw [if_pos c26] at H
          have c26b0 : (t326 == 0) = true := beq_iff_eq.mpr c26
          have c26b1 : (t326 != 0) = false := bne_eq_false_iff_eq.mpr c26
          clear c26
          by_cases c27 : t325 > 15
          · rw [if_pos c27] at H
            have c27b0 : decide (15 < t325) = true := decide_eq_true c27
            clear c27
            simp only [Option.some.injEq, Prod.mk.injEq] at H
            obtain ⟨rfl, rfl, rfl, rfl, rfl⟩ := H
            go_wp2_with (first | ((with_reducible refine gate_callee (f := 52) rfl ?_); refine goesL_ (some 50) rfl rfl Try.func52 (by kernel_rfl) rfl #[.slice A0 l0.length c0, .int .i64 x1_4, .int .i64 1] rfl zargs ?_; (with_reducible refine (garderoberef02_Get.calls kj4 _ _ l0 x1_4 1 t325 t326 _ ?side1 ?side2 A25.out).mono ?_); (case side1 => exact zc (Kd.C_below HR0.out HB.out)); (case side2 => exact HC0.out); rintro e w' ⟨rfl, ⟨nd, rfl⟩⟩; refine ⟨_, rfl, ?_⟩; (try (rw [drewN_self wc]; generalize hq_ : World.drewN wc _ = wc; have n0_ : Aside0 (wc.heap[gb316]? = some (.cells #[.slice none 0 0, .int .u8 x317001_4, .int .u16 x317002_4] 66 (0, 0))) := ⟨by rw [← hq_]; exact zk⟩; have n1_ : Aside0 (wc.heap[gb319]? = some (.cells #[.slice none 0 0, .int .u8 x320001_4, .int .u16 x320002_4] 66 (0, 0))) := ⟨by rw [← hq_]; exact zk⟩; have n2_ : Aside0 (Below w.heap.size w wc) := ⟨by rw [← hq_]; exact (zb)⟩; clear BK316 BK319 HB hq_; have BK316 := n0_; have BK319 := n1_; have HB := n2_; clear n0_ n1_ n2_)); have hnb28 := NB316_319.out; have hnc28 := NB319_316.out; obtain ⟨hcz29_0, hcz29_1, hcz29_2⟩ := cells3 BK316.out; obtain ⟨hfz29_0, hfz29_1, hfz29_2⟩ := froz3 BK316.out))
            refine bodyPost_ret (results_ctt rfl _ _ gb316 66 #[.slice none 0 0, .int .u8 0, .int .u16 0] (0, 0) _ rfl (by (with_reducible repeat (first | refine blk_drewN ?_ _ | refine blk_drew ?_ | refine blk_alloc ?_ _)); refine blk_put (cs := #[.slice none 0 0, .int .u8 0, .int .u16 x317002_4]) ?_ 2 _ rfl; (with_reducible repeat (first | refine blk_drewN ?_ _ | refine blk_drew ?_ | refine blk_alloc ?_ _)); refine blk_put (cs := #[.slice none 0 0, .int .u8 x317001_4, .int .u16 x317002_4]) ?_ 1 _ rfl; (with_reducible repeat (first | refine blk_drewN ?_ _ | refine blk_drew ?_ | refine blk_alloc ?_ _)); refine blk_put (cs := #[.slice none 0 0, .int .u8 x317001_4, .int .u16 x317002_4]) ?_ 0 _ rfl; (with_reducible repeat (first | refine blk_drewN ?_ _ | refine blk_drew ?_ | refine blk_alloc ?_ _)); exact BK316.out) Try.underlying66 rfl (by kernel_rfl)) rfl ?_
            exact ⟨_, ze, by first | exact Kd.R_nil _ _ _ _ _ | exact Kd.N_nil _ _ _ _ _ | exact Kd.V_nil _ _ _ _ _ | exact Kd.Q_nil _ _ _ _ _ | exact Kd.S_nil _ _ _ _ _, zb⟩
          · rw [if_neg c27] at H
            have c27b0 : decide (15 < t325) = false := decide_eq_false c27
            clear c27
            have H' := Aside0.mk H
            clear H
            go_wp2_with (first | ((with_reducible refine gate_callee (f := 52) rfl ?_); refine goesL_ (some 50) rfl rfl Try.func52 (by kernel_rfl) rfl #[.slice A0 l0.length c0, .int .i64 x1_4, .int .i64 1] rfl zargs ?_; (with_reducible refine (garderoberef02_Get.calls kj4 _ _ l0 x1_4 1 t325 t326 _ ?side1 ?side2 A25.out).mono ?_); (case side1 => exact zc (Kd.C_below HR0.out HB.out)); (case side2 => exact HC0.out); rintro e w' ⟨rfl, ⟨nd, rfl⟩⟩; refine ⟨_, rfl, ?_⟩))
            go_loopg [1, 15] kj4 (fun kq v1 v15 w' => ∃ (x1_2 : Int) (x15_2 : Int) (x317001_2 : Int) (x317002_2 : Int) (x320000_2 : List (S44)) (u320000 : Value), v1 = .int .i64 x1_2 ∧ v15 = .int .i64 x15_2 ∧ Aside0 (garderoberef04_GetSig.l0 kq l0 x1_2 t325 x15_2 x320000_2 x320001_4 x320002_4 = some (r1, r2, r3, r4, r5)) ∧ Aside0 (kq ≤ kj4) ∧ Aside0 (Kd.R k44 44 w' w.heap.size (fun _ => True) u320000 x320000_2) ∧ Aside0 (w'.heap[gb316]? = some (.cells #[(.slice none 0 0), .int .u8 x317001_2, .int .u16 x317002_2] 66 (0, 0))) ∧ Aside0 (w'.heap[gb319]? = some (.cells #[u320000, .int .u8 x320001_4, .int .u16 x320002_4] 66 (0, 0))) ∧ Aside0 (Below w.heap.size w w'))
            case atStart => exact ⟨(wrap64 (x1_4 + 1)), (0), (x317001_4), (x317002_4), (([] : List (S44))), (.slice none 0 0), zs, zs, H', ⟨Nat.le_refl _⟩, ⟨by first | exact Kd.R_nil _ _ _ _ _ | exact Kd.N_nil _ _ _ _ _ | exact Kd.V_nil _ _ _ _ _ | exact Kd.Q_nil _ _ _ _ _ | exact Kd.S_nil _ _ _ _ _⟩, ⟨by (with_reducible repeat (first | refine blk_drewN ?_ _ | refine blk_drew ?_ | refine blk_alloc ?_ _)); exact BK316.out⟩, ⟨by (with_reducible repeat (first | refine blk_drewN ?_ _ | refine blk_drew ?_ | refine blk_alloc ?_ _)); exact BK319.out⟩, ⟨zb⟩⟩
            case round =>
              clear H'
              try clear c1
              try clear c2
              try clear p2
              try clear c4
              try clear c4b0
              try clear c4b1
              try clear c5
              try clear p6
              try clear c8
              try clear c8b0
              try clear c8b1
              try clear c10
              try clear c10b0
              try clear c10b1
              try clear c13
              try clear c14
              try clear c16
              try clear c20
              try clear c21
              try clear c23
              try clear c26
              try clear c26b0
              try clear c26b1
              try clear c27
              try clear c27b0
              try clear c28
              try clear hcz15_0
              try clear hcz15_1
              try clear hcz17_0
              try clear hcz17_1
              try clear hcz17_2
              try clear hcz22_0
              try clear hcz22_1
              try clear hcz24_0
              try clear hcz24_1
              try clear hcz24_2
              try clear hcz29_0
              try clear hcz29_1
              try clear hcz29_2
              try clear hfz15_0
              try clear hfz15_1
              try clear hfz17_0
              try clear hfz17_1
              try clear hfz17_2
              try clear hfz22_0
              try clear hfz22_1
              try clear hfz24_0
              try clear hfz24_1
              try clear hfz24_2
              try clear hfz29_0
              try clear hfz29_1
              try clear hfz29_2
              try clear p2
              try clear p6
              obtain ⟨x1_2, x15_2, x317001_2, x317002_2, x320000_2, u320000, rfl, rfl, HA, HK2, HO_320000, BK316, BK319, HB⟩ := hrel
              cases gk with
              | zero => exact absurd HA.out (by simp [garderoberef04_GetSig.l0])
              | succ k2 =>
                have H := HA.out
                clear HA
                simp only [garderoberef04_GetSig.l0] at H
                by_cases c30 : x15_2 < (wrap64 (t325))
                · rw [if_pos c30] at H
                  have c30b0 : decide (x15_2 < (wrap64 (t325))) = true := decide_eq_true c30
                  clear c30
                  replace H := Option.bind_eq_some_iff.mp H
                  obtain ⟨⟨t327, t328, t329, t330⟩, A310, H⟩ := H
                  replace H : (if t330 = 0 then (if x320000_2.length < 35184372088832 then (garderoberef04_GetSig.l0 k2 l0 t329 t325 (wrap64 (x15_2 + 1)) (x320000_2 ++ [(⟨t327, t328⟩ : S44)]) x320001_4 x320002_4) else (none)) else (some (([] : List (S44)), 0, 0, 0, t330))) = some (r1, r2, r3, r4, r5) := H
                  have A31 := Aside0.mk A310
                  clear A310
                  by_cases c32 : t330 = 0
                  · rw [if_pos c32] at H
                    have c32b0 : (t330 == 0) = true := beq_iff_eq.mpr c32
                    have c32b1 : (t330 != 0) = false := bne_eq_false_iff_eq.mpr c32
                    clear c32
                    by_cases c33 : x320000_2.length < 35184372088832
                    · rw [if_pos c33] at H
                      have LMc33 := Aside0.mk c33
                      clear c33
                      obtain ⟨y332, hy332⟩ : ∃ y_ : List (S44), y_ = (x320000_2 ++ [(⟨t327, t328⟩ : S44)]) := ⟨_, rfl⟩
                      replace H : (garderoberef04_GetSig.l0 k2 l0 t329 t325 (wrap64 (x15_2 + 1)) y332 x320001_4 x320002_4) = some (r1, r2, r3, r4, r5) := by first | (rw [hy332]; with_reducible exact H) | (have H2_ := (Option.bind_some _ _).symm.trans H; rw [hy332]; with_reducible exact H2_) | (have H2_ := (Option.bind_some _ _).symm.trans H; with_reducible exact H2_) | with_reducible exact H | (rw [hy332]; exact H) | exact H
                      have Ny332 := Aside0.mk hy332
                      clear hy332
                      have H' := Aside0.mk H
                      clear H
                      go_wp2_with (first | ((with_reducible refine gate_callee (f := 55) rfl ?_); refine goesL_ (some 71) rfl rfl Try.func55 (by kernel_rfl) rfl #[.slice A0 l0.length c0, .int .i64 x1_2] rfl zargs ?_; (with_reducible refine (garderoberef04_Get.calls k2 _ _ l0 x1_2 t327 t328 t329 t330 _ ?side1 ?side2 A31.out).mono ?_); (case side1 => exact zc (Kd.C_below HR0.out HB.out)); (case side2 => exact HC0.out); rintro e w34 ⟨rfl, hb⟩; refine ⟨_, rfl, ?_⟩; have n0_ := Aside0.mk (Kd.R_below (zr HO_320000) hb); have n1_ := Aside0.mk (blk_below (g := gb316) (o := .cells #[.slice none 0 0, .int .u8 x317001_2, .int .u16 x317002_2] 66 (0, 0)) zk hb); have n2_ := Aside0.mk (blk_below (g := gb319) (o := .cells #[u320000, .int .u8 x320001_4, .int .u16 x320002_4] 66 (0, 0)) zk hb); have n3_ := Aside0.mk (below_step (zb) hb); clear HO_320000; clear BK316; clear BK319; clear HB; have HO_320000 := n0_; have BK316 := n1_; have BK319 := n2_; have HB := n3_; clear n0_ n1_ n2_ n3_; (try clear hb); (try clear hb2); (try clear hk); (try clear hi)) | ((with_reducible refine gate_dst (N := 16) rfl ?_); refine zbox (N := 16) (cs := #[.int .u8 0, .int .u16 0]) (t := 44) ?_; intro gb331 hg w35 hbox hb; have n0_ := Aside0.mk (Kd.R_below (Kd.R_elderB (zr HO_320000) gb331 (Nat.le_of_eq hg.symm)) hb); have n1_ := Aside0.mk (blk_below (g := gb316) (o := .cells #[.slice none 0 0, .int .u8 x317001_2, .int .u16 x317002_2] 66 (0, 0)) zk hb); have n2_ := Aside0.mk (blk_below (g := gb319) (o := .cells #[u320000, .int .u8 x320001_4, .int .u16 x320002_4] 66 (0, 0)) zk hb); have n3_ := Aside0.mk (below_step (zb) hb); have n4_ := Aside0.mk (hbox); have n5_ := Aside0.mk ((by rw [hg]; exact (below_size (zb)) : w.heap.size ≤ gb331)); have n6_ := Aside0.mk ((by rw [hg]; exact (below_size (zb)) : w.heap.size ≤ gb331)); have n7_ := Aside0.mk ((by rw [hg]; exact Nat.ne_of_lt (blk_lt (g := gb316) (o := .cells #[.slice none 0 0, .int .u8 x317001_2, .int .u16 x317002_2] 66 (0, 0)) zk) : gb316 ≠ gb331)); have n8_ := Aside0.mk ((by rw [hg]; exact Nat.ne_of_gt (blk_lt (g := gb316) (o := .cells #[.slice none 0 0, .int .u8 x317001_2, .int .u16 x317002_2] 66 (0, 0)) zk) : gb331 ≠ gb316)); have n9_ := Aside0.mk ((by rw [hg]; exact Nat.ne_of_lt (blk_lt (g := gb319) (o := .cells #[u320000, .int .u8 x320001_4, .int .u16 x320002_4] 66 (0, 0)) zk) : gb319 ≠ gb331)); have n10_ := Aside0.mk ((by rw [hg]; exact Nat.ne_of_gt (blk_lt (g := gb319) (o := .cells #[u320000, .int .u8 x320001_4, .int .u16 x320002_4] 66 (0, 0)) zk) : gb331 ≠ gb319)); clear HO_320000; clear BK316; clear BK319; clear HB; have HO_320000 := n0_; have BK316 := n1_; have BK319 := n2_; have HB := n3_; have BK331 := n4_; have GW331 := n5_; have GE331 := n6_; have NB316_331 := n7_; have NB331_316 := n8_; have NB319_331 := n9_; have NB331_319 := n10_; clear n0_ n1_ n2_ n3_ n4_ n5_ n6_ n7_ n8_ n9_ n10_; clear hb hbox hg; have hnb36 := NB331_316.out; have hnc36 := NB316_331.out; have hnb37 := NB331_319.out; have hnc37 := NB319_331.out; obtain ⟨hcz38_0, hcz38_1⟩ := cells2 BK331.out; obtain ⟨hfz38_0, hfz38_1⟩ := froz2 BK331.out; have hnb39 := NB319_316.out; have hnc39 := NB316_319.out; obtain ⟨hcz40_0, hcz40_1, hcz40_2⟩ := cells3 BK319.out; obtain ⟨hfz40_0, hfz40_1, hfz40_2⟩ := froz3 BK319.out) | ((with_reducible refine gate_builtin (b := .append) (xs := #[.tmp 80, .tmp 82]) rfl ?_); at_builtin; refine Kd.R_append k44 (w0 := w) w.heap.size rfl (.tmp 80) (.tmp 82) 34 44 (.agg #[(.int .u8 0), (.int .u16 0)]) 4 rfl Try.underlying34 info44 rfl (by decide) (by omega) u320000 x320000_2 (⟨t327, t328⟩ : S44) [.int .u8 t327, .int .u16 t328] (fun k_ => k_ ≠ gb331) (fun _ => False) rfl (by first | (go_simp; done) | (go_simp; rfl)) ?aP (fun _ hk => hk.elim) ?aF ?aO ?aB ?aS ?aL ?_; (case aP => exact k44_mkM _ _ _ (⟨t327, t328⟩ : S44)); (case aB => exact (zb)); (case aF => exact (fun k_ hk => Kd.freshB (g := gb331) (o := .cells #[.int .u8 t327, .int .u16 t328] 44 (0, 0)) (by (with_reducible repeat (first | refine blk_drewN ?_ _ | refine blk_drew ?_ | refine blk_alloc ?_ _)); refine blk_put (cs := #[.int .u8 t327, .int .u16 0]) ?_ 1 _ rfl; (with_reducible repeat (first | refine blk_drewN ?_ _ | refine blk_drew ?_ | refine blk_alloc ?_ _)); refine blk_put (cs := #[.int .u8 0, .int .u16 0]) ?_ 0 _ rfl; (with_reducible repeat (first | refine blk_drewN ?_ _ | refine blk_drew ?_ | refine blk_alloc ?_ _)); exact BK331.out) k_ hk)); (case aO => exact (by (with_reducible repeat (first | apply Kd.R_alloc | apply Kd.R_drewN | apply Kd.R_drew)); exact Kd.R_mono (Kd.R_far (p := ⟨gb331, 1, none⟩) (Kd.R_far (p := ⟨gb331, 0, none⟩) (Kd.R_mono HO_320000.out (fun k_ hk => (⟨hk, hk.2⟩ : _ ∧ k_ ≠ gb331))) (fun _ hk => hk.2) (.int .u8 t327)) (fun _ hk => hk.2) (.int .u16 t328)) (fun _ hk => hk.1.2))); (case aS => exact (below_size (zb))); (case aL => have := LMc33.out; omega); intro v333 w41 ho hb hg hat; rw [← Ny332.out] at ho; have n0_ := Aside0.mk (blk_grown (g := gb316) (o := .cells #[.slice none 0 0, .int .u8 x317001_2, .int .u16 x317002_2] 66 (0, 0)) (by (with_reducible repeat (first | refine blk_drewN ?_ _ | refine blk_drew ?_ | refine blk_alloc ?_ _)); refine blk_far ?_ NB316_331.out _; (with_reducible repeat (first | refine blk_drewN ?_ _ | refine blk_drew ?_ | refine blk_alloc ?_ _)); refine blk_far ?_ NB316_331.out _; (with_reducible repeat (first | refine blk_drewN ?_ _ | refine blk_drew ?_ | refine blk_alloc ?_ _)); exact BK316.out) hg (Kd.R_ne HO_320000.out BK316.out (by decide))); have n1_ := Aside0.mk (blk_grown (g := gb319) (o := .cells #[u320000, .int .u8 x320001_4, .int .u16 x320002_4] 66 (0, 0)) (by (with_reducible repeat (first | refine blk_drewN ?_ _ | refine blk_drew ?_ | refine blk_alloc ?_ _)); refine blk_far ?_ NB319_331.out _; (with_reducible repeat (first | refine blk_drewN ?_ _ | refine blk_drew ?_ | refine blk_alloc ?_ _)); refine blk_far ?_ NB319_331.out _; (with_reducible repeat (first | refine blk_drewN ?_ _ | refine blk_drew ?_ | refine blk_alloc ?_ _)); exact BK319.out) hg (Kd.R_ne HO_320000.out BK319.out (by decide))); have n2_ := Aside0.mk (blk_grown (g := gb331) (o := .cells #[.int .u8 t327, .int .u16 t328] 44 (0, 0)) (by (with_reducible repeat (first | refine blk_drewN ?_ _ | refine blk_drew ?_ | refine blk_alloc ?_ _)); refine blk_put (cs := #[.int .u8 t327, .int .u16 0]) ?_ 1 _ rfl; (with_reducible repeat (first | refine blk_drewN ?_ _ | refine blk_drew ?_ | refine blk_alloc ?_ _)); refine blk_put (cs := #[.int .u8 0, .int .u16 0]) ?_ 0 _ rfl; (with_reducible repeat (first | refine blk_drewN ?_ _ | refine blk_drew ?_ | refine blk_alloc ?_ _)); exact BK331.out) hg (Kd.R_away HO_320000.out (fun _ hk => hk.2))); have n3_ := Aside0.mk (hb); have n4_ := Aside0.mk (ho); clear BK316; clear BK319; clear BK331; clear HB; clear HO_320000; have BK316 := n0_; have BK319 := n1_; have BK331 := n2_; have HB := n3_; have HO334 := n4_; clear n0_ n1_ n2_ n3_ n4_; clear ho hb hg hat; obtain ⟨Ao42, co42, eo42⟩ := Kd.R_slice HO334.out; subst eo42; obtain ⟨hcz43_0, hcz43_1, hcz43_2⟩ := cells3 BK319.out; obtain ⟨hfz43_0, hfz43_1, hfz43_2⟩ := froz3 BK319.out))
                      go_roundg k2
                      case measure => have := HJ4.out; have := HK2.out; omega
                      case rel => exact ⟨(t329), (wrap64 (x15_2 + 1)), (x317001_2), (x317002_2), (y332), (.slice Ao42 y332.length co42), zs, zs, H', ⟨by have := HJ4.out; have := HK2.out; omega⟩, ⟨by (with_reducible repeat (first | apply Kd.R_alloc | apply Kd.R_drewN | apply Kd.R_drew)); exact Kd.R_mono (Kd.R_far (p := ⟨gb319, 0, none⟩) (Kd.R_types HO334.out BK319.out (by decide)) (fun _ hk => hk.2) (.slice Ao42 y332.length co42)) (fun _ hk => trivial)⟩, ⟨by (with_reducible repeat (first | refine blk_drewN ?_ _ | refine blk_drew ?_ | refine blk_alloc ?_ _)); refine blk_far ?_ NB316_319.out _; (with_reducible repeat (first | refine blk_drewN ?_ _ | refine blk_drew ?_ | refine blk_alloc ?_ _)); exact BK316.out⟩, ⟨by (with_reducible repeat (first | refine blk_drewN ?_ _ | refine blk_drew ?_ | refine blk_alloc ?_ _)); refine blk_put (cs := #[u320000, .int .u8 x320001_4, .int .u16 x320002_4]) ?_ 0 _ rfl; (with_reducible repeat (first | refine blk_drewN ?_ _ | refine blk_drew ?_ | refine blk_alloc ?_ _)); exact BK319.out⟩, ⟨zb⟩⟩
                    · rw [if_neg c33] at H
                      exact absurd H (by simp)
                  · rw [if_neg c32] at H
                    have c32b0 : (t330 == 0) = false := beq_eq_false_iff_ne.mpr c32
                    have c32b1 : (t330 != 0) = true := bne_iff_ne.mpr c32
                    simp only [Option.some.injEq, Prod.mk.injEq] at H
                    obtain ⟨rfl, rfl, rfl, rfl, rfl⟩ := H
                    go_wp2_with (first | ((with_reducible refine gate_callee (f := 55) rfl ?_); refine goesL_ (some 71) rfl rfl Try.func55 (by kernel_rfl) rfl #[.slice A0 l0.length c0, .int .i64 x1_2] rfl zargs ?_; (with_reducible refine (garderoberef04_Get.calls k2 _ _ l0 x1_2 t327 t328 t329 t330 _ ?side1 ?side2 A31.out).mono ?_); (case side1 => exact zc (Kd.C_below HR0.out HB.out)); (case side2 => exact HC0.out); rintro e w44 ⟨rfl, hb⟩; refine ⟨_, rfl, ?_⟩; have n0_ := Aside0.mk (Kd.R_below (zr HO_320000) hb); have n1_ := Aside0.mk (blk_below (g := gb316) (o := .cells #[.slice none 0 0, .int .u8 x317001_2, .int .u16 x317002_2] 66 (0, 0)) zk hb); have n2_ := Aside0.mk (blk_below (g := gb319) (o := .cells #[u320000, .int .u8 x320001_4, .int .u16 x320002_4] 66 (0, 0)) zk hb); have n3_ := Aside0.mk (below_step (zb) hb); clear HO_320000; clear BK316; clear BK319; clear HB; have HO_320000 := n0_; have BK316 := n1_; have BK319 := n2_; have HB := n3_; clear n0_ n1_ n2_ n3_; (try clear hb); (try clear hb2); (try clear hk); (try clear hi)) | ((with_reducible refine gate_dst (N := 16) rfl ?_); refine zbox (N := 16) (cs := #[.int .u8 0, .int .u16 0]) (t := 44) ?_; intro gb331 hg w45 hbox hb; have n0_ := Aside0.mk (Kd.R_below (Kd.R_elderB (zr HO_320000) gb331 (Nat.le_of_eq hg.symm)) hb); have n1_ := Aside0.mk (blk_below (g := gb316) (o := .cells #[.slice none 0 0, .int .u8 x317001_2, .int .u16 x317002_2] 66 (0, 0)) zk hb); have n2_ := Aside0.mk (blk_below (g := gb319) (o := .cells #[u320000, .int .u8 x320001_4, .int .u16 x320002_4] 66 (0, 0)) zk hb); have n3_ := Aside0.mk (below_step (zb) hb); have n4_ := Aside0.mk (hbox); have n5_ := Aside0.mk ((by rw [hg]; exact (below_size (zb)) : w.heap.size ≤ gb331)); have n6_ := Aside0.mk ((by rw [hg]; exact (below_size (zb)) : w.heap.size ≤ gb331)); have n7_ := Aside0.mk ((by rw [hg]; exact Nat.ne_of_lt (blk_lt (g := gb316) (o := .cells #[.slice none 0 0, .int .u8 x317001_2, .int .u16 x317002_2] 66 (0, 0)) zk) : gb316 ≠ gb331)); have n8_ := Aside0.mk ((by rw [hg]; exact Nat.ne_of_gt (blk_lt (g := gb316) (o := .cells #[.slice none 0 0, .int .u8 x317001_2, .int .u16 x317002_2] 66 (0, 0)) zk) : gb331 ≠ gb316)); have n9_ := Aside0.mk ((by rw [hg]; exact Nat.ne_of_lt (blk_lt (g := gb319) (o := .cells #[u320000, .int .u8 x320001_4, .int .u16 x320002_4] 66 (0, 0)) zk) : gb319 ≠ gb331)); have n10_ := Aside0.mk ((by rw [hg]; exact Nat.ne_of_gt (blk_lt (g := gb319) (o := .cells #[u320000, .int .u8 x320001_4, .int .u16 x320002_4] 66 (0, 0)) zk) : gb331 ≠ gb319)); clear HO_320000; clear BK316; clear BK319; clear HB; have HO_320000 := n0_; have BK316 := n1_; have BK319 := n2_; have HB := n3_; have BK331 := n4_; have GW331 := n5_; have GE331 := n6_; have NB316_331 := n7_; have NB331_316 := n8_; have NB319_331 := n9_; have NB331_319 := n10_; clear n0_ n1_ n2_ n3_ n4_ n5_ n6_ n7_ n8_ n9_ n10_; clear hb hbox hg; have hnb46 := NB331_316.out; have hnc46 := NB316_331.out; have hnb47 := NB331_319.out; have hnc47 := NB319_331.out; obtain ⟨hcz48_0, hcz48_1⟩ := cells2 BK331.out; obtain ⟨hfz48_0, hfz48_1⟩ := froz2 BK331.out; have hnb49 := NB316_319.out; have hnc49 := NB319_316.out; obtain ⟨hcz50_0, hcz50_1, hcz50_2⟩ := cells3 BK316.out; obtain ⟨hfz50_0, hfz50_1, hfz50_2⟩ := froz3 BK316.out))
                    refine bodyPost_ret (results_ctt rfl _ _ gb316 66 #[.slice none 0 0, .int .u8 0, .int .u16 0] (0, 0) _ rfl (by (with_reducible repeat (first | refine blk_drewN ?_ _ | refine blk_drew ?_ | refine blk_alloc ?_ _)); refine blk_put (cs := #[.slice none 0 0, .int .u8 0, .int .u16 x317002_2]) ?_ 2 _ rfl; (with_reducible repeat (first | refine blk_drewN ?_ _ | refine blk_drew ?_ | refine blk_alloc ?_ _)); refine blk_put (cs := #[.slice none 0 0, .int .u8 x317001_2, .int .u16 x317002_2]) ?_ 1 _ rfl; (with_reducible repeat (first | refine blk_drewN ?_ _ | refine blk_drew ?_ | refine blk_alloc ?_ _)); refine blk_put (cs := #[.slice none 0 0, .int .u8 x317001_2, .int .u16 x317002_2]) ?_ 0 _ rfl; (with_reducible repeat (first | refine blk_drewN ?_ _ | refine blk_drew ?_ | refine blk_alloc ?_ _)); refine blk_far ?_ NB316_331.out _; (with_reducible repeat (first | refine blk_drewN ?_ _ | refine blk_drew ?_ | refine blk_alloc ?_ _)); refine blk_far ?_ NB316_331.out _; (with_reducible repeat (first | refine blk_drewN ?_ _ | refine blk_drew ?_ | refine blk_alloc ?_ _)); exact BK316.out) Try.underlying66 rfl (by kernel_rfl)) rfl ?_
                    exact ⟨_, ze, by first | exact Kd.R_nil _ _ _ _ _ | exact Kd.N_nil _ _ _ _ _ | exact Kd.V_nil _ _ _ _ _ | exact Kd.Q_nil _ _ _ _ _ | exact Kd.S_nil _ _ _ _ _, zb⟩
                · rw [if_neg c30] at H
                  have c30b0 : decide (x15_2 < (wrap64 (t325))) = false := decide_eq_false c30
                  clear c30
                  simp only [Option.some.injEq, Prod.mk.injEq] at H
                  obtain ⟨rfl, rfl, rfl, rfl, rfl⟩ := H
                  have hnb51 := NB319_316.out
                  have hnc51 := NB316_319.out
                  obtain ⟨hcz52_0, hcz52_1, hcz52_2⟩ := cells3 BK319.out
                  obtain ⟨hfz52_0, hfz52_1, hfz52_2⟩ := froz3 BK319.out
                  obtain ⟨Ao53, co53, eo53⟩ := Kd.R_slice HO_320000.out
                  subst eo53
                  obtain ⟨hcz54_0, hcz54_1, hcz54_2⟩ := cells3 BK316.out
                  obtain ⟨hfz54_0, hfz54_1, hfz54_2⟩ := froz3 BK316.out
                  go_wp2
                  refine bodyPost_ret (results_ctt rfl _ _ gb316 66 #[.slice Ao53 x320000_2.length co53, .int .u8 x320001_4, .int .u16 x320002_4] (0, 0) _ rfl (by (with_reducible repeat (first | refine blk_drewN ?_ _ | refine blk_drew ?_ | refine blk_alloc ?_ _)); refine blk_put (cs := #[.slice Ao53 x320000_2.length co53, .int .u8 x320001_4, .int .u16 x317002_2]) ?_ 2 _ rfl; (with_reducible repeat (first | refine blk_drewN ?_ _ | refine blk_drew ?_ | refine blk_alloc ?_ _)); refine blk_put (cs := #[.slice Ao53 x320000_2.length co53, .int .u8 x317001_2, .int .u16 x317002_2]) ?_ 1 _ rfl; (with_reducible repeat (first | refine blk_drewN ?_ _ | refine blk_drew ?_ | refine blk_alloc ?_ _)); refine blk_put (cs := #[.slice none 0 0, .int .u8 x317001_2, .int .u16 x317002_2]) ?_ 0 _ rfl; (with_reducible repeat (first | refine blk_drewN ?_ _ | refine blk_drew ?_ | refine blk_alloc ?_ _)); exact BK316.out) Try.underlying66 rfl (by kernel_rfl)) rfl ?_
                  exact ⟨_, ze, by (with_reducible repeat (first | apply Kd.R_alloc | apply Kd.R_drewN | apply Kd.R_drew)); exact Kd.R_mono (Kd.R_far (p := ⟨gb316, 2, none⟩) (Kd.R_far (p := ⟨gb316, 1, none⟩) (Kd.R_far (p := ⟨gb316, 0, none⟩) (Kd.R_types HO_320000.out BK316.out (by decide)) (fun _ hk => hk.2) (.slice Ao53 x320000_2.length co53)) (fun _ hk => hk.2) (.int .u8 x320001_4)) (fun _ hk => hk.2) (.int .u16 x320002_4)) (fun _ hk => trivial), zb⟩
        · rw [if_neg c26] at H
          have c26b0 : (t326 == 0) = false := beq_eq_false_iff_ne.mpr c26
          have c26b1 : (t326 != 0) = true := bne_iff_ne.mpr c26
          simp only [Option.some.injEq, Prod.mk.injEq] at H
          obtain ⟨rfl, rfl, rfl, rfl, rfl⟩ := H
          go_wp2_with (first | ((with_reducible refine gate_callee (f := 52) rfl ?_); refine goesL_ (some 50) rfl rfl Try.func52 (by kernel_rfl) rfl #[.slice A0 l0.length c0, .int .i64 x1_4, .int .i64 1] rfl zargs ?_; (with_reducible refine (garderoberef02_Get.calls kj4 _ _ l0 x1_4 1 t325 t326 _ ?side1 ?side2 A25.out).mono ?_); (case side1 => exact zc (Kd.C_below HR0.out HB.out)); (case side2 => exact HC0.out); rintro e w' ⟨rfl, ⟨nd, rfl⟩⟩; refine ⟨_, rfl, ?_⟩; (try (rw [drewN_self wc]; generalize hq_ : World.drewN wc _ = wc; have n0_ : Aside0 (wc.heap[gb316]? = some (.cells #[.slice none 0 0, .int .u8 x317001_4, .int .u16 x317002_4] 66 (0, 0))) := ⟨by rw [← hq_]; exact zk⟩; have n1_ : Aside0 (wc.heap[gb319]? = some (.cells #[.slice none 0 0, .int .u8 x320001_4, .int .u16 x320002_4] 66 (0, 0))) := ⟨by rw [← hq_]; exact zk⟩; have n2_ : Aside0 (Below w.heap.size w wc) := ⟨by rw [← hq_]; exact (zb)⟩; clear BK316 BK319 HB hq_; have BK316 := n0_; have BK319 := n1_; have HB := n2_; clear n0_ n1_ n2_)); have hnb55 := NB316_319.out; have hnc55 := NB319_316.out; obtain ⟨hcz56_0, hcz56_1, hcz56_2⟩ := cells3 BK316.out; obtain ⟨hfz56_0, hfz56_1, hfz56_2⟩ := froz3 BK316.out))
          refine bodyPost_ret (results_ctt rfl _ _ gb316 66 #[.slice none 0 0, .int .u8 0, .int .u16 0] (0, 0) _ rfl (by (with_reducible repeat (first | refine blk_drewN ?_ _ | refine blk_drew ?_ | refine blk_alloc ?_ _)); refine blk_put (cs := #[.slice none 0 0, .int .u8 0, .int .u16 x317002_4]) ?_ 2 _ rfl; (with_reducible repeat (first | refine blk_drewN ?_ _ | refine blk_drew ?_ | refine blk_alloc ?_ _)); refine blk_put (cs := #[.slice none 0 0, .int .u8 x317001_4, .int .u16 x317002_4]) ?_ 1 _ rfl; (with_reducible repeat (first | refine blk_drewN ?_ _ | refine blk_drew ?_ | refine blk_alloc ?_ _)); refine blk_put (cs := #[.slice none 0 0, .int .u8 x317001_4, .int .u16 x317002_4]) ?_ 0 _ rfl; (with_reducible repeat (first | refine blk_drewN ?_ _ | refine blk_drew ?_ | refine blk_alloc ?_ _)); exact BK316.out) Try.underlying66 rfl (by kernel_rfl)) rfl ?_
          exact ⟨_, ze, by first | exact Kd.R_nil _ _ _ _ _ | exact Kd.N_nil _ _ _ _ _ | exact Kd.V_nil _ _ _ _ _ | exact Kd.Q_nil _ _ _ _ _ | exact Kd.S_nil _ _ _ _ _, zb⟩
  · rw [if_neg c4] at H
    have c4b0 : (t318 == 0) = false := beq_eq_false_iff_ne.mpr c4
    have c4b1 : (t318 != 0) = true := bne_iff_ne.mpr c4
    simp only [Option.some.injEq, Prod.mk.injEq] at H
    obtain ⟨rfl, rfl, rfl, rfl, rfl⟩ := H
    go_enter Try.func53, Try.ntmps53
    go_wp2_with (first | ((with_reducible refine gate_dst (N := 4) rfl ?_); refine zbox (N := 4) (cs := #[.slice none 0 0, .int .u8 0, .int .u16 0]) (t := 66) ?_; intro gb316 hg w57 hbox hb; have n0_ := Aside0.mk (below_step (zb) hb); have n1_ := Aside0.mk (hbox); have n2_ := Aside0.mk ((by rw [hg]; exact (below_size (zb)) : w.heap.size ≤ gb316)); have n3_ := Aside0.mk ((by rw [hg]; exact (below_size (zb)) : w.heap.size ≤ gb316)); clear HB; have HB := n0_; have BK316 := n1_; have GW316 := n2_; have GE316 := n3_; clear n0_ n1_ n2_ n3_; clear hb hbox hg) | ((with_reducible refine gate_callee (f := 52) rfl ?_); refine goesL_ (some 22) rfl rfl Try.func52 (by kernel_rfl) rfl #[.slice A0 l0.length c0, .int .i64 a1, .int .i64 1] rfl zargs ?_; (with_reducible refine (garderoberef02_Get.calls k _ _ l0 a1 1 t317 t318 _ ?side1 ?side2 A3.out).mono ?_); (case side1 => exact zc (Kd.C_below HR0.out HB.out)); (case side2 => exact HC0.out); rintro e w' ⟨rfl, ⟨nd, rfl⟩⟩; refine ⟨_, rfl, ?_⟩; (try (rw [drewN_self w57]; generalize hq_ : World.drewN w57 _ = w57; have n0_ : Aside0 (w57.heap[gb316]? = some (.cells #[.slice none 0 0, .int .u8 0, .int .u16 0] 66 (0, 0))) := ⟨by rw [← hq_]; exact zk⟩; have n1_ : Aside0 (Below w.heap.size w w57) := ⟨by rw [← hq_]; exact (zb)⟩; clear BK316 HB hq_; have BK316 := n0_; have HB := n1_; clear n0_ n1_)); obtain ⟨hcz58_0, hcz58_1, hcz58_2⟩ := cells3 BK316.out; obtain ⟨hfz58_0, hfz58_1, hfz58_2⟩ := froz3 BK316.out))
    refine bodyPost_ret (results_ctt rfl _ _ gb316 66 #[.slice none 0 0, .int .u8 0, .int .u16 0] (0, 0) _ rfl (by (with_reducible repeat (first | refine blk_drewN ?_ _ | refine blk_drew ?_ | refine blk_alloc ?_ _)); refine blk_put (cs := #[.slice none 0 0, .int .u8 0, .int .u16 0]) ?_ 2 _ rfl; (with_reducible repeat (first | refine blk_drewN ?_ _ | refine blk_drew ?_ | refine blk_alloc ?_ _)); refine blk_put (cs := #[.slice none 0 0, .int .u8 0, .int .u16 0]) ?_ 1 _ rfl; (with_reducible repeat (first | refine blk_drewN ?_ _ | refine blk_drew ?_ | refine blk_alloc ?_ _)); refine blk_put (cs := #[.slice none 0 0, .int .u8 0, .int .u16 0]) ?_ 0 _ rfl; (with_reducible repeat (first | refine blk_drewN ?_ _ | refine blk_drew ?_ | refine blk_alloc ?_ _)); exact BK316.out) Try.underlying66 rfl (by kernel_rfl)) rfl ?_
    exact ⟨_, ze, by first | exact Kd.R_nil _ _ _ _ _ | exact Kd.N_nil _ _ _ _ _ | exact Kd.V_nil _ _ _ _ _ | exact Kd.Q_nil _ _ _ _ _ | exact Kd.S_nil _ _ _ _ _, zb⟩
end Go.Proofs.Ytjbpdmkalegacaa.PClassFresh
