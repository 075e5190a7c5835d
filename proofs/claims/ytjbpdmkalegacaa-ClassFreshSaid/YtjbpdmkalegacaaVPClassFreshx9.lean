/- Of ClassFresh's texts: what the law uses. -/
import Derived.Deep.RegionLaw
import Derived.Test.YtjbpdmkalegacaaVPClassFreshx7
import Derived.Test.YtjbpdmkalegacaaVPClassFreshx0
import Derived.Test.YtjbpdmkalegacaaVPClassFreshx5
import Derived.Test.YtjbpdmkalegacaaVPClassFreshx8
namespace Go.Proofs.Ytjbpdmkalegacaa.PClassFresh
open Go.RowKit Go.Proofs.YtjbpdmkalegacaaW.PrintWords Go.Proofs.YtjbpdmkalegacaaW.PrintLast Go.Proofs.YtjbpdmkalegacaaW.PrintMore Go.Proofs.YtjbpdmkalegacaaW.Mine
attribute [local go_sem] Go.Proofs.YtjbpdmkalegacaaW.Mine.isSome_set max2_int min2_int max_two min_two max_three min_three max_four min_four   -- for this text's walks alone
set_option linter.unusedVariables false
set_option linter.unusedSimpArgs false
def garderoberef02_Part.j0 : Nat → List Int → Int → Int → Bool → Option (List Int × Int)
  | 0, _, _, _, _ => none
  | k + 1, x0, x1, x2, x20 => if x20 = true then (some (([] : List Int), 2)) else (if (wrap64 ((x0.length : Int) - x1)) < x2 then (some (([] : List Int), 4)) else (if 0 ≤ x1 then (if x1 ≤ (wrap64 (x1 + x2)) then (if (wrap64 (x1 + x2)) ≤ (x0.length : Int) then (if ([] : List Int).length + ((x0.take ((wrap64 (x1 + x2)) : Int).toNat).drop (x1 : Int).toNat).length < 140737488355328 then (some ((([] : List Int) ++ ((x0.take ((wrap64 (x1 + x2)) : Int).toNat).drop (x1 : Int).toNat)), 0)) else (none)) else (none)) else (none)) else (none)))
def garderoberef02_Part.f (k : Nat) (l0 : List Int) (a1 : Int) (a2 : Int) : Option (List Int × Int) := if a1 < 0 then (garderoberef02_Part.j0 k l0 a1 a2 true) else (if a1 > (l0.length : Int) then (garderoberef02_Part.j0 k l0 a1 a2 true) else (garderoberef02_Part.j0 k l0 a1 a2 (decide (a2 < 0))))
set_option maxHeartbeats 8000000 in
set_option maxRecDepth 100000 in
theorem garderoberef02_Part.calls (k : Nat) (A0 : Option Addr) (c0 : Nat) (l0 : List Int) (a1 : Int) (a2 : Int) (r1 : List Int) (r2 : Int) (w : World) (hr0 : Kd.C (Kd.int .u8) w A0 l0.length l0) (hc0 : l0.length ≤ c0) (h : garderoberef02_Part.f k l0 a1 a2 = some (r1, r2)) :
    Calls Try.prog 73 #[.slice A0 l0.length c0, .int .i64 a1, .int .i64 a2] w fun e w' => ∃ v0_ : Value, e = .returned (.tuple #[v0_, .int .i64 r2]) ∧ Kd.R (Kd.int .u8) 5 w' w.heap.size (fun _ => True) v0_ r1 ∧ Below w.heap.size w w' := by
  have HR0 := Aside0.mk hr0
  have HC0 := Aside0.mk hc0
  clear hr0 hc0
  have HB := Aside0.mk (Below.refl w.heap.size w)
  have H : (if a1 < 0 then (garderoberef02_Part.j0 k l0 a1 a2 true) else (if a1 > (l0.length : Int) then (garderoberef02_Part.j0 k l0 a1 a2 true) else (garderoberef02_Part.j0 k l0 a1 a2 (decide (a2 < 0))))) = some (r1, r2) := h
  clear h
  have HC4 := Aside0.mk H
  clear H
  go_enter Try.func73, Try.ntmps73
  go_upto_region 1 with (fail)
  go_cut [20] (fun v20 wc => ∃ (kq : Nat) (x20_3 : Bool), v20 = .bool x20_3 ∧ Aside0 (garderoberef02_Part.j0 kq l0 a1 a2 x20_3 = some (r1, r2)) ∧ Aside0 (kq ≤ k) ∧ Aside0 (Below w.heap.size w wc))
  case first =>
    have H := HC4.out
    clear HC4
    by_cases c5 : a1 < 0
    · rw [if_pos c5] at H
      have c5b0 : decide (a1 < 0) = true := decide_eq_true c5
      clear c5
      (first | rw [c5b0] | (simp only [i64_w, i32_w]; rw [c5b0]) | skip)
      have H' := Aside0.mk H
      clear H
      go_wp2
      go_meet
      case rel => exact ⟨_, (true), zs, H', ⟨by first | omega | exact Nat.le_refl _⟩, ⟨zb⟩⟩
    · rw [if_neg c5] at H
      have c5b0 : decide (a1 < 0) = false := decide_eq_false c5
      clear c5
      (first | rw [c5b0] | (simp only [i64_w, i32_w]; rw [c5b0]) | skip)
      by_cases c6 : a1 > (l0.length : Int)
      · rw [if_pos c6] at H
        have c6b0 : decide ((l0.length : Int) < a1) = true := decide_eq_true c6
        clear c6
        have H' := Aside0.mk H
        clear H
        go_wp2
        go_meet
        case rel => exact ⟨_, (true), zs, H', ⟨by first | omega | exact Nat.le_refl _⟩, ⟨zb⟩⟩
      · rw [if_neg c6] at H
        have c6b0 : decide ((l0.length : Int) < a1) = false := decide_eq_false c6
        clear c6
        have H' := Aside0.mk H
        clear H
        go_wp2
        go_meet
        case rel => exact ⟨_, (decide (a2 < 0)), zs, H', ⟨by first | omega | exact Nat.le_refl _⟩, ⟨zb⟩⟩
  case rest =>
    clear HC4
    try clear p2
    try clear c5
    try clear c5b0
    try clear c6
    try clear c6b0
    obtain ⟨kq, x20_3, rfl, HA, HJ3, HB⟩ := hcut
    cases kq with
    | zero => exact absurd HA.out (by simp [garderoberef02_Part.j0])
    | succ kj3 =>
      have H := HA.out
      clear HA
      simp only [garderoberef02_Part.j0] at H
      by_cases c7 : x20_3 = true
      · subst c7
        have H1 : (some (([] : List Int), 2)) = some (r1, r2) := by rw [if_pos rfl] at H; exact H
        clear H
        have H := H1
        clear H1
        simp only [Option.some.injEq, Prod.mk.injEq] at H
        obtain ⟨rfl, rfl⟩ := H
        go_wp2
        go_ret2
        exact ⟨_, ze, by first | exact Kd.R_nil _ _ _ _ _ | exact Kd.N_nil _ _ _ _ _ | exact Kd.V_nil _ _ _ _ _ | exact Kd.Q_nil _ _ _ _ _ | exact Kd.S_nil _ _ _ _ _, zb⟩
      · replace c7 := Bool.eq_false_iff.mpr c7
        subst c7
        have H1 : (if (wrap64 ((l0.length : Int) - a1)) < a2 then (some (([] : List Int), 4)) else (if 0 ≤ a1 then (if a1 ≤ (wrap64 (a1 + a2)) then (if (wrap64 (a1 + a2)) ≤ (l0.length : Int) then (if ([] : List Int).length + ((l0.take ((wrap64 (a1 + a2)) : Int).toNat).drop (a1 : Int).toNat).length < 140737488355328 then (some ((([] : List Int) ++ ((l0.take ((wrap64 (a1 + a2)) : Int).toNat).drop (a1 : Int).toNat)), 0)) else (none)) else (none)) else (none)) else (none))) = some (r1, r2) := by rw [if_neg (show ¬ (false = true) by decide)] at H; exact H
        clear H
        have H := H1
        clear H1
        by_cases c8 : (wrap64 ((l0.length : Int) - a1)) < a2
        · rw [if_pos c8] at H
          have c8b0 : decide ((wrap64 ((l0.length : Int) - a1)) < a2) = true := decide_eq_true c8
          clear c8
          simp only [Option.some.injEq, Prod.mk.injEq] at H
          obtain ⟨rfl, rfl⟩ := H
          go_wp2
          go_ret2
          exact ⟨_, ze, by first | exact Kd.R_nil _ _ _ _ _ | exact Kd.N_nil _ _ _ _ _ | exact Kd.V_nil _ _ _ _ _ | exact Kd.Q_nil _ _ _ _ _ | exact Kd.S_nil _ _ _ _ _, zb⟩
        · rw [if_neg c8] at H
          have c8b0 : decide ((wrap64 ((l0.length : Int) - a1)) < a2) = false := decide_eq_false c8
          clear c8
          by_cases c9 : 0 ≤ a1
          · rw [if_pos c9] at H
            have c9b0 := eq_true c9
            have c9b1 : decide (0 ≤ a1) = true := decide_eq_true c9
            clear c9
            by_cases c10 : a1 ≤ (wrap64 (a1 + a2))
            · rw [if_pos c10] at H
              have c10b0 := eq_true c10
              have c10b1 : decide (a1 ≤ (wrap64 (a1 + a2))) = true := decide_eq_true c10
              by_cases c11 : (wrap64 (a1 + a2)) ≤ (l0.length : Int)
              · rw [if_pos c11] at H
                have c11b0 := eq_true c11
                have c11b1 : decide ((wrap64 (a1 + a2)) ≤ (l0.length : Int)) = true := decide_eq_true c11
                by_cases c12 : ([] : List Int).length + ((l0.take ((wrap64 (a1 + a2)) : Int).toNat).drop (a1 : Int).toNat).length < 140737488355328
                · rw [if_pos c12] at H
                  have LMc12 := Aside0.mk c12
                  clear c12
                  obtain ⟨y336, hy336⟩ : ∃ y_ : List Int, y_ = (([] : List Int) ++ ((l0.take ((wrap64 (a1 + a2)) : Int).toNat).drop (a1 : Int).toNat)) := ⟨_, rfl⟩
                  replace H : (some (y336, 0)) = some (r1, r2) := by first | (rw [hy336]; with_reducible exact H) | (have H2_ := (Option.bind_some _ _).symm.trans H; rw [hy336]; with_reducible exact H2_) | (have H2_ := (Option.bind_some _ _).symm.trans H; with_reducible exact H2_) | with_reducible exact H | (rw [hy336]; exact H) | exact H
                  have Ny336 := Aside0.mk hy336
                  clear hy336
                  simp only [Option.some.injEq, Prod.mk.injEq] at H
                  obtain ⟨rfl, rfl⟩ := H
                  obtain ⟨i013, hi013, _, hsz13, _⟩ := info_parts info5
                  obtain ⟨A13, hcut13, hA13, hC13⟩ := print_mid_of (P := Try.prog) (Value.int .u8) 0 24 5 .i64 .i64 Try.underlying24 hi013 hsz13 A0 c0 l0 a1 (wrap64 (a1 + a2)) (of_decide_eq_true (by first | (with_reducible assumption) | assumption)) (by first | omega | exact of_decide_eq_true (by first | (with_reducible assumption) | assumption)) (of_decide_eq_true (by first | (with_reducible assumption) | assumption)) HC0.out
                  have HR335 := Aside0.mk (Kd.C_of_reads (h1 := fun _ => rfl) (hA13 _ (Kd.reads_of_C HR0.out)))
                  have HC335 := Aside0.mk hC13
                  clear hA13 hC13 hi013 hsz13
                  go_wp2_with (first | ((with_reducible refine gate_builtin (b := .append) (xs := #[.tmp 27, .tmp 33]) rfl ?_); (try (refine gate_guard (by rfl) ?_; dsimp only)); at_builtin; refine Kd.R_append_rows (Kd.int .u8) (w0 := w) w.heap.size rfl (.tmp 27) (.tmp 33) 24 5 (.int .u8 0) 1 rfl Try.underlying24 info5 rfl (by decide) (by omega) (.slice none 0 0) ([] : List Int) ((l0.take ((wrap64 (a1 + a2)) : Int).toNat).drop (a1 : Int).toNat) _ _ _ (fun _ => True) (fun _ => False) rfl rfl ?aO ?aR (fun _ _ h => h) (fun _ h => h.elim) ?aF ?aB ?aS ?aL ?_; (case aR => first | (rw [← show ((l0.take ((wrap64 (a1 + a2)) : Int).toNat).drop (a1 : Int).toNat).length = ((wrap64 (a1 + a2)).toNat - a1.toNat) from (by rw [List.length_drop, List.length_take]; have h_ : ((wrap64 (a1 + a2)) : Int) ≤ (l0.length : Int) := of_decide_eq_true (by first | (with_reducible assumption) | assumption); omega)]; repeat (first | exact (Kd.C_below HR335.out HB.out) | (with_reducible refine Kd.C_alloc ?_ _) | (with_reducible refine Kd.C_drewN ?_ _) | (with_reducible refine Kd.C_drew ?_))) | (repeat (first | exact (Kd.C_below HR335.out HB.out) | (with_reducible refine Kd.C_alloc ?_ _) | (with_reducible refine Kd.C_drewN ?_ _) | (with_reducible refine Kd.C_drew ?_)))); (case aB => exact (zb)); (case aF => exact (fun _ _ => trivial)); (case aO => exact ((Kd.R_nil _ _ _ _ (fun _ => True)))); (case aS => exact (below_size (zb))); (case aL => have := LMc12.out; have hlx_ := (show ((l0.take ((wrap64 (a1 + a2)) : Int).toNat).drop (a1 : Int).toNat).length = ((wrap64 (a1 + a2)).toNat - a1.toNat) from (by rw [List.length_drop, List.length_take]; have h_ : ((wrap64 (a1 + a2)) : Int) ≤ (l0.length : Int) := of_decide_eq_true (by first | (with_reducible assumption) | assumption); omega)); omega); intro v337 w14 ho hb hg hat; rw [← Ny336.out] at ho; have n0_ := Aside0.mk (hb); have n1_ := Aside0.mk (ho); clear HB; have HB := n0_; have HO338 := n1_; clear n0_ n1_; clear ho hb hg hat))
                  go_ret2
                  exact ⟨_, ze, by (with_reducible repeat (first | apply Kd.R_alloc | apply Kd.R_drewN | apply Kd.R_drew)); exact HO338.out, zb⟩
                · rw [if_neg c12] at H
                  exact absurd H (by simp)
              · rw [if_neg c11] at H
                exact absurd H (by simp)
            · rw [if_neg c10] at H
              exact absurd H (by simp)
          · rw [if_neg c9] at H
            exact absurd H (by simp)
def garderoberef02_GetRow.j0 : Nat → List Int → Int → Int → Bool → Option (List Int × Int × Int)
  | 0, _, _, _, _ => none
  | k + 1, x0, x1, x2, x18 => if x18 = true then (some (([] : List Int), 0, 2)) else ((garderoberef02_Get.f k x0 x1 x2).bind fun bt339 => (if bt339.2 = 0 then ((garderoberef02_Part.f k x0 (wrap64 (x1 + x2)) (wrap64 (bt339.1))).bind fun bt341 => (if bt341.2 = 0 then (some (bt341.1, wrap64 ((wrap64 (x1 + x2)) + (wrap64 (bt339.1))), 0)) else (some (([] : List Int), 0, bt341.2)))) else (some (([] : List Int), 0, bt339.2))))
def garderoberef02_GetRow.f (k : Nat) (l0 : List Int) (a1 : Int) (a2 : Int) : Option (List Int × Int × Int) := if a2 = 1 then (garderoberef02_GetRow.j0 k l0 a1 a2 false) else (garderoberef02_GetRow.j0 k l0 a1 a2 (a2 != 2))
set_option maxHeartbeats 8000000 in
set_option maxRecDepth 100000 in
theorem garderoberef02_GetRow.calls (k : Nat) (A0 : Option Addr) (c0 : Nat) (l0 : List Int) (a1 : Int) (a2 : Int) (r1 : List Int) (r2 : Int) (r3 : Int) (w : World) (hr0 : Kd.C (Kd.int .u8) w A0 l0.length l0) (hc0 : l0.length ≤ c0) (h : garderoberef02_GetRow.f k l0 a1 a2 = some (r1, r2, r3)) :
    Calls Try.prog 54 #[.slice A0 l0.length c0, .int .i64 a1, .int .i64 a2] w fun e w' => ∃ v0_ : Value, e = .returned (.tuple #[v0_, .int .i64 r2, .int .i64 r3]) ∧ Kd.R (Kd.int .u8) 5 w' w.heap.size (fun _ => True) v0_ r1 ∧ Below w.heap.size w w' := by
  have HR0 := Aside0.mk hr0
  have HC0 := Aside0.mk hc0
  clear hr0 hc0
  have HB := Aside0.mk (Below.refl w.heap.size w)
  have H : (if a2 = 1 then (garderoberef02_GetRow.j0 k l0 a1 a2 false) else (garderoberef02_GetRow.j0 k l0 a1 a2 (a2 != 2))) = some (r1, r2, r3) := h
  clear h
  have HC4 := Aside0.mk H
  clear H
  go_enter Try.func54, Try.ntmps54
  go_upto_region 1 with (fail)
  go_cut [18] (fun v18 wc => ∃ (kq : Nat) (x18_3 : Bool), v18 = .bool x18_3 ∧ Aside0 (garderoberef02_GetRow.j0 kq l0 a1 a2 x18_3 = some (r1, r2, r3)) ∧ Aside0 (kq ≤ k) ∧ Aside0 (Below w.heap.size w wc))
  case first =>
    have H := HC4.out
    clear HC4
    by_cases c5 : a2 = 1
    · rw [if_pos c5] at H
      have c5b0 : (a2 == 1) = true := beq_iff_eq.mpr c5
      have c5b1 : (a2 != 1) = false := bne_eq_false_iff_eq.mpr c5
      clear c5
      (first | rw [c5b0] | (simp only [i64_w, i32_w]; rw [c5b0]) | skip)
      have H' := Aside0.mk H
      clear H
      go_wp2
      go_meet
      case rel => exact ⟨_, (false), zs, H', ⟨by first | omega | exact Nat.le_refl _⟩, ⟨zb⟩⟩
    · rw [if_neg c5] at H
      have c5b0 : (a2 == 1) = false := beq_eq_false_iff_ne.mpr c5
      have c5b1 : (a2 != 1) = true := bne_iff_ne.mpr c5
      (first | rw [c5b0] | (simp only [i64_w, i32_w]; rw [c5b0]) | skip)
      have H' := Aside0.mk H
      clear H
      go_wp2
      go_meet
      case rel => exact ⟨_, ((a2 != 2)), zs, H', ⟨by first | omega | exact Nat.le_refl _⟩, ⟨zb⟩⟩
  case rest =>
    clear HC4
    try clear p2
    try clear c5
    try clear c5b0
    try clear c5b1
    obtain ⟨kq, x18_3, rfl, HA, HJ3, HB⟩ := hcut
    cases kq with
    | zero => exact absurd HA.out (by simp [garderoberef02_GetRow.j0])
    | succ kj3 =>
      have H := HA.out
      clear HA
      simp only [garderoberef02_GetRow.j0] at H
      by_cases c6 : x18_3 = true
      · subst c6
        have H1 : (some (([] : List Int), 0, 2)) = some (r1, r2, r3) := by rw [if_pos rfl] at H; exact H
        clear H
        have H := H1
        clear H1
        simp only [Option.some.injEq, Prod.mk.injEq] at H
        obtain ⟨rfl, rfl, rfl⟩ := H
        go_wp2
        go_ret3
        exact ⟨_, ze, by first | exact Kd.R_nil _ _ _ _ _ | exact Kd.N_nil _ _ _ _ _ | exact Kd.V_nil _ _ _ _ _ | exact Kd.Q_nil _ _ _ _ _ | exact Kd.S_nil _ _ _ _ _, zb⟩
      · replace c6 := Bool.eq_false_iff.mpr c6
        subst c6
        have H1 : ((garderoberef02_Get.f kj3 l0 a1 a2).bind fun bt339 => (if bt339.2 = 0 then ((garderoberef02_Part.f kj3 l0 (wrap64 (a1 + a2)) (wrap64 (bt339.1))).bind fun bt341 => (if bt341.2 = 0 then (some (bt341.1, wrap64 ((wrap64 (a1 + a2)) + (wrap64 (bt339.1))), 0)) else (some (([] : List Int), 0, bt341.2)))) else (some (([] : List Int), 0, bt339.2)))) = some (r1, r2, r3) := by rw [if_neg (show ¬ (false = true) by decide)] at H; exact H
        clear H
        have H := H1
        clear H1
        replace H := Option.bind_eq_some_iff.mp H
        obtain ⟨⟨t339, t340⟩, A70, H⟩ := H
        replace H : (if t340 = 0 then ((garderoberef02_Part.f kj3 l0 (wrap64 (a1 + a2)) (wrap64 (t339))).bind fun bt341 => (if bt341.2 = 0 then (some (bt341.1, wrap64 ((wrap64 (a1 + a2)) + (wrap64 (t339))), 0)) else (some (([] : List Int), 0, bt341.2)))) else (some (([] : List Int), 0, t340))) = some (r1, r2, r3) := H
        have A7 := Aside0.mk A70
        clear A70
        by_cases c8 : t340 = 0
        · rw [if_pos c8] at H
          have c8b0 : (t340 == 0) = true := beq_iff_eq.mpr c8
          have c8b1 : (t340 != 0) = false := bne_eq_false_iff_eq.mpr c8
          clear c8
          replace H := Option.bind_eq_some_iff.mp H
          obtain ⟨⟨t341, t342⟩, A90, H⟩ := H
          replace H : (if t342 = 0 then (some (t341, wrap64 ((wrap64 (a1 + a2)) + (wrap64 (t339))), 0)) else (some (([] : List Int), 0, t342))) = some (r1, r2, r3) := H
          have A9 := Aside0.mk A90
          clear A90
          by_cases c10 : t342 = 0
          · rw [if_pos c10] at H
            have c10b0 : (t342 == 0) = true := beq_iff_eq.mpr c10
            have c10b1 : (t342 != 0) = false := bne_eq_false_iff_eq.mpr c10
            clear c10
            simp only [Option.some.injEq, Prod.mk.injEq] at H
            obtain ⟨rfl, rfl, rfl⟩ := H
            go_wp2_with (first | ((with_reducible refine gate_callee (f := 52) rfl ?_); refine goesL_ (some 23) rfl rfl Try.func52 (by kernel_rfl) rfl #[.slice A0 l0.length c0, .int .i64 a1, .int .i64 a2] rfl zargs ?_; (with_reducible refine (garderoberef02_Get.calls kj3 _ _ l0 a1 a2 t339 t340 _ ?side1 ?side2 A7.out).mono ?_); (case side1 => exact zc (Kd.C_below HR0.out HB.out)); (case side2 => exact HC0.out); rintro e w' ⟨rfl, ⟨nd, rfl⟩⟩; refine ⟨_, rfl, ?_⟩) | ((with_reducible refine gate_callee (f := 73) rfl ?_); refine goesL_ (some 36) rfl rfl Try.func73 (by kernel_rfl) rfl #[.slice A0 l0.length c0, .int .i64 (wrap64 (a1 + a2)), .int .i64 (wrap64 (t339))] rfl zargs ?_; (with_reducible refine (garderoberef02_Part.calls kj3 _ _ l0 (wrap64 (a1 + a2)) (wrap64 (t339)) t341 t342 _ ?side1 ?side2 A9.out).mono ?_); (case side1 => repeat (first | exact (Kd.C_below HR0.out (zb)) | (with_reducible refine Kd.C_alloc ?_ _) | (with_reducible refine Kd.C_drewN ?_ _) | (with_reducible refine Kd.C_drew ?_))); (case side2 => exact HC0.out); rintro e w11 ⟨v343, rfl, ho0, hb⟩; refine ⟨_, rfl, ?_⟩; have n0_ := Aside0.mk (Kd.R_lower ho0 (below_size (zb))); have n1_ := Aside0.mk (below_step (zb) hb); clear HB; have HO344 := n0_; have HB := n1_; clear n0_ n1_; (try clear hb); (try clear hb2); (try clear hk); (try clear hi); (try clear ho0)))
            go_ret3
            exact ⟨_, ze, by (with_reducible repeat (first | apply Kd.R_alloc | apply Kd.R_drewN | apply Kd.R_drew)); exact HO344.out, zb⟩
          · rw [if_neg c10] at H
            have c10b0 : (t342 == 0) = false := beq_eq_false_iff_ne.mpr c10
            have c10b1 : (t342 != 0) = true := bne_iff_ne.mpr c10
            simp only [Option.some.injEq, Prod.mk.injEq] at H
            obtain ⟨rfl, rfl, rfl⟩ := H
            go_wp2_with (first | ((with_reducible refine gate_callee (f := 52) rfl ?_); refine goesL_ (some 23) rfl rfl Try.func52 (by kernel_rfl) rfl #[.slice A0 l0.length c0, .int .i64 a1, .int .i64 a2] rfl zargs ?_; (with_reducible refine (garderoberef02_Get.calls kj3 _ _ l0 a1 a2 t339 t340 _ ?side1 ?side2 A7.out).mono ?_); (case side1 => exact zc (Kd.C_below HR0.out HB.out)); (case side2 => exact HC0.out); rintro e w' ⟨rfl, ⟨nd, rfl⟩⟩; refine ⟨_, rfl, ?_⟩) | ((with_reducible refine gate_callee (f := 73) rfl ?_); refine goesL_ (some 36) rfl rfl Try.func73 (by kernel_rfl) rfl #[.slice A0 l0.length c0, .int .i64 (wrap64 (a1 + a2)), .int .i64 (wrap64 (t339))] rfl zargs ?_; (with_reducible refine (garderoberef02_Part.calls kj3 _ _ l0 (wrap64 (a1 + a2)) (wrap64 (t339)) t341 t342 _ ?side1 ?side2 A9.out).mono ?_); (case side1 => repeat (first | exact (Kd.C_below HR0.out (zb)) | (with_reducible refine Kd.C_alloc ?_ _) | (with_reducible refine Kd.C_drewN ?_ _) | (with_reducible refine Kd.C_drew ?_))); (case side2 => exact HC0.out); rintro e w12 ⟨v343, rfl, ho0, hb⟩; refine ⟨_, rfl, ?_⟩; have n0_ := Aside0.mk (Kd.R_lower ho0 (below_size (zb))); have n1_ := Aside0.mk (below_step (zb) hb); clear HB; have HO344 := n0_; have HB := n1_; clear n0_ n1_; (try clear hb); (try clear hb2); (try clear hk); (try clear hi); (try clear ho0)))
            go_ret3
            exact ⟨_, ze, by first | exact Kd.R_nil _ _ _ _ _ | exact Kd.N_nil _ _ _ _ _ | exact Kd.V_nil _ _ _ _ _ | exact Kd.Q_nil _ _ _ _ _ | exact Kd.S_nil _ _ _ _ _, zb⟩
        · rw [if_neg c8] at H
          have c8b0 : (t340 == 0) = false := beq_eq_false_iff_ne.mpr c8
          have c8b1 : (t340 != 0) = true := bne_iff_ne.mpr c8
          simp only [Option.some.injEq, Prod.mk.injEq] at H
          obtain ⟨rfl, rfl, rfl⟩ := H
          go_wp2_with (first | ((with_reducible refine gate_callee (f := 52) rfl ?_); refine goesL_ (some 23) rfl rfl Try.func52 (by kernel_rfl) rfl #[.slice A0 l0.length c0, .int .i64 a1, .int .i64 a2] rfl zargs ?_; (with_reducible refine (garderoberef02_Get.calls kj3 _ _ l0 a1 a2 t339 t340 _ ?side1 ?side2 A7.out).mono ?_); (case side1 => exact zc (Kd.C_below HR0.out HB.out)); (case side2 => exact HC0.out); rintro e w' ⟨rfl, ⟨nd, rfl⟩⟩; refine ⟨_, rfl, ?_⟩))
          go_ret3
          exact ⟨_, ze, by first | exact Kd.R_nil _ _ _ _ _ | exact Kd.N_nil _ _ _ _ _ | exact Kd.V_nil _ _ _ _ _ | exact Kd.Q_nil _ _ _ _ _ | exact Kd.S_nil _ _ _ _ _, zb⟩
-- NOT PRINTED: function 24 (garderoberef08_taker_class)
/-- The document's taker: its block, and what it reads. -/
structure Tk (w0 : World) (b : List Int) (Ab : Option Addr) (cb : Nat) (w : World) (g : Nat) (at_ e : Int) : Prop where
  blk : w.heap[g]? = some (.cells #[.slice Ab b.length cb, .int .i64 at_, .int .i64 e] 62 (0, 0))
  cap : b.length ≤ cb
  base : w0.heap.size ≤ g
  src : Kd.C (Kd.int .u8) w0 Ab b.length b
  fr : Below w0.heap.size w0 w
section
variable {w0 : World} {b : List Int} {Ab : Option Addr} {cb g : Nat} {w w' : World} {at_ e : Int}
theorem Tk.lt (h : Tk w0 b Ab cb w g at_ e) : g < w.heap.size := blk_lt h.blk
theorem Tk.c0 (h : Tk w0 b Ab cb w g at_ e) : w.cell? ⟨g, 0, none⟩ = some (.slice Ab b.length cb) := (blk_cell h.blk 0).trans rfl
theorem Tk.c1 (h : Tk w0 b Ab cb w g at_ e) : w.cell? ⟨g, 1, none⟩ = some (.int .i64 at_) := (blk_cell h.blk 1).trans rfl
theorem Tk.c2 (h : Tk w0 b Ab cb w g at_ e) : w.cell? ⟨g, 2, none⟩ = some (.int .i64 e) := (blk_cell h.blk 2).trans rfl
theorem Tk.fz (h : Tk w0 b Ab cb w g at_ e) (i : Nat) : w.frozen? ⟨g, i, none⟩ = false := blk_frozen h.blk i
theorem Tk.now (h : Tk w0 b Ab cb w g at_ e) : Kd.C (Kd.int .u8) w Ab b.length b := Kd.C_below h.src h.fr
theorem Tk.move (h : Tk w0 b Ab cb w g at_ e) (hb : But g w w') (he : w'.heap[g]? = w.heap[g]?) : Tk w0 b Ab cb w' g at_ e := ⟨he.trans h.blk, h.cap, h.base, h.src, But.own h.fr h.base h.fr.size hb⟩
theorem Tk.below (h : Tk w0 b Ab cb w g at_ e) (hb : Below w.heap.size w w') : Tk w0 b Ab cb w' g at_ e := h.move (But.of_below hb) (hb.block g h.lt)
theorem Tk.drew (h : Tk w0 b Ab cb w g at_ e) : Tk w0 b Ab cb w.drew g at_ e := h.move (But.drew (But.refl _ _)) rfl
theorem Tk.drewN (h : Tk w0 b Ab cb w g at_ e) (n : Nat) : Tk w0 b Ab cb (w.drewN n) g at_ e := h.move (But.drewN (But.refl _ _) n) rfl
theorem Tk.alloc (h : Tk w0 b Ab cb w g at_ e) (o : Obj) : Tk w0 b Ab cb (w.alloc o) g at_ e := h.below (below_alloc (Below.refl _ _) o)
theorem Tk.set1 (h : Tk w0 b Ab cb w g at_ e) (x : Int) : Tk w0 b Ab cb (w.setCell ⟨g, 1, none⟩ (.int .i64 x)) g x e :=
  ⟨(blk_set h.blk 1 (.int .i64 x)).trans rfl, h.cap, h.base, h.src, below_set h.fr h.base⟩
theorem Tk.set2 (h : Tk w0 b Ab cb w g at_ e) (x : Int) : Tk w0 b Ab cb (w.setCell ⟨g, 2, none⟩ (.int .i64 x)) g at_ x :=
  ⟨(blk_set h.blk 2 (.int .i64 x)).trans rfl, h.cap, h.base, h.src, below_set h.fr h.base⟩
/-- .. a cell of another block of these calls is written. -/
theorem Tk.setNew (h : Tk w0 b Ab cb w g at_ e) {n : Nat} (hn : g ≠ n) (hb : w0.heap.size ≤ n) (i : Nat) (u : Value) : Tk w0 b Ab cb (w.setCell ⟨n, i, none⟩ u) g at_ e :=
  ⟨blk_far h.blk (p := ⟨n, i, none⟩) hn u, h.cap, h.base, h.src, below_set h.fr hb⟩
theorem Tk.step {n : Nat} (h : Tk w0 b Ab cb w g at_ e) (hg : g < n) (hb : Below n w w') : Tk w0 b Ab cb w' g at_ e :=
  ⟨(hb.block g hg).trans h.blk, h.cap, h.base, h.src, ⟨hb.os.trans h.fr.os, hb.tape.trans h.fr.tape, hb.output.trans h.fr.output, Nat.le_trans h.fr.size hb.size, fun k hk => (hb.block k (by have := h.base; omega)).trans (h.fr.block k hk)⟩⟩
end
/-- (*taker).number. -/
def numT (b : List Int) (size at_ e : Int) : Option (Int × Int × Int) := if e = 0 then (garderoberef02_Get.f 20 b at_ size).bind fun t => if 0 ≤ t.1 ∧ t.1 ≤ 4294967295 then some (t.1, wrap64 (at_ + size), t.2) else none else some (0, at_, e)
set_option maxHeartbeats 4000000 in
theorem numberT_ok (w0 : World) (b : List Int) (Ab : Option Addr) (cb g : Nat) (at_ e size r at' e' : Int) (w : World) (h : Tk w0 b Ab cb w g at_ e) (hn : numT b size at_ e = some (r, at', e')) :
    Calls Try.prog 23 #[.pointer (some ⟨g, 0, none⟩), .int .i64 size] w fun x w' => x = .returned (.int .i64 r) ∧ Tk w0 b Ab cb w' g at' e' ∧ But g w w' := by
  have HP := Aside0.mk h
  have HF := Aside0.mk (But.refl g w)
  clear h
  unfold numT at hn
  by_cases c : e = 0
  · rw [if_pos c] at hn
    subst c
    obtain ⟨⟨t1, t2⟩, hg, hn⟩ := Option.bind_eq_some_iff.mp hn
    replace hn : (if 0 ≤ t1 ∧ t1 ≤ 4294967295 then some (t1, wrap64 (at_ + size), t2) else none) = some (r, at', e') := hn
    by_cases c1 : 0 ≤ t1 ∧ t1 ≤ 4294967295
    rotate_left
    · rw [if_neg c1] at hn
      cases hn
    rw [if_pos c1] at hn
    simp only [Option.some.injEq, Prod.mk.injEq] at hn
    obtain ⟨rfl, ha_, rfl⟩ := hn
    have HG := Aside0.mk hg
    have HA_ := Aside0.mk ha_
    have hw : IntKind.i64.wrap t1 = t1 := by rw [i64_w]; unfold wrap64; omega
    clear hg ha_ c1
    have q2 := HP.out.c2
    go_enter Try.func23, Try.ntmps23
    go_upto_region 3 with (fail)
    clear q2
    go_cut [5, 6] from 7 (fun v5 v6 wc => v5 = .int .u32 t1 ∧ v6 = .int .i64 t2 ∧ Aside0 (Tk w0 b Ab cb wc g at_ 0) ∧ Aside0 (But g w wc))
    case first =>
      have HP0 := HP
      have HF0 := HF
      have q0 := HP.out.c0
      have q1 := HP.out.c1
      go_region_with (first | (go_at_call 52; (with_reducible refine (garderoberef02_Get.calls 20 Ab cb b at_ size t1 t2 _ ?s1 ?s2 HG.out).mono ?_); (case s1 => exact HP.out.drew.now); (case s2 => exact HP.out.cap); rintro e w1 ⟨rfl, nd, rfl⟩; have n0_ := Aside0.mk (HP.out.drew.drewN nd); have n1_ := Aside0.mk (HF.out.drew.drewN nd); clear HP HF q0 q1; have HP := n0_; have HF := n1_; clear n0_ n1_))
      all_goals ((try go_wp2); go_meet; case rel => exact ⟨rfl, rfl, ⟨by first | exact HP.out | exact HP0.out.drewN _⟩, ⟨by first | exact HF.out | exact HF0.out.drewN _⟩⟩)
    case rest =>
      clear HP HF
      obtain ⟨rfl, rfl, HP, HF⟩ := hcut
      have q2 := HP.out.c2
      have f2 := HP.out.fz 2
      go_upto_region 5 with (fail)
      obtain ⟨w5, hw5⟩ : ∃ W_ : World, W_ = wc.setCell ⟨g, 2, none⟩ (.int .i64 t2) := ⟨_, rfl⟩
      rw [← hw5]
      have n0_ := Aside0.mk (show Tk w0 b Ab cb w5 g at_ t2 by rw [hw5]; exact HP.out.set2 t2)
      have n1_ := Aside0.mk (show But g w w5 by rw [hw5]; exact HF.out.set 2 _)
      clear HP HF hw5 q2 f2
      have HP := n0_
      have HF := n1_
      clear n0_ n1_
      have q1 := HP.out.c1
      have f1 := HP.out.fz 1
      go_wp2
      go_ret
      exact ⟨by first | rfl | (rw [hw]; done) | (simp [hw]; done), by rw [← HA_.out]; exact HP.out.set1 _, HF.out.set 1 _⟩
  · rw [if_neg c] at hn
    simp only [Option.some.injEq, Prod.mk.injEq] at hn
    obtain ⟨rfl, rfl, rfl⟩ := hn
    have cb_ : (e != 0) = true := bne_iff_ne.mpr c
    have cc_ : (e == 0) = false := beq_eq_false_iff_ne.mpr c
    clear c
    have q2 := HP.out.c2
    go_enter Try.func23, Try.ntmps23
    go_wp2
    go_ret
    exact ⟨rfl, HP.out, HF.out⟩
def wordT (b : List Int) (at_ e : Int) : Option (Int × Int × Int) := (numT b 2 at_ e).bind fun t => some (IntKind.u16.wrap t.1, t.2.1, t.2.2)
def sigT (b : List Int) (at_ _e : Int) : Option (S66 × Int × Int) := (garderoberef04_GetSig.f 60 b at_).bind fun t => some ((⟨t.1, ⟨t.2.1, t.2.2.1⟩⟩ : S66), t.2.2.2.1, t.2.2.2.2)
def typT (b : List Int) (at_ _e : Int) : Option (S44 × Int × Int) := (garderoberef04_Get.f 20 b at_).bind fun t => some ((⟨t.1, t.2.1⟩ : S44), t.2.2.1, t.2.2.2)
def ifaceT (b : List Int) (at_ e : Int) : Option (S41 × Int × Int) := (wordT b at_ e).bind fun r => if r.2.2 = 0 then (garderoberef02_GetRow.f 20 b r.2.1 1).bind fun m => some ((⟨r.1, m.1⟩ : S41), m.2.1, m.2.2) else some ((⟨r.1, []⟩ : S41), r.2.1, r.2.2)
def manyT {α : Type} (next : Int → Int → Option (α × Int × Int)) (b : List Int) (most at_ e : Int) : Option (List α × Int × Int) := (numT b 1 at_ e).bind fun t => if 0 ≤ t.1 ∧ t.1 ≤ 255 then manyL next t.1.toNat [] t.2.1 (if t.2.2 = 0 ∧ t.1 > most then 3 else t.2.2) else none
def classT (b : List Int) (at_ e : Int) : Option (S38 × Int × Int) := (numT b 1 at_ e).bind fun f => if f.2.2 = 0 ∧ Int.tmod (f.1 % 256) 2 = 1 then ((manyT (sigT b) b 255 f.2.1 f.2.2).bind fun s => some ((⟨f.1 % 256, 65535, [], [], [], s.1⟩ : S38), s.2.1, s.2.2)) else ((wordT b f.2.1 f.2.2).bind fun s => (manyT (ifaceT b) b 16 s.2.1 s.2.2).bind fun i => (manyT (typT b) b 255 i.2.1 i.2.2).bind fun t => (manyT (wordT b) b 255 t.2.1 t.2.2).bind fun v => some ((⟨f.1 % 256, s.1, i.1, t.1, v.1, []⟩ : S38), v.2.1, v.2.2))
def nextT (may : S38 → Option Bool) (b : List Int) (at_ e : Int) : Option (S38 × Int × Int) := (classT b at_ e).bind fun c => if c.2.2 = 0 then (may c.1).bind fun m => some (c.1, c.2.1, if m = true then 0 else 5) else some c
def getT8 (may : S38 → Option Bool) (b : List Int) : Option (List S38 × Int) := (numT b 1 0 0).bind fun n => if n.2.2 = 0 ∧ n.1 > 64 then some ([], 3) else if 0 ≤ n.1 ∧ n.1 ≤ 255 then (manyL (nextT may b) n.1.toNat [] n.2.1 n.2.2).bind fun l => some (if l.2.2 = 0 then (if l.2.1 < (b.length : Int) then ([], 5) else (l.1, 0)) else ([], l.2.2)) else none
set_option maxHeartbeats 16000000 in
set_option maxRecDepth 100000 in
theorem classT_ok (w0 : World) (b : List Int) (Ab : Option Addr) (cb g : Nat) (at_ e : Int) (x : S38) (at' e' : Int) (w : World) (h : Tk w0 b Ab cb w g at_ e) (hn : classT b at_ e = some (x, at', e')) :
    Calls Try.prog 24 #[.pointer (some ⟨g, 0, none⟩)] w fun y w' => ∃ v2 v3 v4 v5 : Value, y = .returned (.agg #[.int .u8 x.f0, .int .u16 x.f1, v2, v3, v4, v5]) ∧ Kd.R k41 41 w' w.heap.size (fun _ => True) v2 x.f2 ∧ Kd.R k44 44 w' w.heap.size (fun _ => True) v3 x.f3 ∧ Kd.R (Kd.int .u16) 23 w' w.heap.size (fun _ => True) v4 x.f4 ∧ Kd.R k66 66 w' w.heap.size (fun _ => True) v5 x.f5 ∧ Tk w0 b Ab cb w' g at' e' ∧ But g w w' := by
  have HP := Aside0.mk h
  have HF := Aside0.mk (But.refl g w)
  clear h
  unfold classT at hn
  have hu38 := Try.underlying38
  have hu41 := Try.underlying41
  have hu44 := Try.underlying44
  have hu66 := Try.underlying66
  have hu33 := Try.underlying33
  have hu34 := Try.underlying34
  have hu35 := Try.underlying35
  have hu36 := Try.underlying36
  obtain ⟨⟨t1, at1, e1⟩, h1, hn⟩ := Option.bind_eq_some_iff.mp hn
  have H1 := Aside0.mk h1
  clear h1
  have HN := Aside0.mk hn
  clear hn
  go_enter Try.func24, Try.ntmps24
  go_upto_region 3 with (first | ((with_reducible refine gate_dst (N := 2) rfl ?_); refine zbox (N := 2) (cs := #[.int .u8 0, .int .u16 0, .slice none 0 0, .slice none 0 0, .slice none 0 0, .slice none 0 0]) (t := 38) ?_; intro n2 hg w1 hbox hb; have G2 := Aside0.mk (show w.heap.size ≤ n2 by rw [hg]; exact HF.out.size); have NG2 := Aside0.mk (show g ≠ n2 by rw [hg]; exact Nat.ne_of_lt HP.out.lt); have Z2 := Aside0.mk (show w0.heap.size ≤ n2 by rw [hg]; exact HP.out.fr.size); have LG2_ := Aside0.mk (show g < n2 by rw [hg]; exact HP.out.lt); have n0_ := Aside0.mk (HP.out.below hb); have n1_ := Aside0.mk (HF.out.below hb); have B2 := Aside0.mk hbox; clear HP HF hb hg hbox; have HP := n0_; have HF := n1_; clear n0_ n1_) | ((with_reducible refine gate_dst (N := 3) rfl ?_); refine zbox (N := 3) (cs := #[.int .u8 0, .int .u16 0, .slice none 0 0, .slice none 0 0, .slice none 0 0, .slice none 0 0]) (t := 38) ?_; intro n3 hg w2 hbox hb; have B2_ := B2; have o2_ := Aside0.mk (show n2 ≠ n3 by rw [hg]; exact Nat.ne_of_lt (blk_lt B2.out)); have nb2 := Aside0.mk (blk_below B2.out hb); clear B2; have B2 := nb2; clear nb2; have N23 := o2_; clear o2_; have P23 := Aside0.mk (show n2 < n3 by rw [hg]; exact blk_lt B2_.out); clear B2_; have G3 := Aside0.mk (show w.heap.size ≤ n3 by rw [hg]; exact HF.out.size); have NG3 := Aside0.mk (show g ≠ n3 by rw [hg]; exact Nat.ne_of_lt HP.out.lt); have Z3 := Aside0.mk (show w0.heap.size ≤ n3 by rw [hg]; exact HP.out.fr.size); have LG3_ := Aside0.mk (show g < n3 by rw [hg]; exact HP.out.lt); have n0_ := Aside0.mk (HP.out.below hb); have n1_ := Aside0.mk (HF.out.below hb); have B3 := Aside0.mk hbox; clear HP HF hb hg hbox; have HP := n0_; have HF := n1_; clear n0_ n1_; obtain ⟨q30, q31, q32, q33, q34, q35⟩ := cells6 B3.out; obtain ⟨f30, f31, f32, f33, f34, f35⟩ := froz6 B3.out) | (go_at_call 23; (with_reducible refine (numberT_ok w0 b Ab cb g at_ e 1 t1 at1 e1 _ ?s1 H1.out).mono ?_); (case s1 => first | exact HP.out | exact HP.out.drew | exact HP.out.drewN _); rintro y w3 ⟨rfl, hp, hf⟩; have n2b_ := Aside0.mk (blk_but B2.out NG2.out.symm hf); have n3b_ := Aside0.mk (blk_but B3.out NG3.out.symm hf); have n0_ := Aside0.mk hp; have n1_ := Aside0.mk (HF.out.trans hf); clear HP HF hp hf B2 B3 q30 f30 q31 f31 q32 f32 q33 f33 q34 f34 q35 f35; have HP := n0_; have HF := n1_; have B2 := n2b_; have B3 := n3b_; clear n0_ n1_ n2b_ n3b_; obtain ⟨q30, q31, q32, q33, q34, q35⟩ := cells6 B3.out; obtain ⟨f30, f31, f32, f33, f34, f35⟩ := froz6 B3.out))
  obtain ⟨w4, hw4⟩ : ∃ W_ : World, W_ = (w3.setCell ⟨n3, 0, none⟩ (.int .u8 (t1 % 256))) := ⟨_, rfl⟩
  rw [← hw4]
  have n0_ := Aside0.mk (show Tk w0 b Ab cb w4 g at1 e1 by rw [hw4]; repeat (with_reducible first | exact HP.out | refine Tk.setNew ?_ NG2.out Z2.out _ _ | refine Tk.setNew ?_ NG3.out Z3.out _ _ | refine Tk.setNew ?_ NG6.out Z6.out _ _ | refine Tk.alloc ?_ _ | refine Tk.drewN ?_ _ | refine Tk.drew ?_))
  have n1_ := Aside0.mk (show But g w w4 by rw [hw4]; repeat (with_reducible first | exact HF.out | refine But.set ?_ _ _ | refine But.setNew ?_ G2.out _ _ | refine But.setNew ?_ G3.out _ _ | refine But.setNew ?_ G6.out _ _ | refine But.alloc ?_ _ | refine But.drewN ?_ _ | refine But.drew ?_))
  have n2b_ := Aside0.mk (show w4.heap[n2]? = some (.cells #[.int .u8 0, .int .u16 0, .slice none 0 0, .slice none 0 0, .slice none 0 0, .slice none 0 0] 38 (0, 0)) by rw [hw4]; exact blk_far (p := ⟨n3, _, none⟩) B2.out N23.out _)
  have n3b_ := Aside0.mk (show w4.heap[n3]? = some (.cells #[.int .u8 (t1 % 256), .int .u16 0, .slice none 0 0, .slice none 0 0, .slice none 0 0, .slice none 0 0] 38 (0, 0)) by rw [hw4]; exact (blk_set B3.out 0 _).trans rfl)
  clear HP HF B2 B3 hw4
  try clear q30 f30 q31 f31 q32 f32 q33 f33 q34 f34 q35 f35
  have HP := n0_
  have HF := n1_
  have B2 := n2b_
  have B3 := n3b_
  clear n0_ n1_ n2b_ n3b_
  obtain ⟨B, hB⟩ : ∃ B_ : Nat, B_ = n3 + 1 := ⟨_, rfl⟩
  have HBn := Aside0.mk hB
  have LG := Aside0.mk (show g < B by have h_ := LG3_.out; omega)
  have L2 := Aside0.mk (show n2 < B by have h_ := P23.out; omega)
  have L3 := Aside0.mk (show n3 < B by omega)
  have LW := Aside0.mk (show w.heap.size ≤ B by have h_ := G3.out; omega)
  clear hB
  go_cut [32] from 20 to 33 (fun v32 wc => v32 = .bool (decide (e1 = 0 ∧ Int.tmod (t1 % 256) 2 = 1)) ∧ Aside0 (Tk w0 b Ab cb wc g at1 e1) ∧ Aside0 (But g w wc) ∧ Aside0 (wc.heap[n2]? = some (.cells #[.int .u8 0, .int .u16 0, .slice none 0 0, .slice none 0 0, .slice none 0 0, .slice none 0 0] 38 (0, 0))) ∧ Aside0 (wc.heap[n3]? = some (.cells #[.int .u8 (t1 % 256), .int .u16 0, .slice none 0 0, .slice none 0 0, .slice none 0 0, .slice none 0 0] 38 (0, 0))))
  case first =>
    have q2 := HP.out.c2
    obtain ⟨q30, q31, q32, q33, q34, q35⟩ := cells6 B3.out
    obtain ⟨f30, f31, f32, f33, f34, f35⟩ := froz6 B3.out
    by_cases c1 : e1 = 0
    · subst c1
      obtain ⟨m, hm⟩ : ∃ m_ : Bool, m_ = (Int.tmod (t1 % 256) 2 == 1) := ⟨_, rfl⟩
      have HM := Aside0.mk (show garderoberef08_IsIface.f (t1 % 256) 0 [] [] [] [] = some m by rw [hm]; rfl)
      have HMM := Aside0.mk hm
      clear hm
      cases m with
      | true =>
        go_wp2_with (first | (go_at_call 33; have hm_ := garderoberef08_IsIface.calls (t1 % 256) 0 none 0 [] none 0 [] none 0 [] none 0 [] true w4 (Kd.C_nil _ _) (Nat.le_refl 0) (Kd.C_nil _ _) (Nat.le_refl 0) (Kd.C_nil _ _) (Nat.le_refl 0) (Kd.C_nil _ _) (Nat.le_refl 0) HM.out; (try simp only [List.length_nil] at hm_); (with_reducible refine hm_.mono ?_); clear hm_; rintro y w5 ⟨rfl, hb⟩; have n0_ := Aside0.mk (HP.out.below hb); have n1_ := Aside0.mk (HF.out.below hb); have n2b_ := Aside0.mk (blk_below B2.out hb); have n3b_ := Aside0.mk (blk_below B3.out hb); clear HP HF B2 B3 hb q2 q30 f30 q31 f31 q32 f32 q33 f33 q34 f34 q35 f35; have HP := n0_; have HF := n1_; have B2 := n2b_; have B3 := n3b_; clear n0_ n1_ n2b_ n3b_))
        go_meet
        case rel => exact ⟨by (try (rename_i heq_; cases heq_)); have h_ := HMM.out; by_cases hc_ : Int.tmod (t1 % 256) 2 = 1 <;> simp [hc_] at h_ ⊢, HP, HF, B2, B3⟩
      | false =>
        go_wp2_with (first | (go_at_call 33; have hm_ := garderoberef08_IsIface.calls (t1 % 256) 0 none 0 [] none 0 [] none 0 [] none 0 [] false w4 (Kd.C_nil _ _) (Nat.le_refl 0) (Kd.C_nil _ _) (Nat.le_refl 0) (Kd.C_nil _ _) (Nat.le_refl 0) (Kd.C_nil _ _) (Nat.le_refl 0) HM.out; (try simp only [List.length_nil] at hm_); (with_reducible refine hm_.mono ?_); clear hm_; rintro y w5 ⟨rfl, hb⟩; have n0_ := Aside0.mk (HP.out.below hb); have n1_ := Aside0.mk (HF.out.below hb); have n2b_ := Aside0.mk (blk_below B2.out hb); have n3b_ := Aside0.mk (blk_below B3.out hb); clear HP HF B2 B3 hb q2 q30 f30 q31 f31 q32 f32 q33 f33 q34 f34 q35 f35; have HP := n0_; have HF := n1_; have B2 := n2b_; have B3 := n3b_; clear n0_ n1_ n2b_ n3b_))
        go_meet
        case rel => exact ⟨by (try (rename_i heq_; cases heq_)); have h_ := HMM.out; by_cases hc_ : Int.tmod (t1 % 256) 2 = 1 <;> simp [hc_] at h_ ⊢, HP, HF, B2, B3⟩
    · have d1a : (e1 == 0) = false := beq_eq_false_iff_ne.mpr c1
      have d1b : (e1 != 0) = true := bne_iff_ne.mpr c1
      go_wp2
      go_meet
      case rel => exact ⟨by simp [c1], HP, HF, B2, B3⟩
  case rest =>
    clear HP HF B2 B3
    obtain ⟨rfl, HP, HF, B2, B3⟩ := hcut
    have hn := HN.out
    clear HN
    by_cases cI : e1 = 0 ∧ Int.tmod (t1 % 256) 2 = 1
    · rw [if_pos cI] at hn
      have hd := decide_eq_true cI
      rw [hd]
      obtain ⟨rfl, -⟩ := cI
      clear hd
      obtain ⟨⟨ls, at3, e3⟩, h1, hn⟩ := Option.bind_eq_some_iff.mp hn
      simp only [Option.some.injEq, Prod.mk.injEq] at hn
      obtain ⟨rfl, rfl, rfl⟩ := hn
      unfold manyT at h1
      obtain ⟨⟨n, at2, e2⟩, h2, h1⟩ := Option.bind_eq_some_iff.mp h1
      have H2 := Aside0.mk h2
      replace h1 : (if 0 ≤ n ∧ n ≤ 255 then manyL (sigT b) n.toNat [] at2 (if e2 = 0 ∧ n > 255 then 3 else e2) else none) = some (ls, at3, e3) := h1
      by_cases cn : 0 ≤ n ∧ n ≤ 255
      rotate_left
      · rw [if_neg cn] at h1
        cases h1
      rw [if_pos cn, if_neg (fun h_ => absurd h_.2 (by omega))] at h1
      have HNn := Aside0.mk cn
      have HM := Aside0.mk h1
      clear h1 h2 cn
      obtain ⟨q30, q31, q32, q33, q34, q35⟩ := cells6 B3.out
      obtain ⟨f30, f31, f32, f33, f34, f35⟩ := froz6 B3.out
      go_upto_region 5 with (fail)
      obtain ⟨w5, hw5⟩ : ∃ W_ : World, W_ = (wc.setCell ⟨n3, 1, none⟩ (.int .u16 65535)) := ⟨_, rfl⟩
      rw [← hw5]
      have n0_ := Aside0.mk (show Tk w0 b Ab cb w5 g at1 0 by rw [hw5]; repeat (with_reducible first | exact HP.out | refine Tk.setNew ?_ NG2.out Z2.out _ _ | refine Tk.setNew ?_ NG3.out Z3.out _ _ | refine Tk.setNew ?_ NG6.out Z6.out _ _ | refine Tk.alloc ?_ _ | refine Tk.drewN ?_ _ | refine Tk.drew ?_))
      have n1_ := Aside0.mk (show But g w w5 by rw [hw5]; repeat (with_reducible first | exact HF.out | refine But.set ?_ _ _ | refine But.setNew ?_ G2.out _ _ | refine But.setNew ?_ G3.out _ _ | refine But.setNew ?_ G6.out _ _ | refine But.alloc ?_ _ | refine But.drewN ?_ _ | refine But.drew ?_))
      have n2b_ := Aside0.mk (show w5.heap[n2]? = some (.cells #[.int .u8 0, .int .u16 0, .slice none 0 0, .slice none 0 0, .slice none 0 0, .slice none 0 0] 38 (0, 0)) by rw [hw5]; exact blk_far (p := ⟨n3, _, none⟩) B2.out N23.out _)
      have n3b_ := Aside0.mk (show w5.heap[n3]? = some (.cells #[.int .u8 (t1 % 256), .int .u16 65535, .slice none 0 0, .slice none 0 0, .slice none 0 0, .slice none 0 0] 38 (0, 0)) by rw [hw5]; exact (blk_set B3.out 1 _).trans rfl)
      clear HP HF B2 B3 hw5
      try clear q30 f30 q31 f31 q32 f32 q33 f33 q34 f34 q35 f35
      have HP := n0_
      have HF := n1_
      have B2 := n2b_
      have B3 := n3b_
      clear n0_ n1_ n2b_ n3b_
      obtain ⟨q30, q31, q32, q33, q34, q35⟩ := cells6 B3.out
      obtain ⟨f30, f31, f32, f33, f34, f35⟩ := froz6 B3.out
      go_wp2_with (first | (go_at_call 23; (with_reducible refine (numberT_ok w0 b Ab cb g at1 0 1 n at2 e2 _ ?s1 H2.out).mono ?_); (case s1 => first | exact HP.out | exact HP.out.drew | exact HP.out.drewN _); rintro y w6 ⟨rfl, hp, hf⟩; have n2b_ := Aside0.mk (blk_but B2.out NG2.out.symm hf); have n3b_ := Aside0.mk (blk_but B3.out NG3.out.symm hf); have n0_ := Aside0.mk hp; have n1_ := Aside0.mk (HF.out.trans hf); clear HP HF hp hf B2 B3 q30 f30 q31 f31 q32 f32 q33 f33 q34 f34 q35 f35; have HP := n0_; have HF := n1_; have B2 := n2b_; have B3 := n3b_; clear n0_ n1_ n2b_ n3b_; obtain ⟨q30, q31, q32, q33, q34, q35⟩ := cells6 B3.out; obtain ⟨f30, f31, f32, f33, f34, f35⟩ := froz6 B3.out))
      clear q30 f30 q31 f31 q32 f32 q33 f33 q34 f34 q35 f35
      go_loopg [5] n.toNat (fun kq v w' => ∃ (acc : List S66) (x a_ e_ : Int) (Ao : Option Addr) (co : Nat), v = .int .i64 x ∧ Aside0 (0 ≤ x ∧ (kq : Int) + x = n ∧ acc.length + kq ≤ 255) ∧ Aside0 (manyL (sigT b) kq acc a_ e_ = some (ls, at3, e3)) ∧ Aside0 (Kd.R k66 66 w' B (fun _ => True) (.slice Ao acc.length co) acc) ∧ Aside0 (Tk w0 b Ab cb w' g a_ e_) ∧ Aside0 (But g w w') ∧ Aside0 (w'.heap[n2]? = some (.cells #[.int .u8 0, .int .u16 0, .slice none 0 0, .slice none 0 0, .slice none 0 0, .slice none 0 0] 38 (0, 0))) ∧ Aside0 (w'.heap[n3]? = some (.cells #[.int .u8 (t1 % 256), .int .u16 65535, .slice none 0 0, .slice none 0 0, .slice none 0 0, .slice Ao acc.length co] 38 (0, 0))))
      case atStart => exact ⟨[], 0, at2, e2, none, 0, rfl, ⟨by have := HNn.out; simp; omega⟩, HM, ⟨Kd.R_nil _ _ _ _ _⟩, ⟨HP.out⟩, ⟨HF.out⟩, B2, B3⟩
      case round =>
        clear HP HF B2 B3 HM
        obtain ⟨acc, x, a_, e_, Ao, co, rfl, HI, HA, HO, HP, HF, B2, B3⟩ := hrel
        have q2 := HP.out.c2
        cases gk with
        | zero =>
          have d2 : decide (x < n) = false := decide_eq_false (by have := HI.out; omega)
          have hA := HA.out
          unfold manyL at hA
          simp only [Option.some.injEq, Prod.mk.injEq] at hA
          obtain ⟨rfl, rfl, rfl⟩ := hA
          clear HA
          obtain ⟨q20, q21, q22, q23, q24, q25⟩ := cells6 B2.out
          obtain ⟨f20, f21, f22, f23, f24, f25⟩ := froz6 B2.out
          obtain ⟨q30, q31, q32, q33, q34, q35⟩ := cells6 B3.out
          obtain ⟨f30, f31, f32, f33, f34, f35⟩ := froz6 B3.out
          go_wp2
          (try simp only [Exit.inBlock, Exit.then])
          refine bodyPost_ret (results_single rfl (.cell n2 38 #[.int .u8 (t1 % 256), .int .u16 65535, .slice none 0 0, .slice none 0 0, .slice none 0 0, .slice Ao acc.length co] (0, 0) _ rfl ((blk_set (blk_set (blk_set (blk_set (blk_set (blk_set B2.out 0 _) 1 _) 2 _) 3 _) 4 _) 5 _).trans rfl) Try.underlying38 rfl (by kernel_rfl) .nil)) rfl ?_
          exact ⟨_, _, _, _, rfl, Kd.R_nil _ _ _ _ _, Kd.R_nil _ _ _ _ _, Kd.R_nil _ _ _ _ _, Kd.R_lower (by repeat (with_reducible first | exact HO.out | refine R_setold ?_ L2.out _ _)) LW.out, by repeat (with_reducible first | exact HP.out | refine Tk.setNew ?_ NG2.out Z2.out _ _ | refine Tk.setNew ?_ NG3.out Z3.out _ _ | refine Tk.setNew ?_ NG6.out Z6.out _ _ | refine Tk.alloc ?_ _ | refine Tk.drewN ?_ _ | refine Tk.drew ?_), by repeat (with_reducible first | exact HF.out | refine But.set ?_ _ _ | refine But.setNew ?_ G2.out _ _ | refine But.setNew ?_ G3.out _ _ | refine But.setNew ?_ G6.out _ _ | refine But.alloc ?_ _ | refine But.drewN ?_ _ | refine But.drew ?_)⟩
        | succ k1 =>
          have d2 : decide (x < n) = true := decide_eq_true (by have := HI.out; omega)
          have hA := HA.out
          unfold manyL at hA
          clear HA
          by_cases c3 : e_ = 0
          rotate_left
          · rw [if_neg c3] at hA
            simp only [Option.some.injEq, Prod.mk.injEq] at hA
            obtain ⟨rfl, rfl, rfl⟩ := hA
            have d3a : (e_ == 0) = false := beq_eq_false_iff_ne.mpr c3
            have d3b : (e_ != 0) = true := bne_iff_ne.mpr c3
            clear c3
            obtain ⟨q20, q21, q22, q23, q24, q25⟩ := cells6 B2.out
            obtain ⟨f20, f21, f22, f23, f24, f25⟩ := froz6 B2.out
            obtain ⟨q30, q31, q32, q33, q34, q35⟩ := cells6 B3.out
            obtain ⟨f30, f31, f32, f33, f34, f35⟩ := froz6 B3.out
            go_wp2
            (try simp only [Exit.inBlock, Exit.then])
            refine bodyPost_ret (results_single rfl (.cell n2 38 #[.int .u8 (t1 % 256), .int .u16 65535, .slice none 0 0, .slice none 0 0, .slice none 0 0, .slice Ao acc.length co] (0, 0) _ rfl ((blk_set (blk_set (blk_set (blk_set (blk_set (blk_set B2.out 0 _) 1 _) 2 _) 3 _) 4 _) 5 _).trans rfl) Try.underlying38 rfl (by kernel_rfl) .nil)) rfl ?_
            exact ⟨_, _, _, _, rfl, Kd.R_nil _ _ _ _ _, Kd.R_nil _ _ _ _ _, Kd.R_nil _ _ _ _ _, Kd.R_lower (by repeat (with_reducible first | exact HO.out | refine R_setold ?_ L2.out _ _)) LW.out, by repeat (with_reducible first | exact HP.out | refine Tk.setNew ?_ NG2.out Z2.out _ _ | refine Tk.setNew ?_ NG3.out Z3.out _ _ | refine Tk.setNew ?_ NG6.out Z6.out _ _ | refine Tk.alloc ?_ _ | refine Tk.drewN ?_ _ | refine Tk.drew ?_), by repeat (with_reducible first | exact HF.out | refine But.set ?_ _ _ | refine But.setNew ?_ G2.out _ _ | refine But.setNew ?_ G3.out _ _ | refine But.setNew ?_ G6.out _ _ | refine But.alloc ?_ _ | refine But.drewN ?_ _ | refine But.drew ?_)⟩
          rw [if_pos c3] at hA
          subst c3
          obtain ⟨⟨x_, a2, f2_⟩, h2, hA⟩ := Option.bind_eq_some_iff.mp hA
          have H2 := Aside0.mk h2
          have HA := Aside0.mk hA
          clear h2 hA
          have hw : wrap64 (x + 1) = x + 1 := by have := HI.out; have := HNn.out; unfold wrap64; omega
          have HW := Aside0.mk hw
          clear hw
          have h2 := H2.out
          unfold sigT at h2
          obtain ⟨⟨r1, r2, r3, r4, r5⟩, hg, h2⟩ := Option.bind_eq_some_iff.mp h2
          simp only [Option.some.injEq, Prod.mk.injEq] at h2
          obtain ⟨hx_, rfl, rfl⟩ := h2
          have HG := Aside0.mk hg
          have HX := Aside0.mk hx_
          clear hg hx_ H2
          obtain ⟨B1, hB1⟩ : ∃ B_ : Nat, B_ = wr.heap.size := ⟨_, rfl⟩
          have LT8 := Aside0.mk (show ∀ k, (Value.slice Ao acc.length co).ownBlock = some k → k < B1 by rw [hB1]; exact Kd.R_lt HO.out)
          have LG1 := Aside0.mk (show g < B1 by rw [hB1]; exact HP.out.lt)
          have L21 := Aside0.mk (show n2 < B1 by rw [hB1]; exact blk_lt B2.out)
          have L31 := Aside0.mk (show n3 < B1 by rw [hB1]; exact blk_lt B3.out)
          have LB1 := Aside0.mk (show B ≤ B1 by rw [hB1, HBn.out]; exact blk_lt B3.out)
          go_upto_region 9 with (fail)
          clear q2
          go_cut [6, 7, 8] from 36 to 74 (fun v6 v7 v8 wc => ∃ (n6 : Nat) (A6 : Option Addr) (c6 : Nat), v6 = .pointer (some ⟨n6, 0, none⟩) ∧ v7 = .int .i64 r4 ∧ v8 = .int .i64 r5 ∧ Aside0 (B1 ≤ n6) ∧ Aside0 (wc.heap[n6]? = some (.cells #[.slice A6 r1.length c6, .int .u8 r2, .int .u16 r3] 66 (0, 0))) ∧ Aside0 (Kd.R k44 44 wc B1 (fun _ => True) (.slice A6 r1.length c6) r1) ∧ Aside0 (Tk w0 b Ab cb wc g a_ 0) ∧ Aside0 (But g w wc) ∧ Aside0 (wc.heap[n2]? = some (.cells #[.int .u8 0, .int .u16 0, .slice none 0 0, .slice none 0 0, .slice none 0 0, .slice none 0 0] 38 (0, 0))) ∧ Aside0 (wc.heap[n3]? = some (.cells #[.int .u8 (t1 % 256), .int .u16 65535, .slice none 0 0, .slice none 0 0, .slice none 0 0, .slice Ao acc.length co] 38 (0, 0))) ∧ Aside0 (Kd.R k66 66 wc B (fun _ => True) (.slice Ao acc.length co) acc))
          case first =>
            have q0 := HP.out.c0
            have q1 := HP.out.c1
            have G6 := Aside0.mk (show w.heap.size ≤ wr.heap.size from HF.out.size)
            have NG6 := Aside0.mk (show g ≠ wr.heap.size from Nat.ne_of_lt HP.out.lt)
            have Z6 := Aside0.mk (show w0.heap.size ≤ wr.heap.size from HP.out.fr.size)
            have N26 := Aside0.mk (show n2 ≠ wr.heap.size from Nat.ne_of_lt (blk_lt B2.out))
            have N36 := Aside0.mk (show n3 ≠ wr.heap.size from Nat.ne_of_lt (blk_lt B3.out))
            have hgl : g < wr.heap.size := HP.out.lt
            have hgn : g ≠ wr.heap.size := NG6.out
            have hgm : wr.heap.size ≠ g := NG6.out.symm
            go_region_held3 (fun w' => w'.cell? ⟨g, 0, none⟩ = some (.slice Ab b.length cb) ∧ w'.cell? ⟨g, 1, none⟩ = some (.int .i64 a_)) (first | with_reducible exact ⟨HP.out.drew.c0, HP.out.drew.c1⟩ | with_reducible exact ⟨HP.out.c0, HP.out.c1⟩ | with_reducible exact ⟨(HP.out.alloc _).drew.c0, (HP.out.alloc _).drew.c1⟩ | with_reducible exact ⟨(HP.out.alloc _).c0, (HP.out.alloc _).c1⟩ | with_reducible exact ⟨(((HP.out.setNew NG6.out Z6.out _ _).setNew NG6.out Z6.out _ _).setNew NG6.out Z6.out _ _).c0, (((HP.out.setNew NG6.out Z6.out _ _).setNew NG6.out Z6.out _ _).setNew NG6.out Z6.out _ _).c1⟩ | with_reducible exact ⟨(HP.out.below (below_set (below_set (below_set (below_alloc (Below.refl _ w1) _) (Nat.le_refl _)) (Nat.le_refl _)) (Nat.le_refl _))).c0, (HP.out.below (below_set (below_set (below_set (below_alloc (Below.refl _ w1) _) (Nat.le_refl _)) (Nat.le_refl _)) (Nat.le_refl _))).c1⟩ | fail) (first | (go_at_call 53; (with_reducible refine (garderoberef04_GetSig.calls 60 Ab cb b a_ r1 r2 r3 r4 r5 _ ?s1 ?s2 HG.out).mono ?_); (case s1 => with_reducible exact (HP.out.alloc _).drew.now); (case s2 => exact HP.out.cap); rintro e w1 ⟨v, rfl, ho, hb⟩; obtain ⟨A6, c6, e6⟩ := Kd.R_slice ho; subst e6; have HR6 := Aside0.mk (Kd.R_lower (base' := wr.heap.size + 1) ho (blk_lt (blk_drew (blk_new wr (.cells #[.slice none 0 0, .int .u8 0, .int .u16 0] 66 (0, 0)))))); clear ho; have n2b_ := Aside0.mk (blk_below (blk_drew (blk_alloc B2.out _)) hb); have n3b_ := Aside0.mk (blk_below (blk_drew (blk_alloc B3.out _)) hb); have mHO_ := Aside0.mk (Kd.R_below (Kd.R_drew (Kd.R_alloc (Kd.R_mono (Kd.R_bound HO.out) (fun k hk => hk.2.2.1)) _)) hb); have n0_ := Aside0.mk ((HP.out.alloc _).drew.below hb); have n1_ := Aside0.mk ((HF.out.alloc _).drew.below hb); have B6 := Aside0.mk (show w1.heap[wr.heap.size]? = some (.cells #[.slice none 0 0, .int .u8 0, .int .u16 0] 66 (0, 0)) from blk_below (blk_drew (blk_new wr (.cells #[.slice none 0 0, .int .u8 0, .int .u16 0] 66 (0, 0)))) hb); clear HP HF q0 q1 B2 B3 HO; have HP := n0_; have HF := n1_; have B2 := n2b_; have B3 := n3b_; have HO := mHO_; clear mHO_; clear n0_ n1_ n2b_ n3b_; obtain ⟨q60, q61, q62, f60, f61, f62⟩ := cf3 B6.out) | (go_at_call 53; (with_reducible refine (garderoberef04_GetSig.calls 60 Ab cb b a_ r1 r2 r3 r4 r5 _ ?s1 ?s2 HG.out).mono ?_); (case s1 => with_reducible exact HP.out.drew.now); (case s2 => exact HP.out.cap); rintro e w1 ⟨v, rfl, ho, hb⟩; obtain ⟨A6, c6, e6⟩ := Kd.R_slice ho; subst e6; have HR6 := Aside0.mk ho; clear ho; have n2b_ := Aside0.mk (blk_below (blk_drew B2.out) hb); have n3b_ := Aside0.mk (blk_below (blk_drew B3.out) hb); have mHO_ := Aside0.mk (Kd.R_below (Kd.R_drew HO.out) hb); have n0_ := Aside0.mk (HP.out.drew.below hb); have n1_ := Aside0.mk (HF.out.drew.below hb); have LN := Aside0.mk (show wr.heap.size ≤ w1.heap.size from hb.size); clear HP HF q0 q1 B2 B3 HO; have HP := n0_; have HF := n1_; have B2 := n2b_; have B3 := n3b_; have HO := mHO_; clear mHO_; clear n0_ n1_ n2b_ n3b_))
            all_goals ((try go_wp2); go_meet; case rel => first | exact ⟨wr.heap.size, A6, c6, rfl, rfl, rfl, ⟨Nat.le_of_eq hB1⟩, ⟨(blk_set (blk_set (blk_set B6.out 0 _) 1 _) 2 _).trans rfl⟩, ⟨Kd.R_lower (R_setold (R_setold (R_setold HR6.out (Nat.lt_succ_self _) _ _) (Nat.lt_succ_self _) _ _) (Nat.lt_succ_self _) _ _) (Nat.le_trans (Nat.le_of_eq hB1) (Nat.le_succ _))⟩, ⟨by repeat (with_reducible first | exact HP.out | refine Tk.setNew ?_ NG2.out Z2.out _ _ | refine Tk.setNew ?_ NG3.out Z3.out _ _ | refine Tk.setNew ?_ NG6.out Z6.out _ _ | refine Tk.alloc ?_ _ | refine Tk.drewN ?_ _ | refine Tk.drew ?_)⟩, ⟨by repeat (with_reducible first | exact HF.out | refine But.set ?_ _ _ | refine But.setNew ?_ G2.out _ _ | refine But.setNew ?_ G3.out _ _ | refine But.setNew ?_ G6.out _ _ | refine But.alloc ?_ _ | refine But.drewN ?_ _ | refine But.drew ?_)⟩, ⟨(blk_far (p := ⟨wr.heap.size, 2, none⟩) (blk_far (p := ⟨wr.heap.size, 1, none⟩) (blk_far (p := ⟨wr.heap.size, 0, none⟩) B2.out N26.out _) N26.out _) N26.out _)⟩, ⟨(blk_far (p := ⟨wr.heap.size, 2, none⟩) (blk_far (p := ⟨wr.heap.size, 1, none⟩) (blk_far (p := ⟨wr.heap.size, 0, none⟩) B3.out N36.out _) N36.out _) N36.out _)⟩, ⟨Kd.R_mono (Kd.R_far (p := ⟨wr.heap.size, 2, none⟩) (Kd.R_far (p := ⟨wr.heap.size, 1, none⟩) (Kd.R_far (p := ⟨wr.heap.size, 0, none⟩) HO.out (fun k hk => Nat.ne_of_lt hk) _) (fun k hk => Nat.ne_of_lt hk) _) (fun k hk => Nat.ne_of_lt hk) _) (fun _ _ => trivial)⟩⟩ | exact ⟨w1.heap.size, A6, c6, rfl, rfl, rfl, ⟨Nat.le_trans (Nat.le_of_eq hB1) LN.out⟩, ⟨(blk_new _ _).trans rfl⟩, ⟨Kd.R_lower (Kd.R_below HR6.out (below_alloc (Below.refl _ w1) _)) (Nat.le_of_eq hB1)⟩, ⟨HP.out.below (below_alloc (Below.refl _ w1) _)⟩, ⟨HF.out.below (below_alloc (Below.refl _ w1) _)⟩, ⟨blk_below B2.out (below_alloc (Below.refl _ w1) _)⟩, ⟨blk_below B3.out (below_alloc (Below.refl _ w1) _)⟩, ⟨Kd.R_below HO.out (below_alloc (Below.refl _ w1) _)⟩⟩)
          case rest =>
            clear HP HF B2 B3 HO
            obtain ⟨n6, A6, c6, rfl, rfl, rfl, L6, B6, HR6, HP, HF, B2, B3, HO⟩ := hcut
            have NG6 := Aside0.mk (show g ≠ n6 by have h1_ := LG1.out; have h2_ := L6.out; omega)
            have q1 := HP.out.c1
            have f1 := HP.out.fz 1
            go_upto_region 11 with (fail)
            obtain ⟨w10, hw10⟩ : ∃ W_ : World, W_ = (wc.setCell ⟨g, 1, none⟩ (.int .i64 r4)) := ⟨_, rfl⟩
            rw [← hw10]
            have n0_ := Aside0.mk (show Tk w0 b Ab cb w10 g r4 0 by rw [hw10]; exact HP.out.set1 _)
            have n1_ := Aside0.mk (show But g w w10 by rw [hw10]; repeat (with_reducible first | exact HF.out | refine But.set ?_ _ _ | refine But.setNew ?_ G2.out _ _ | refine But.setNew ?_ G3.out _ _ | refine But.setNew ?_ G6.out _ _ | refine But.alloc ?_ _ | refine But.drewN ?_ _ | refine But.drew ?_))
            have n2b_ := Aside0.mk (show w10.heap[n2]? = some (.cells #[.int .u8 0, .int .u16 0, .slice none 0 0, .slice none 0 0, .slice none 0 0, .slice none 0 0] 38 (0, 0)) by rw [hw10]; exact blk_far (p := ⟨g, _, none⟩) B2.out NG2.out.symm _)
            have n3b_ := Aside0.mk (show w10.heap[n3]? = some (.cells #[.int .u8 (t1 % 256), .int .u16 65535, .slice none 0 0, .slice none 0 0, .slice none 0 0, .slice Ao acc.length co] 38 (0, 0)) by rw [hw10]; exact blk_far (p := ⟨g, _, none⟩) B3.out NG3.out.symm _)
            have mHO_ := Aside0.mk (show Kd.R k66 66 w10 B (fun _ => True) (.slice Ao acc.length co) acc by rw [hw10]; exact R_setold HO.out LG.out _ _)
            have mB6_ := Aside0.mk (show w10.heap[n6]? = some (.cells #[.slice A6 r1.length c6, .int .u8 r2, .int .u16 r3] 66 (0, 0)) by rw [hw10]; exact blk_far (p := ⟨g, _, none⟩) B6.out NG6.out.symm _)
            have mHR6_ := Aside0.mk (show Kd.R k44 44 w10 B1 (fun _ => True) (.slice A6 r1.length c6) r1 by rw [hw10]; exact R_setold HR6.out LG1.out _ _)
            clear HP HF B2 B3 hw10 HO B6 HR6
            try clear q30 f30 q31 f31 q32 f32 q33 f33 q34 f34 q35 f35
            have HP := n0_
            have HF := n1_
            have B2 := n2b_
            have B3 := n3b_
            have HO := mHO_
            have B6 := mB6_
            have HR6 := mHR6_
            clear n0_ n1_ n2b_ n3b_ mHO_ mB6_ mHR6_
            clear q1 f1
            have q2 := HP.out.c2
            have f2 := HP.out.fz 2
            go_upto_region 12 with (fail)
            obtain ⟨w11, hw11⟩ : ∃ W_ : World, W_ = (w10.setCell ⟨g, 2, none⟩ (.int .i64 r5)) := ⟨_, rfl⟩
            rw [← hw11]
            have n0_ := Aside0.mk (show Tk w0 b Ab cb w11 g r4 r5 by rw [hw11]; exact HP.out.set2 _)
            have n1_ := Aside0.mk (show But g w w11 by rw [hw11]; repeat (with_reducible first | exact HF.out | refine But.set ?_ _ _ | refine But.setNew ?_ G2.out _ _ | refine But.setNew ?_ G3.out _ _ | refine But.setNew ?_ G6.out _ _ | refine But.alloc ?_ _ | refine But.drewN ?_ _ | refine But.drew ?_))
            have n2b_ := Aside0.mk (show w11.heap[n2]? = some (.cells #[.int .u8 0, .int .u16 0, .slice none 0 0, .slice none 0 0, .slice none 0 0, .slice none 0 0] 38 (0, 0)) by rw [hw11]; exact blk_far (p := ⟨g, _, none⟩) B2.out NG2.out.symm _)
            have n3b_ := Aside0.mk (show w11.heap[n3]? = some (.cells #[.int .u8 (t1 % 256), .int .u16 65535, .slice none 0 0, .slice none 0 0, .slice none 0 0, .slice Ao acc.length co] 38 (0, 0)) by rw [hw11]; exact blk_far (p := ⟨g, _, none⟩) B3.out NG3.out.symm _)
            have mHO_ := Aside0.mk (show Kd.R k66 66 w11 B (fun _ => True) (.slice Ao acc.length co) acc by rw [hw11]; exact R_setold HO.out LG.out _ _)
            have mB6_ := Aside0.mk (show w11.heap[n6]? = some (.cells #[.slice A6 r1.length c6, .int .u8 r2, .int .u16 r3] 66 (0, 0)) by rw [hw11]; exact blk_far (p := ⟨g, _, none⟩) B6.out NG6.out.symm _)
            have mHR6_ := Aside0.mk (show Kd.R k44 44 w11 B1 (fun _ => True) (.slice A6 r1.length c6) r1 by rw [hw11]; exact R_setold HR6.out LG1.out _ _)
            clear HP HF B2 B3 hw11 HO B6 HR6
            try clear q30 f30 q31 f31 q32 f32 q33 f33 q34 f34 q35 f35
            have HP := n0_
            have HF := n1_
            have B2 := n2b_
            have B3 := n3b_
            have HO := mHO_
            have B6 := mB6_
            have HR6 := mHR6_
            clear n0_ n1_ n2b_ n3b_ mHO_ mB6_ mHR6_
            clear q2 f2
            obtain ⟨q30, q31, q32, q33, q34, q35⟩ := cells6 B3.out
            obtain ⟨f30, f31, f32, f33, f34, f35⟩ := froz6 B3.out
            obtain ⟨q60, q61, q62, -, -, -⟩ := cf3 B6.out
            have LBX := Aside0.mk (show B ≤ w11.heap.size by rw [HBn.out]; exact blk_lt B3.out)
            have hx_ := HX.out
            subst hx_
            go_wp2_with (first | ((with_reducible refine gate_builtin (b := .append) (xs := #[.tmp 70, .tmp 72]) rfl ?_); at_builtin; refine Kd.R_append k66 (w0 := w11) B rfl (.tmp 70) (.tmp 72) 36 66 (.agg #[.slice none 0 0, .int .u8 0, .int .u16 0]) 32 rfl Try.underlying36 minfo66 rfl (by decide) (by omega) _ acc (⟨r1, ⟨r2, r3⟩⟩ : S66) [.slice A6 r1.length c6, .int .u8 r2, .int .u16 r3] (fun _ => True) (fun k => B1 ≤ k) rfl rfl ?aP ?aK (fun _ _ => trivial) ?aO ?aB ?aS ?aL ?_; (case aP => exact k66_mkM _ _ _ (⟨r1, ⟨r2, r3⟩⟩ : S66) (Kd.R_lower (Kd.R_mono (Kd.R_bound HR6.out) (fun k hk => hk.2.1)) LB1.out)); (case aK => exact fun k hk => ⟨trivial, fun h_ => absurd (LT8.out k h_.symm) (Nat.not_lt.mpr hk)⟩); (case aO => exact HO.out); (case aB => exact Below.refl _ _); (case aS => exact LBX.out); (case aL => have := HI.out; omega); intro v41 w41 ho hb hg hat; obtain ⟨An, cn, en⟩ := Kd.R_slice ho; subst en; have n0_ := Aside0.mk ho; have n1_ := Aside0.mk (HP.out.step LG.out hb); have n2_ := Aside0.mk (HF.out.step LW.out hb); have n3_ := Aside0.mk ((hb.block _ L2.out).trans B2.out); have n4_ := Aside0.mk ((hb.block _ L3.out).trans B3.out); clear HO HP HF B2 B3 q30 f30 q31 f31 q32 f32 q33 f33 q34 f34 q35 f35; have HO := n0_; have HP := n1_; have HF := n2_; have B2 := n3_; have B3 := n4_; clear n0_ n1_ n2_ n3_ n4_ ho hb hg hat; obtain ⟨q30, q31, q32, q33, q34, q35⟩ := cells6 B3.out; obtain ⟨f30, f31, f32, f33, f34, f35⟩ := froz6 B3.out))
            go_roundg k1
            case measure => omega
            case rel => exact ⟨acc ++ [(⟨r1, ⟨r2, r3⟩⟩ : S66)], x + 1, r4, r5, An, cn, by rw [HW.out], ⟨by have := HI.out; simp only [List.length_append, List.length_cons, List.length_nil]; omega⟩, HA, ⟨R_setold HO.out L3.out _ _⟩, ⟨HP.out.setNew NG3.out Z3.out _ _⟩, ⟨HF.out.setNew G3.out _ _⟩, ⟨blk_far (p := ⟨n3, _, none⟩) B2.out N23.out _⟩, ⟨by rw [List.length_append, List.length_singleton]; exact (blk_set B3.out 5 _).trans rfl⟩⟩
    · skip
      rw [if_neg cI] at hn
      have hd := decide_eq_false cI
      rw [hd]
      clear hd cI
      obtain ⟨⟨s1, at2, e2⟩, hs, hn⟩ := Option.bind_eq_some_iff.mp hn
      obtain ⟨⟨ls, at4, e4⟩, hi, hn⟩ := Option.bind_eq_some_iff.mp hn
      obtain ⟨⟨lt, at6, e6⟩, ht, hn⟩ := Option.bind_eq_some_iff.mp hn
      obtain ⟨⟨lv, at8, e8⟩, hv, hn⟩ := Option.bind_eq_some_iff.mp hn
      simp only [Option.some.injEq, Prod.mk.injEq] at hn
      obtain ⟨rfl, rfl, rfl⟩ := hn
      unfold wordT at hs
      obtain ⟨⟨s0, aw_, ew_⟩, hs2, hx_⟩ := Option.bind_eq_some_iff.mp hs
      clear hs
      simp only [Option.some.injEq, Prod.mk.injEq] at hx_
      obtain ⟨rfl, rfl, rfl⟩ := hx_
      have HS := Aside0.mk hs2
      clear hs2
      unfold manyT at hi
      obtain ⟨⟨nI, at3, e3⟩, h2, h1⟩ := Option.bind_eq_some_iff.mp hi
      have H2nI := Aside0.mk h2
      replace h1 : (if 0 ≤ nI ∧ nI ≤ 255 then manyL (ifaceT b) nI.toNat [] at3 (if e3 = 0 ∧ nI > 16 then 3 else e3) else none) = some (ls, at4, e4) := h1
      by_cases cn : 0 ≤ nI ∧ nI ≤ 255
      rotate_left
      · rw [if_neg cn] at h1
        cases h1
      rw [if_pos cn] at h1
      obtain ⟨E, hE⟩ : ∃ E_ : Int, E_ = (if e3 = 0 ∧ nI > 16 then 3 else e3) := ⟨_, rfl⟩
      rw [← hE] at h1
      have HE := Aside0.mk hE
      clear hE
      have HNnI := Aside0.mk cn
      have HMnI := Aside0.mk h1
      clear h1 h2 cn hi
      unfold manyT at ht
      obtain ⟨⟨nF, at5, e5⟩, h2, h1⟩ := Option.bind_eq_some_iff.mp ht
      have H2nF := Aside0.mk h2
      replace h1 : (if 0 ≤ nF ∧ nF ≤ 255 then manyL (typT b) nF.toNat [] at5 (if e5 = 0 ∧ nF > 255 then 3 else e5) else none) = some (lt, at6, e6) := h1
      by_cases cn : 0 ≤ nF ∧ nF ≤ 255
      rotate_left
      · rw [if_neg cn] at h1
        cases h1
      rw [if_pos cn, if_neg (fun h_ => absurd h_.2 (by omega))] at h1
      have HNnF := Aside0.mk cn
      have HMnF := Aside0.mk h1
      clear h1 h2 cn ht
      unfold manyT at hv
      obtain ⟨⟨nV, at7, e7⟩, h2, h1⟩ := Option.bind_eq_some_iff.mp hv
      have H2nV := Aside0.mk h2
      replace h1 : (if 0 ≤ nV ∧ nV ≤ 255 then manyL (wordT b) nV.toNat [] at7 (if e7 = 0 ∧ nV > 255 then 3 else e7) else none) = some (lv, at8, e8) := h1
      by_cases cn : 0 ≤ nV ∧ nV ≤ 255
      rotate_left
      · rw [if_neg cn] at h1
        cases h1
      rw [if_pos cn, if_neg (fun h_ => absurd h_.2 (by omega))] at h1
      have HNnV := Aside0.mk cn
      have HMnV := Aside0.mk h1
      clear h1 h2 cn hv
      obtain ⟨q30, q31, q32, q33, q34, q35⟩ := cells6 B3.out
      obtain ⟨f30, f31, f32, f33, f34, f35⟩ := froz6 B3.out
      go_upto_region 15 with (first | (go_at_call 23; (with_reducible refine (numberT_ok w0 b Ab cb g at1 e1 2 s0 aw_ ew_ _ ?s1 HS.out).mono ?_); (case s1 => first | exact HP.out | exact HP.out.drew | exact HP.out.drewN _); rintro y w4_ ⟨rfl, hp, hf⟩; have n2b_ := Aside0.mk (blk_but B2.out NG2.out.symm hf); have n3b_ := Aside0.mk (blk_but B3.out NG3.out.symm hf); have n0_ := Aside0.mk hp; have n1_ := Aside0.mk (HF.out.trans hf); clear HP HF hp hf B2 B3 q30 f30 q31 f31 q32 f32 q33 f33 q34 f34 q35 f35; have HP := n0_; have HF := n1_; have B2 := n2b_; have B3 := n3b_; clear n0_ n1_ n2b_ n3b_; obtain ⟨q30, q31, q32, q33, q34, q35⟩ := cells6 B3.out; obtain ⟨f30, f31, f32, f33, f34, f35⟩ := froz6 B3.out))
      obtain ⟨w5, hw5⟩ : ∃ W_ : World, W_ = (w4_.setCell ⟨n3, 1, none⟩ (.int .u16 (IntKind.u16.wrap s0))) := ⟨_, rfl⟩
      rw [← hw5]
      have n0_ := Aside0.mk (show Tk w0 b Ab cb w5 g aw_ ew_ by rw [hw5]; repeat (with_reducible first | exact HP.out | refine Tk.setNew ?_ NG2.out Z2.out _ _ | refine Tk.setNew ?_ NG3.out Z3.out _ _ | refine Tk.setNew ?_ NG6.out Z6.out _ _ | refine Tk.alloc ?_ _ | refine Tk.drewN ?_ _ | refine Tk.drew ?_))
      have n1_ := Aside0.mk (show But g w w5 by rw [hw5]; repeat (with_reducible first | exact HF.out | refine But.set ?_ _ _ | refine But.setNew ?_ G2.out _ _ | refine But.setNew ?_ G3.out _ _ | refine But.setNew ?_ G6.out _ _ | refine But.alloc ?_ _ | refine But.drewN ?_ _ | refine But.drew ?_))
      have n2b_ := Aside0.mk (show w5.heap[n2]? = some (.cells #[.int .u8 0, .int .u16 0, .slice none 0 0, .slice none 0 0, .slice none 0 0, .slice none 0 0] 38 (0, 0)) by rw [hw5]; exact blk_far (p := ⟨n3, _, none⟩) B2.out N23.out _)
      have n3b_ := Aside0.mk (show w5.heap[n3]? = some (.cells #[.int .u8 (t1 % 256), .int .u16 (IntKind.u16.wrap s0), .slice none 0 0, .slice none 0 0, .slice none 0 0, .slice none 0 0] 38 (0, 0)) by rw [hw5]; exact (blk_set B3.out 1 _).trans rfl)
      clear HP HF B2 B3 hw5
      try clear q30 f30 q31 f31 q32 f32 q33 f33 q34 f34 q35 f35
      have HP := n0_
      have HF := n1_
      have B2 := n2b_
      have B3 := n3b_
      clear n0_ n1_ n2b_ n3b_
      obtain ⟨q30, q31, q32, q33, q34, q35⟩ := cells6 B3.out
      obtain ⟨f30, f31, f32, f33, f34, f35⟩ := froz6 B3.out
      go_upto_region 16 with (first | (go_at_call 23; (with_reducible refine (numberT_ok w0 b Ab cb g aw_ ew_ 1 nI at3 e3 _ ?s1 H2nI.out).mono ?_); (case s1 => first | exact HP.out | exact HP.out.drew | exact HP.out.drewN _); rintro y w6 ⟨rfl, hp, hf⟩; have n2b_ := Aside0.mk (blk_but B2.out NG2.out.symm hf); have n3b_ := Aside0.mk (blk_but B3.out NG3.out.symm hf); have n0_ := Aside0.mk hp; have n1_ := Aside0.mk (HF.out.trans hf); clear HP HF hp hf B2 B3 q30 f30 q31 f31 q32 f32 q33 f33 q34 f34 q35 f35; have HP := n0_; have HF := n1_; have B2 := n2b_; have B3 := n3b_; clear n0_ n1_ n2b_ n3b_; obtain ⟨q30, q31, q32, q33, q34, q35⟩ := cells6 B3.out; obtain ⟨f30, f31, f32, f33, f34, f35⟩ := froz6 B3.out))
      clear q30 f30 q31 f31 q32 f32 q33 f33 q34 f34 q35 f35
      go_cut [90] from 82 to 91 (fun v90 wc => v90 = .bool (decide (e3 = 0 ∧ nI > 16)) ∧ Aside0 (Tk w0 b Ab cb wc g at3 e3) ∧ Aside0 (But g w wc) ∧ Aside0 (wc.heap[n2]? = some (.cells #[.int .u8 0, .int .u16 0, .slice none 0 0, .slice none 0 0, .slice none 0 0, .slice none 0 0] 38 (0, 0))) ∧ Aside0 (wc.heap[n3]? = some (.cells #[.int .u8 (t1 % 256), .int .u16 (IntKind.u16.wrap s0), .slice none 0 0, .slice none 0 0, .slice none 0 0, .slice none 0 0] 38 (0, 0))))
      case first =>
        have q2 := HP.out.c2
        by_cases c2 : e3 = 0
        · subst c2
          by_cases c3 : nI > 16
          · have c3b : decide (16 < nI) = true := decide_eq_true c3
            go_wp2
            go_meet
            case rel => exact ⟨by simp [c3], HP, HF, B2, B3⟩
          · have c3b : decide (16 < nI) = false := decide_eq_false c3
            go_wp2
            go_meet
            case rel => exact ⟨by simp [c3], HP, HF, B2, B3⟩
        · have c3a : (e3 == 0) = false := beq_eq_false_iff_ne.mpr c2
          have c3b : (e3 != 0) = true := bne_iff_ne.mpr c2
          go_wp2
          go_meet
          case rel => exact ⟨by simp [c2], HP, HF, B2, B3⟩
      case rest =>
        clear HP HF B2 B3
        obtain ⟨rfl, HP, HF, B2, B3⟩ := hcut
        go_upto_if 90 with (fail)
        go_cut [90] from 91 to 94 (fun v90 wc => Aside0 (Tk w0 b Ab cb wc g at3 E) ∧ Aside0 (But g w wc) ∧ Aside0 (wc.heap[n2]? = some (.cells #[.int .u8 0, .int .u16 0, .slice none 0 0, .slice none 0 0, .slice none 0 0, .slice none 0 0] 38 (0, 0))) ∧ Aside0 (wc.heap[n3]? = some (.cells #[.int .u8 (t1 % 256), .int .u16 (IntKind.u16.wrap s0), .slice none 0 0, .slice none 0 0, .slice none 0 0, .slice none 0 0] 38 (0, 0))))
        case first =>
          have q2 := HP.out.c2
          have f2 := HP.out.fz 2
          have hE := HE.out
          by_cases c2 : e3 = 0 ∧ nI > 16
          · rw [if_pos c2] at hE
            subst hE
            have c2b := decide_eq_true c2
            rw [c2b]
            clear c2
            go_wp2
            go_meet
            case rel => exact ⟨⟨HP.out.set2 3⟩, ⟨HF.out.set _ _⟩, ⟨blk_far (p := ⟨g, 2, none⟩) B2.out NG2.out.symm _⟩, ⟨blk_far (p := ⟨g, 2, none⟩) B3.out NG3.out.symm _⟩⟩
          · rw [if_neg c2] at hE
            subst hE
            have c2b := decide_eq_false c2
            rw [c2b]
            clear c2
            go_wp2
            go_meet
            case rel => exact ⟨HP, HF, B2, B3⟩
        case rest =>
          clear HP HF B2 B3 HE
          obtain ⟨HP, HF, B2, B3⟩ := hcut
          go_upto_block 2 with (fail)
          go_cut [10, 11, 12, 13, 14] from 94 to 143 (fun v10 v11 v12 v13 v14 wc => ∃ (Ao2 : Option Addr) (co2 : Nat), Aside0 (Kd.R k41 41 wc B (fun _ => True) (.slice Ao2 ls.length co2) ls) ∧ Aside0 (Tk w0 b Ab cb wc g at4 e4) ∧ Aside0 (But g w wc) ∧ Aside0 (wc.heap[n2]? = some (.cells #[.int .u8 0, .int .u16 0, .slice none 0 0, .slice none 0 0, .slice none 0 0, .slice none 0 0] 38 (0, 0))) ∧ Aside0 (wc.heap[n3]? = some (.cells #[.int .u8 (t1 % 256), .int .u16 (IntKind.u16.wrap s0), .slice Ao2 ls.length co2, .slice none 0 0, .slice none 0 0, .slice none 0 0] 38 (0, 0))))
          case first =>
            go_wp2
            go_loopg [10] nI.toNat (fun kq v w' => ∃ (acc2 : List S41) (x a_ e_ : Int) (Ao2 : Option Addr) (co2 : Nat), v = .int .i64 x ∧ Aside0 (0 ≤ x ∧ (kq : Int) + x = nI ∧ acc2.length + kq ≤ 255) ∧ Aside0 (manyL (ifaceT b) kq acc2 a_ e_ = some (ls, at4, e4)) ∧ Aside0 (Kd.R k41 41 w' B (fun _ => True) (.slice Ao2 acc2.length co2) acc2) ∧ Aside0 (Tk w0 b Ab cb w' g a_ e_) ∧ Aside0 (But g w w') ∧ Aside0 (w'.heap[n2]? = some (.cells #[.int .u8 0, .int .u16 0, .slice none 0 0, .slice none 0 0, .slice none 0 0, .slice none 0 0] 38 (0, 0))) ∧ Aside0 (w'.heap[n3]? = some (.cells #[.int .u8 (t1 % 256), .int .u16 (IntKind.u16.wrap s0), .slice Ao2 acc2.length co2, .slice none 0 0, .slice none 0 0, .slice none 0 0] 38 (0, 0))))
            case atStart => exact ⟨[], 0, at3, E, none, 0, rfl, ⟨by have := HNnI.out; simp; omega⟩, HMnI, ⟨Kd.R_nil _ _ _ _ _⟩, ⟨HP.out⟩, ⟨HF.out⟩, B2, B3⟩
            case round =>
              clear HP HF B2 B3 HMnI
              obtain ⟨acc2, x, a_, e_, Ao2, co2, rfl, HI, HA, HO2, HP, HF, B2, B3⟩ := hrel
              have q2 := HP.out.c2
              cases gk with
              | zero =>
                have d2 : decide (x < nI) = false := decide_eq_false (by have := HI.out; omega)
                have hA := HA.out
                unfold manyL at hA
                simp only [Option.some.injEq, Prod.mk.injEq] at hA
                obtain ⟨rfl, rfl, rfl⟩ := hA
                clear HA
                go_wp2
                go_meet
                case rel => exact ⟨Ao2, co2, HO2, HP, HF, B2, B3⟩
              | succ k1 =>
                have d2 : decide (x < nI) = true := decide_eq_true (by have := HI.out; omega)
                have hA := HA.out
                unfold manyL at hA
                clear HA
                by_cases c3 : e_ = 0
                rotate_left
                · rw [if_neg c3] at hA
                  simp only [Option.some.injEq, Prod.mk.injEq] at hA
                  obtain ⟨rfl, rfl, rfl⟩ := hA
                  have d3a : (e_ == 0) = false := beq_eq_false_iff_ne.mpr c3
                  have d3b : (e_ != 0) = true := bne_iff_ne.mpr c3
                  clear c3
                  go_wp2
                  go_meet
                  case rel => exact ⟨Ao2, co2, HO2, HP, HF, B2, B3⟩
                rw [if_pos c3] at hA
                subst c3
                obtain ⟨⟨x_, a2, f2_⟩, h2, hA⟩ := Option.bind_eq_some_iff.mp hA
                have H2 := Aside0.mk h2
                have HA := Aside0.mk hA
                clear h2 hA
                have hw : wrap64 (x + 1) = x + 1 := by have := HI.out; have := HNnI.out; unfold wrap64; omega
                have HW := Aside0.mk hw
                clear hw
                have h2 := H2.out
                unfold ifaceT wordT at h2
                obtain ⟨⟨rw_, aw_, ew_⟩, hw2, h3⟩ := Option.bind_eq_some_iff.mp h2
                clear h2
                obtain ⟨⟨r0, a3, e3⟩, hg, hw3⟩ := Option.bind_eq_some_iff.mp hw2
                clear hw2
                simp only [Option.some.injEq, Prod.mk.injEq] at hw3
                obtain ⟨rfl, rfl, rfl⟩ := hw3
                have h2 : (if e3 = 0 then (garderoberef02_GetRow.f 20 b a3 1).bind fun m => some ((⟨IntKind.u16.wrap r0, m.1⟩ : S41), m.2.1, m.2.2) else some ((⟨IntKind.u16.wrap r0, []⟩ : S41), a3, e3)) = some (x_, a2, f2_) := h3
                have HG := Aside0.mk hg
                have HX2 := Aside0.mk h2
                clear hg h2 h3 H2
                obtain ⟨B1, hB1⟩ : ∃ B_ : Nat, B_ = wr.heap.size := ⟨_, rfl⟩
                have LT8 := Aside0.mk (show ∀ k, (Value.slice Ao2 acc2.length co2).ownBlock = some k → k < B1 by rw [hB1]; exact Kd.R_lt HO2.out)
                have LG1 := Aside0.mk (show g < B1 by rw [hB1]; exact HP.out.lt)
                have L21 := Aside0.mk (show n2 < B1 by rw [hB1]; exact blk_lt B2.out)
                have L31 := Aside0.mk (show n3 < B1 by rw [hB1]; exact blk_lt B3.out)
                have LB1 := Aside0.mk (show B ≤ B1 by rw [hB1, HBn.out]; exact blk_lt B3.out)
                have hbx : wr.heap.size ≤ wr.heap.size := Nat.le_refl _
                clear hbx
                obtain ⟨q30, q31, q32, q33, q34, q35⟩ := cells6 B3.out
                obtain ⟨f30, f31, f32, f33, f34, f35⟩ := froz6 B3.out
                go_upto_region 22 with (first | (go_at_call 23; (with_reducible refine (numberT_ok w0 b Ab cb g a_ 0 2 r0 a3 e3 _ ?s1 HG.out).mono ?_); (case s1 => first | exact HP.out | exact HP.out.drew | exact HP.out.drewN _); rintro y w8 ⟨rfl, hp, hf⟩; have n2b_ := Aside0.mk (blk_but B2.out NG2.out.symm hf); have n3b_ := Aside0.mk (blk_but B3.out NG3.out.symm hf); have mHO2_ := Aside0.mk (R_but HO2.out LG.out hf); have n0_ := Aside0.mk hp; have n1_ := Aside0.mk (HF.out.trans hf); have LB8 := Aside0.mk (show B1 ≤ w8.heap.size by rw [hB1]; exact hf.size); clear HP HF hp hf B2 B3 q30 f30 q31 f31 q32 f32 q33 f33 q34 f34 q35 f35 HO2; have HP := n0_; have HF := n1_; have B2 := n2b_; have B3 := n3b_; have HO2 := mHO2_; clear n0_ n1_ n2b_ n3b_ mHO2_; obtain ⟨q30, q31, q32, q33, q34, q35⟩ := cells6 B3.out; obtain ⟨f30, f31, f32, f33, f34, f35⟩ := froz6 B3.out) | ((with_reducible refine gate_dst (N := 11) rfl ?_); refine zbox (N := 11) (cs := #[.int .u16 0, .slice none 0 0]) (t := 41) ?_; intro n6 hg w9 hbox hb; have B2_ := B2; have o2_ := Aside0.mk (show n2 ≠ n6 by rw [hg]; exact Nat.ne_of_lt (blk_lt B2.out)); have nb2 := Aside0.mk (blk_below B2.out hb); clear B2; have B2 := nb2; clear nb2; have N26 := o2_; clear o2_; have P26 := Aside0.mk (show n2 < n6 by rw [hg]; exact blk_lt B2_.out); clear B2_; have B3_ := B3; have o3_ := Aside0.mk (show n3 ≠ n6 by rw [hg]; exact Nat.ne_of_lt (blk_lt B3.out)); have nb3 := Aside0.mk (blk_below B3.out hb); clear B3; have B3 := nb3; clear nb3; have N36 := o3_; clear o3_; have P36 := Aside0.mk (show n3 < n6 by rw [hg]; exact blk_lt B3_.out); clear B3_; have G6 := Aside0.mk (show w.heap.size ≤ n6 by rw [hg]; exact HF.out.size); have NG6 := Aside0.mk (show g ≠ n6 by rw [hg]; exact Nat.ne_of_lt HP.out.lt); have Z6 := Aside0.mk (show w0.heap.size ≤ n6 by rw [hg]; exact HP.out.fr.size); have LG6_ := Aside0.mk (show g < n6 by rw [hg]; exact HP.out.lt); have n0_ := Aside0.mk (HP.out.below hb); have n1_ := Aside0.mk (HF.out.below hb); have B6 := Aside0.mk hbox; have LB6 := Aside0.mk (show B1 ≤ n6 by rw [hg]; exact LB8.out); have mHO2_ := Aside0.mk (show Kd.R k41 41 w9 B (fun k => k < n6) (.slice Ao2 acc2.length co2) acc2 by rw [hg]; exact Kd.R_below (Kd.R_mono (Kd.R_bound HO2.out) (fun k hk => hk.2.2.1)) hb); clear HP HF hb hg hbox HO2 q30 f30 q31 f31 q32 f32 q33 f33 q34 f34 q35 f35; have HP := n0_; have HF := n1_; clear n0_ n1_; have HO2 := mHO2_; clear mHO2_; obtain ⟨q60, q61, f60, f61⟩ := cf2 B6.out))
                obtain ⟨w10, hw10⟩ : ∃ W_ : World, W_ = ((w9.setCell ⟨n6, 0, none⟩ (.int .u16 (IntKind.u16.wrap r0))).setCell ⟨n6, 1, none⟩ (.slice none 0 0)) := ⟨_, rfl⟩
                rw [← hw10]
                have n0_ := Aside0.mk (show Tk w0 b Ab cb w10 g a3 e3 by rw [hw10]; exact (HP.out.setNew NG6.out Z6.out _ _).setNew NG6.out Z6.out _ _)
                have n1_ := Aside0.mk (show But g w w10 by rw [hw10]; exact (HF.out.setNew G6.out _ _).setNew G6.out _ _)
                have n2b_ := Aside0.mk (show w10.heap[n2]? = some (.cells #[.int .u8 0, .int .u16 0, .slice none 0 0, .slice none 0 0, .slice none 0 0, .slice none 0 0] 38 (0, 0)) by rw [hw10]; exact blk_far (p := ⟨n6, 1, none⟩) (blk_far (p := ⟨n6, 0, none⟩) B2.out N26.out _) N26.out _)
                have n3b_ := Aside0.mk (show w10.heap[n3]? = some (.cells #[.int .u8 (t1 % 256), .int .u16 (IntKind.u16.wrap s0), .slice Ao2 acc2.length co2, .slice none 0 0, .slice none 0 0, .slice none 0 0] 38 (0, 0)) by rw [hw10]; exact blk_far (p := ⟨n6, 1, none⟩) (blk_far (p := ⟨n6, 0, none⟩) B3.out N36.out _) N36.out _)
                have n6b_ := Aside0.mk (show w10.heap[n6]? = some (.cells #[.int .u16 (IntKind.u16.wrap r0), .slice none 0 0] 41 (0, 0)) by rw [hw10]; exact (blk_set (blk_set B6.out 0 _) 1 _).trans rfl)
                have mHO2_ := Aside0.mk (show Kd.R k41 41 w10 B (fun k => k < n6) (.slice Ao2 acc2.length co2) acc2 by rw [hw10]; exact Kd.R_far (p := ⟨n6, 1, none⟩) (Kd.R_far (p := ⟨n6, 0, none⟩) HO2.out (fun k hk => Nat.ne_of_lt hk) _) (fun k hk => Nat.ne_of_lt hk) _)
                clear HP HF B2 B3 B6 hw10 q60 q61 f60 f61 HO2
                try clear q30 f30 q31 f31 q32 f32 q33 f33 q34 f34 q35 f35
                have HP := n0_
                have HF := n1_
                have B2 := n2b_
                have B3 := n3b_
                have B6 := n6b_
                have HO2 := mHO2_
                clear n0_ n1_ n2b_ n3b_ n6b_ mHO2_
                have q2 := HP.out.c2
                have h2 := HX2.out
                clear HX2
                by_cases c4 : e3 = 0
                rotate_left
                · rw [if_neg c4] at h2
                  simp only [Option.some.injEq, Prod.mk.injEq] at h2
                  obtain ⟨hx_, rfl, rfl⟩ := h2
                  subst hx_
                  have d4a : (e3 == 0) = false := beq_eq_false_iff_ne.mpr c4
                  have d4b : (e3 != 0) = true := bne_iff_ne.mpr c4
                  clear c4
                  have mHO2_ := Aside0.mk (show Kd.R k41 41 w10 B (fun _ => True) (.slice Ao2 acc2.length co2) acc2 from Kd.R_mono HO2.out (fun _ _ => trivial))
                  clear HO2
                  have HO2 := mHO2_
                  clear mHO2_
                  obtain ⟨q30, q31, q32, q33, q34, q35⟩ := cells6 B3.out
                  obtain ⟨f30, f31, f32, f33, f34, f35⟩ := froz6 B3.out
                  obtain ⟨q60, q61, -, -⟩ := cf2 B6.out
                  have LBX := Aside0.mk (show B ≤ w10.heap.size by rw [HBn.out]; exact blk_lt B3.out)
                  go_wp2_with (first | ((with_reducible refine gate_builtin (b := .append) (xs := #[.tmp 139, .tmp 141]) rfl ?_); at_builtin; refine Kd.R_append k41 (w0 := w10) B rfl (.tmp 139) (.tmp 141) 33 41 (.agg #[.int .u16 0, .slice none 0 0]) 32 rfl Try.underlying33 minfo41 rfl (by decide) (by omega) _ acc2 (⟨IntKind.u16.wrap r0, []⟩ : S41) [.int .u16 (IntKind.u16.wrap r0), .slice none 0 0] (fun _ => True) (fun k => B1 ≤ k) rfl rfl ?aP ?aK (fun _ _ => trivial) ?aO ?aB ?aS ?aL ?_; (case aP => exact k41_mkM _ _ _ (⟨IntKind.u16.wrap r0, []⟩ : S41) (Kd.R_nil _ _ _ _ _)); (case aK => exact fun k hk => ⟨trivial, fun h_ => absurd (LT8.out k h_.symm) (Nat.not_lt.mpr hk)⟩); (case aO => exact HO2.out); (case aB => exact Below.refl _ _); (case aS => exact LBX.out); (case aL => have := HI.out; omega); intro v41 w41 ho hb hg hat; obtain ⟨An, cn, en⟩ := Kd.R_slice ho; subst en; have n0_ := Aside0.mk ho; have n1_ := Aside0.mk (HP.out.step LG.out hb); have n2_ := Aside0.mk (HF.out.step LW.out hb); have n3_ := Aside0.mk ((hb.block _ L2.out).trans B2.out); have n4_ := Aside0.mk ((hb.block _ L3.out).trans B3.out); clear HO2 HP HF B2 B3 q30 f30 q31 f31 q32 f32 q33 f33 q34 f34 q35 f35; have HO2 := n0_; have HP := n1_; have HF := n2_; have B2 := n3_; have B3 := n4_; clear n0_ n1_ n2_ n3_ n4_ ho hb hg hat; obtain ⟨q30, q31, q32, q33, q34, q35⟩ := cells6 B3.out; obtain ⟨f30, f31, f32, f33, f34, f35⟩ := froz6 B3.out))
                  go_roundg k1
                  case measure => omega
                  case rel => exact ⟨acc2 ++ [(⟨IntKind.u16.wrap r0, []⟩ : S41)], x + 1, a3, e3, An, cn, by rw [HW.out], ⟨by have := HI.out; simp only [List.length_append, List.length_cons, List.length_nil]; omega⟩, HA, ⟨R_setold HO2.out L3.out _ _⟩, ⟨HP.out.setNew NG3.out Z3.out _ _⟩, ⟨HF.out.setNew G3.out _ _⟩, ⟨blk_far (p := ⟨n3, _, none⟩) B2.out N23.out _⟩, ⟨by rw [List.length_append, List.length_singleton]; exact (blk_set B3.out 2 _).trans rfl⟩⟩
                rw [if_pos c4] at h2
                subst c4
                obtain ⟨⟨m1, a4, e4⟩, hgr, h2⟩ := Option.bind_eq_some_iff.mp h2
                simp only [Option.some.injEq, Prod.mk.injEq] at h2
                obtain ⟨hx_, rfl, rfl⟩ := h2
                subst hx_
                have HGR := Aside0.mk hgr
                clear hgr
                go_upto_region 23 with (fail)
                clear q2
                go_cut [12, 13, 14] from 94 to 143 (fun v12 v13 v14 wc => ∃ (A6 : Option Addr) (c6 : Nat), v12 = .slice A6 m1.length c6 ∧ v13 = .int .i64 a4 ∧ v14 = .int .i64 e4 ∧ Aside0 (Kd.R (Kd.int .u8) 5 wc B1 (fun k => n6 < k) (.slice A6 m1.length c6) m1) ∧ Aside0 (wc.heap[n6]? = some (.cells #[.int .u16 (IntKind.u16.wrap r0), .slice none 0 0] 41 (0, 0))) ∧ Aside0 (Tk w0 b Ab cb wc g a3 0) ∧ Aside0 (But g w wc) ∧ Aside0 (wc.heap[n2]? = some (.cells #[.int .u8 0, .int .u16 0, .slice none 0 0, .slice none 0 0, .slice none 0 0, .slice none 0 0] 38 (0, 0))) ∧ Aside0 (wc.heap[n3]? = some (.cells #[.int .u8 (t1 % 256), .int .u16 (IntKind.u16.wrap s0), .slice Ao2 acc2.length co2, .slice none 0 0, .slice none 0 0, .slice none 0 0] 38 (0, 0))) ∧ Aside0 (Kd.R k41 41 wc B (fun k => k < n6) (.slice Ao2 acc2.length co2) acc2))
                case first =>
                  have q0 := HP.out.c0
                  have q1 := HP.out.c1
                  have LN6 := Aside0.mk (blk_lt B6.out)
                  have LB1w := Aside0.mk (Nat.le_trans LB6.out (Nat.le_of_lt LN6.out))
                  go_region_held3 (fun w' => w'.cell? ⟨g, 0, none⟩ = some (.slice Ab b.length cb) ∧ w'.cell? ⟨g, 1, none⟩ = some (.int .i64 a3)) (first | with_reducible exact ⟨HP.out.drew.c0, HP.out.drew.c1⟩ | with_reducible exact ⟨HP.out.c0, HP.out.c1⟩ | fail) (first | (go_at_call 54; (with_reducible refine (garderoberef02_GetRow.calls 20 Ab cb b a3 1 m1 a4 e4 _ ?s1 ?s2 HGR.out).mono ?_); (case s1 => with_reducible exact HP.out.drew.now); (case s2 => exact HP.out.cap); rintro e w1 ⟨v, rfl, ho, hb⟩; obtain ⟨A6, c6, ea6⟩ := Kd.R_slice ho; subst ea6; have HR6 := Aside0.mk (Kd.R_lower (Kd.R_mono (Kd.R_bound ho) (fun k hk => Nat.lt_of_lt_of_le LN6.out hk.2.1)) LB1w.out); clear ho; have n2b_ := Aside0.mk (blk_below (blk_drew B2.out) hb); have n3b_ := Aside0.mk (blk_below (blk_drew B3.out) hb); have n6b_ := Aside0.mk (blk_below (blk_drew B6.out) hb); have mHO2_ := Aside0.mk (Kd.R_below (Kd.R_drew HO2.out) hb); have n0_ := Aside0.mk (HP.out.drew.below hb); have n1_ := Aside0.mk (HF.out.drew.below hb); clear HP HF q0 q1 B2 B3 B6 HO2; have HP := n0_; have HF := n1_; have B2 := n2b_; have B3 := n3b_; have B6 := n6b_; have HO2 := mHO2_; clear mHO2_; clear n0_ n1_ n2b_ n3b_ n6b_))
                  all_goals ((try go_wp2); go_meet; case rel => exact ⟨A6, c6, rfl, rfl, rfl, HR6, B6, HP, HF, B2, B3, HO2⟩)
                case rest =>
                  clear HP HF B2 B3 B6 HO2
                  obtain ⟨A6, c6, rfl, rfl, rfl, HR6, B6, HP, HF, B2, B3, HO2⟩ := hcut
                  obtain ⟨q60, q61, f60, f61⟩ := cf2 B6.out
                  go_upto_region 25 with (fail)
                  clear q60 q61 f60 f61
                  obtain ⟨w12, hw12⟩ : ∃ W_ : World, W_ = (wc.setCell ⟨n6, 1, none⟩ (.slice A6 m1.length c6)) := ⟨_, rfl⟩
                  rw [← hw12]
                  have n0_ := Aside0.mk (show Tk w0 b Ab cb w12 g a3 0 by rw [hw12]; exact HP.out.setNew NG6.out Z6.out _ _)
                  have n1_ := Aside0.mk (show But g w w12 by rw [hw12]; exact HF.out.setNew G6.out _ _)
                  have n2b_ := Aside0.mk (show w12.heap[n2]? = some (.cells #[.int .u8 0, .int .u16 0, .slice none 0 0, .slice none 0 0, .slice none 0 0, .slice none 0 0] 38 (0, 0)) by rw [hw12]; exact blk_far (p := ⟨n6, 1, none⟩) B2.out N26.out _)
                  have n3b_ := Aside0.mk (show w12.heap[n3]? = some (.cells #[.int .u8 (t1 % 256), .int .u16 (IntKind.u16.wrap s0), .slice Ao2 acc2.length co2, .slice none 0 0, .slice none 0 0, .slice none 0 0] 38 (0, 0)) by rw [hw12]; exact blk_far (p := ⟨n6, 1, none⟩) B3.out N36.out _)
                  have n6b_ := Aside0.mk (show w12.heap[n6]? = some (.cells #[.int .u16 (IntKind.u16.wrap r0), .slice A6 m1.length c6] 41 (0, 0)) by rw [hw12]; exact (blk_set B6.out 1 _).trans rfl)
                  have mR_ := Aside0.mk (show Kd.R (Kd.int .u8) 5 w12 B1 (fun _ => True) (.slice A6 m1.length c6) m1 by rw [hw12]; exact Kd.R_mono (Kd.R_far (p := ⟨n6, 1, none⟩) HR6.out (fun k hk => Nat.ne_of_gt hk) _) (fun _ _ => trivial))
                  have mHO2_ := Aside0.mk (show Kd.R k41 41 w12 B (fun _ => True) (.slice Ao2 acc2.length co2) acc2 by rw [hw12]; exact Kd.R_mono (Kd.R_far (p := ⟨n6, 1, none⟩) HO2.out (fun k hk => Nat.ne_of_lt hk) _) (fun _ _ => trivial))
                  clear HP HF B2 B3 B6 HR6 hw12 HO2
                  have HP := n0_
                  have HF := n1_
                  have B2 := n2b_
                  have B3 := n3b_
                  have B6 := n6b_
                  have HR6 := mR_
                  have HO2 := mHO2_
                  clear n0_ n1_ n2b_ n3b_ n6b_ mR_ mHO2_
                  have q1 := HP.out.c1
                  have f1 := HP.out.fz 1
                  go_upto_region 26 with (fail)
                  obtain ⟨w13, hw13⟩ : ∃ W_ : World, W_ = (w12.setCell ⟨g, 1, none⟩ (.int .i64 a4)) := ⟨_, rfl⟩
                  rw [← hw13]
                  have n0_ := Aside0.mk (show Tk w0 b Ab cb w13 g a4 0 by rw [hw13]; exact HP.out.set1 _)
                  have n1_ := Aside0.mk (show But g w w13 by rw [hw13]; repeat (with_reducible first | exact HF.out | refine But.set ?_ _ _ | refine But.setNew ?_ G2.out _ _ | refine But.setNew ?_ G3.out _ _ | refine But.setNew ?_ G6.out _ _ | refine But.alloc ?_ _ | refine But.drewN ?_ _ | refine But.drew ?_))
                  have n2b_ := Aside0.mk (show w13.heap[n2]? = some (.cells #[.int .u8 0, .int .u16 0, .slice none 0 0, .slice none 0 0, .slice none 0 0, .slice none 0 0] 38 (0, 0)) by rw [hw13]; exact blk_far (p := ⟨g, _, none⟩) B2.out NG2.out.symm _)
                  have n3b_ := Aside0.mk (show w13.heap[n3]? = some (.cells #[.int .u8 (t1 % 256), .int .u16 (IntKind.u16.wrap s0), .slice Ao2 acc2.length co2, .slice none 0 0, .slice none 0 0, .slice none 0 0] 38 (0, 0)) by rw [hw13]; exact blk_far (p := ⟨g, _, none⟩) B3.out NG3.out.symm _)
                  have mHO2_ := Aside0.mk (show Kd.R k41 41 w13 B (fun _ => True) (.slice Ao2 acc2.length co2) acc2 by rw [hw13]; exact R_setold HO2.out LG.out _ _)
                  have mB6_ := Aside0.mk (show w13.heap[n6]? = some (.cells #[.int .u16 (IntKind.u16.wrap r0), .slice A6 m1.length c6] 41 (0, 0)) by rw [hw13]; exact blk_far (p := ⟨g, _, none⟩) B6.out NG6.out.symm _)
                  have mHR6_ := Aside0.mk (show Kd.R (Kd.int .u8) 5 w13 B1 (fun _ => True) (.slice A6 m1.length c6) m1 by rw [hw13]; exact R_setold HR6.out LG1.out _ _)
                  clear HP HF B2 B3 hw13 HO2 B6 HR6
                  try clear q30 f30 q31 f31 q32 f32 q33 f33 q34 f34 q35 f35
                  have HP := n0_
                  have HF := n1_
                  have B2 := n2b_
                  have B3 := n3b_
                  have HO2 := mHO2_
                  have B6 := mB6_
                  have HR6 := mHR6_
                  clear n0_ n1_ n2b_ n3b_ mHO2_ mB6_ mHR6_
                  clear q1 f1
                  have q2 := HP.out.c2
                  have f2 := HP.out.fz 2
                  go_upto_region 27 with (fail)
                  obtain ⟨w14, hw14⟩ : ∃ W_ : World, W_ = (w13.setCell ⟨g, 2, none⟩ (.int .i64 e4)) := ⟨_, rfl⟩
                  rw [← hw14]
                  have n0_ := Aside0.mk (show Tk w0 b Ab cb w14 g a4 e4 by rw [hw14]; exact HP.out.set2 _)
                  have n1_ := Aside0.mk (show But g w w14 by rw [hw14]; repeat (with_reducible first | exact HF.out | refine But.set ?_ _ _ | refine But.setNew ?_ G2.out _ _ | refine But.setNew ?_ G3.out _ _ | refine But.setNew ?_ G6.out _ _ | refine But.alloc ?_ _ | refine But.drewN ?_ _ | refine But.drew ?_))
                  have n2b_ := Aside0.mk (show w14.heap[n2]? = some (.cells #[.int .u8 0, .int .u16 0, .slice none 0 0, .slice none 0 0, .slice none 0 0, .slice none 0 0] 38 (0, 0)) by rw [hw14]; exact blk_far (p := ⟨g, _, none⟩) B2.out NG2.out.symm _)
                  have n3b_ := Aside0.mk (show w14.heap[n3]? = some (.cells #[.int .u8 (t1 % 256), .int .u16 (IntKind.u16.wrap s0), .slice Ao2 acc2.length co2, .slice none 0 0, .slice none 0 0, .slice none 0 0] 38 (0, 0)) by rw [hw14]; exact blk_far (p := ⟨g, _, none⟩) B3.out NG3.out.symm _)
                  have mHO2_ := Aside0.mk (show Kd.R k41 41 w14 B (fun _ => True) (.slice Ao2 acc2.length co2) acc2 by rw [hw14]; exact R_setold HO2.out LG.out _ _)
                  have mB6_ := Aside0.mk (show w14.heap[n6]? = some (.cells #[.int .u16 (IntKind.u16.wrap r0), .slice A6 m1.length c6] 41 (0, 0)) by rw [hw14]; exact blk_far (p := ⟨g, _, none⟩) B6.out NG6.out.symm _)
                  have mHR6_ := Aside0.mk (show Kd.R (Kd.int .u8) 5 w14 B1 (fun _ => True) (.slice A6 m1.length c6) m1 by rw [hw14]; exact R_setold HR6.out LG1.out _ _)
                  clear HP HF B2 B3 hw14 HO2 B6 HR6
                  try clear q30 f30 q31 f31 q32 f32 q33 f33 q34 f34 q35 f35
                  have HP := n0_
                  have HF := n1_
                  have B2 := n2b_
                  have B3 := n3b_
                  have HO2 := mHO2_
                  have B6 := mB6_
                  have HR6 := mHR6_
                  clear n0_ n1_ n2b_ n3b_ mHO2_ mB6_ mHR6_
                  clear q2 f2
                  obtain ⟨q30, q31, q32, q33, q34, q35⟩ := cells6 B3.out
                  obtain ⟨f30, f31, f32, f33, f34, f35⟩ := froz6 B3.out
                  obtain ⟨q60, q61, -, -⟩ := cf2 B6.out
                  have LBX := Aside0.mk (show B ≤ w14.heap.size by rw [HBn.out]; exact blk_lt B3.out)
                  go_wp2_with (first | ((with_reducible refine gate_builtin (b := .append) (xs := #[.tmp 139, .tmp 141]) rfl ?_); at_builtin; refine Kd.R_append k41 (w0 := w14) B rfl (.tmp 139) (.tmp 141) 33 41 (.agg #[.int .u16 0, .slice none 0 0]) 32 rfl Try.underlying33 minfo41 rfl (by decide) (by omega) _ acc2 (⟨IntKind.u16.wrap r0, m1⟩ : S41) [.int .u16 (IntKind.u16.wrap r0), .slice A6 m1.length c6] (fun _ => True) (fun k => B1 ≤ k) rfl rfl ?aP ?aK (fun _ _ => trivial) ?aO ?aB ?aS ?aL ?_; (case aP => exact k41_mkM _ _ _ (⟨IntKind.u16.wrap r0, m1⟩ : S41) (Kd.R_lower (Kd.R_mono (Kd.R_bound HR6.out) (fun k hk => hk.2.1)) LB1.out)); (case aK => exact fun k hk => ⟨trivial, fun h_ => absurd (LT8.out k h_.symm) (Nat.not_lt.mpr hk)⟩); (case aO => exact HO2.out); (case aB => exact Below.refl _ _); (case aS => exact LBX.out); (case aL => have := HI.out; omega); intro v41 w41 ho hb hg hat; obtain ⟨An, cn, en⟩ := Kd.R_slice ho; subst en; have n0_ := Aside0.mk ho; have n1_ := Aside0.mk (HP.out.step LG.out hb); have n2_ := Aside0.mk (HF.out.step LW.out hb); have n3_ := Aside0.mk ((hb.block _ L2.out).trans B2.out); have n4_ := Aside0.mk ((hb.block _ L3.out).trans B3.out); clear HO2 HP HF B2 B3 q30 f30 q31 f31 q32 f32 q33 f33 q34 f34 q35 f35; have HO2 := n0_; have HP := n1_; have HF := n2_; have B2 := n3_; have B3 := n4_; clear n0_ n1_ n2_ n3_ n4_ ho hb hg hat; obtain ⟨q30, q31, q32, q33, q34, q35⟩ := cells6 B3.out; obtain ⟨f30, f31, f32, f33, f34, f35⟩ := froz6 B3.out))
                  go_roundg k1
                  case measure => omega
                  case rel => exact ⟨acc2 ++ [(⟨IntKind.u16.wrap r0, m1⟩ : S41)], x + 1, a4, e4, An, cn, by rw [HW.out], ⟨by have := HI.out; simp only [List.length_append, List.length_cons, List.length_nil]; omega⟩, HA, ⟨R_setold HO2.out L3.out _ _⟩, ⟨HP.out.setNew NG3.out Z3.out _ _⟩, ⟨HF.out.setNew G3.out _ _⟩, ⟨blk_far (p := ⟨n3, _, none⟩) B2.out N23.out _⟩, ⟨by rw [List.length_append, List.length_singleton]; exact (blk_set B3.out 2 _).trans rfl⟩⟩
          case rest =>
            clear HP HF B2 B3 HMnI
            obtain ⟨Ao2, co2, HO2, HP, HF, B2, B3⟩ := hcut
            obtain ⟨q30, q31, q32, q33, q34, q35⟩ := cells6 B3.out
            obtain ⟨f30, f31, f32, f33, f34, f35⟩ := froz6 B3.out
            go_upto_region 29 with (first | (go_at_call 23; (with_reducible refine (numberT_ok w0 b Ab cb g at4 e4 1 nF at5 e5 _ ?s1 H2nF.out).mono ?_); (case s1 => first | exact HP.out | exact HP.out.drew | exact HP.out.drewN _); rintro y w6 ⟨rfl, hp, hf⟩; have n2b_ := Aside0.mk (blk_but B2.out NG2.out.symm hf); have n3b_ := Aside0.mk (blk_but B3.out NG3.out.symm hf); have mHO2_ := Aside0.mk (R_but HO2.out LG.out hf); have n0_ := Aside0.mk hp; have n1_ := Aside0.mk (HF.out.trans hf); clear HP HF hp hf B2 B3 q30 f30 q31 f31 q32 f32 q33 f33 q34 f34 q35 f35 HO2; have HP := n0_; have HF := n1_; have B2 := n2b_; have B3 := n3b_; have HO2 := mHO2_; clear n0_ n1_ n2b_ n3b_ mHO2_; obtain ⟨q30, q31, q32, q33, q34, q35⟩ := cells6 B3.out; obtain ⟨f30, f31, f32, f33, f34, f35⟩ := froz6 B3.out))
            clear q30 f30 q31 f31 q32 f32 q33 f33 q34 f34 q35 f35
            go_upto_block 4 with (fail)
            go_cut [15, 16, 17, 18] from 146 to 184 (fun v15 v16 v17 v18 wc => ∃ (Ao3 : Option Addr) (co3 : Nat), Aside0 (Kd.R k44 44 wc B (fun _ => True) (.slice Ao3 lt.length co3) lt) ∧ Aside0 (Tk w0 b Ab cb wc g at6 e6) ∧ Aside0 (But g w wc) ∧ Aside0 (wc.heap[n2]? = some (.cells #[.int .u8 0, .int .u16 0, .slice none 0 0, .slice none 0 0, .slice none 0 0, .slice none 0 0] 38 (0, 0))) ∧ Aside0 (wc.heap[n3]? = some (.cells #[.int .u8 (t1 % 256), .int .u16 (IntKind.u16.wrap s0), .slice Ao2 ls.length co2, .slice Ao3 lt.length co3, .slice none 0 0, .slice none 0 0] 38 (0, 0))) ∧ Aside0 (Kd.R k41 41 wc B (fun _ => True) (.slice Ao2 ls.length co2) ls))
            case first =>
              go_wp2
              go_loopg [15] nF.toNat (fun kq v w' => ∃ (acc3 : List S44) (x a_ e_ : Int) (Ao3 : Option Addr) (co3 : Nat), v = .int .i64 x ∧ Aside0 (0 ≤ x ∧ (kq : Int) + x = nF ∧ acc3.length + kq ≤ 255) ∧ Aside0 (manyL (typT b) kq acc3 a_ e_ = some (lt, at6, e6)) ∧ Aside0 (Kd.R k44 44 w' B (fun _ => True) (.slice Ao3 acc3.length co3) acc3) ∧ Aside0 (Tk w0 b Ab cb w' g a_ e_) ∧ Aside0 (But g w w') ∧ Aside0 (w'.heap[n2]? = some (.cells #[.int .u8 0, .int .u16 0, .slice none 0 0, .slice none 0 0, .slice none 0 0, .slice none 0 0] 38 (0, 0))) ∧ Aside0 (w'.heap[n3]? = some (.cells #[.int .u8 (t1 % 256), .int .u16 (IntKind.u16.wrap s0), .slice Ao2 ls.length co2, .slice Ao3 acc3.length co3, .slice none 0 0, .slice none 0 0] 38 (0, 0))) ∧ Aside0 (Kd.R k41 41 w' B (fun _ => True) (.slice Ao2 ls.length co2) ls))
              case atStart => exact ⟨[], 0, at5, e5, none, 0, rfl, ⟨by have := HNnF.out; simp; omega⟩, HMnF, ⟨Kd.R_nil _ _ _ _ _⟩, ⟨HP.out⟩, ⟨HF.out⟩, B2, B3, HO2⟩
              case round =>
                clear HP HF B2 B3 HMnF HO2
                obtain ⟨acc3, x, a_, e_, Ao3, co3, rfl, HI, HA, HO3, HP, HF, B2, B3, HO2⟩ := hrel
                have q2 := HP.out.c2
                cases gk with
                | zero =>
                  have d2 : decide (x < nF) = false := decide_eq_false (by have := HI.out; omega)
                  have hA := HA.out
                  unfold manyL at hA
                  simp only [Option.some.injEq, Prod.mk.injEq] at hA
                  obtain ⟨rfl, rfl, rfl⟩ := hA
                  clear HA
                  go_wp2
                  go_meet
                  case rel => exact ⟨Ao3, co3, HO3, HP, HF, B2, B3, HO2⟩
                | succ k1 =>
                  have d2 : decide (x < nF) = true := decide_eq_true (by have := HI.out; omega)
                  have hA := HA.out
                  unfold manyL at hA
                  clear HA
                  by_cases c3 : e_ = 0
                  rotate_left
                  · rw [if_neg c3] at hA
                    simp only [Option.some.injEq, Prod.mk.injEq] at hA
                    obtain ⟨rfl, rfl, rfl⟩ := hA
                    have d3a : (e_ == 0) = false := beq_eq_false_iff_ne.mpr c3
                    have d3b : (e_ != 0) = true := bne_iff_ne.mpr c3
                    clear c3
                    go_wp2
                    go_meet
                    case rel => exact ⟨Ao3, co3, HO3, HP, HF, B2, B3, HO2⟩
                  rw [if_pos c3] at hA
                  subst c3
                  obtain ⟨⟨x_, a2, f2_⟩, h2, hA⟩ := Option.bind_eq_some_iff.mp hA
                  have H2 := Aside0.mk h2
                  have HA := Aside0.mk hA
                  clear h2 hA
                  have hw : wrap64 (x + 1) = x + 1 := by have := HI.out; have := HNnF.out; unfold wrap64; omega
                  have HW := Aside0.mk hw
                  clear hw
                  have h2 := H2.out
                  unfold typT at h2
                  obtain ⟨⟨r1, r2, r3, r4⟩, hg, h2⟩ := Option.bind_eq_some_iff.mp h2
                  simp only [Option.some.injEq, Prod.mk.injEq] at h2
                  obtain ⟨hx_, rfl, rfl⟩ := h2
                  have HG := Aside0.mk hg
                  have HX := Aside0.mk hx_
                  clear hg hx_ H2
                  obtain ⟨B1, hB1⟩ : ∃ B_ : Nat, B_ = wr.heap.size := ⟨_, rfl⟩
                  have LT8 := Aside0.mk (show ∀ k, (Value.slice Ao3 acc3.length co3).ownBlock = some k → k < B1 by rw [hB1]; exact Kd.R_lt HO3.out)
                  have LG1 := Aside0.mk (show g < B1 by rw [hB1]; exact HP.out.lt)
                  have L21 := Aside0.mk (show n2 < B1 by rw [hB1]; exact blk_lt B2.out)
                  have L31 := Aside0.mk (show n3 < B1 by rw [hB1]; exact blk_lt B3.out)
                  have LB1 := Aside0.mk (show B ≤ B1 by rw [hB1, HBn.out]; exact blk_lt B3.out)
                  go_upto_region 32 with (fail)
                  clear q2
                  go_cut [16, 17, 18] from 146 to 184 (fun v6 v7 v8 wc => ∃ (n6 : Nat), v6 = .pointer (some ⟨n6, 0, none⟩) ∧ v7 = .int .i64 r3 ∧ v8 = .int .i64 r4 ∧ Aside0 (B1 ≤ n6) ∧ Aside0 (wc.heap[n6]? = some (.cells #[.int .u8 r1, .int .u16 r2] 44 (0, 0))) ∧ Aside0 (Tk w0 b Ab cb wc g a_ 0) ∧ Aside0 (But g w wc) ∧ Aside0 (wc.heap[n2]? = some (.cells #[.int .u8 0, .int .u16 0, .slice none 0 0, .slice none 0 0, .slice none 0 0, .slice none 0 0] 38 (0, 0))) ∧ Aside0 (wc.heap[n3]? = some (.cells #[.int .u8 (t1 % 256), .int .u16 (IntKind.u16.wrap s0), .slice Ao2 ls.length co2, .slice Ao3 acc3.length co3, .slice none 0 0, .slice none 0 0] 38 (0, 0))) ∧ Aside0 (Kd.R k41 41 wc B (fun _ => True) (.slice Ao2 ls.length co2) ls) ∧ Aside0 (Kd.R k44 44 wc B (fun _ => True) (.slice Ao3 acc3.length co3) acc3))
                  case first =>
                    have q0 := HP.out.c0
                    have q1 := HP.out.c1
                    have G6 := Aside0.mk (show w.heap.size ≤ wr.heap.size from HF.out.size)
                    have NG6 := Aside0.mk (show g ≠ wr.heap.size from Nat.ne_of_lt HP.out.lt)
                    have Z6 := Aside0.mk (show w0.heap.size ≤ wr.heap.size from HP.out.fr.size)
                    have N26 := Aside0.mk (show n2 ≠ wr.heap.size from Nat.ne_of_lt (blk_lt B2.out))
                    have N36 := Aside0.mk (show n3 ≠ wr.heap.size from Nat.ne_of_lt (blk_lt B3.out))
                    have hgl : g < wr.heap.size := HP.out.lt
                    have hgn : g ≠ wr.heap.size := NG6.out
                    have hgm : wr.heap.size ≠ g := NG6.out.symm
                    go_region_held3 (fun w' => w'.cell? ⟨g, 0, none⟩ = some (.slice Ab b.length cb) ∧ w'.cell? ⟨g, 1, none⟩ = some (.int .i64 a_)) (first | with_reducible exact ⟨HP.out.drew.c0, HP.out.drew.c1⟩ | with_reducible exact ⟨HP.out.c0, HP.out.c1⟩ | with_reducible exact ⟨(HP.out.alloc _).drew.c0, (HP.out.alloc _).drew.c1⟩ | with_reducible exact ⟨(HP.out.alloc _).c0, (HP.out.alloc _).c1⟩ | with_reducible exact ⟨((HP.out.setNew NG6.out Z6.out _ _).setNew NG6.out Z6.out _ _).c0, ((HP.out.setNew NG6.out Z6.out _ _).setNew NG6.out Z6.out _ _).c1⟩ | with_reducible exact ⟨(HP.out.below (below_set (below_set (below_alloc (Below.refl _ w1) _) (Nat.le_refl _)) (Nat.le_refl _))).c0, (HP.out.below (below_set (below_set (below_alloc (Below.refl _ w1) _) (Nat.le_refl _)) (Nat.le_refl _))).c1⟩ | fail) (first | (go_at_call 55; (with_reducible refine (garderoberef04_Get.calls 20 Ab cb b a_ r1 r2 r3 r4 _ ?s1 ?s2 HG.out).mono ?_); (case s1 => with_reducible exact (HP.out.alloc _).drew.now); (case s2 => exact HP.out.cap); rintro e w1 ⟨rfl, hb⟩; have n2b_ := Aside0.mk (blk_below (blk_drew (blk_alloc B2.out _)) hb); have n3b_ := Aside0.mk (blk_below (blk_drew (blk_alloc B3.out _)) hb); have mHO2_ := Aside0.mk (Kd.R_below (Kd.R_drew (Kd.R_alloc (Kd.R_mono (Kd.R_bound HO2.out) (fun k hk => hk.2.2.1)) _)) hb); have mHO3_ := Aside0.mk (Kd.R_below (Kd.R_drew (Kd.R_alloc (Kd.R_mono (Kd.R_bound HO3.out) (fun k hk => hk.2.2.1)) _)) hb); have n0_ := Aside0.mk ((HP.out.alloc _).drew.below hb); have n1_ := Aside0.mk ((HF.out.alloc _).drew.below hb); have B6 := Aside0.mk (show w1.heap[wr.heap.size]? = some (.cells #[.int .u8 0, .int .u16 0] 44 (0, 0)) from blk_below (blk_drew (blk_new wr (.cells #[.int .u8 0, .int .u16 0] 44 (0, 0)))) hb); clear HP HF q0 q1 B2 B3 HO2 HO3; have HP := n0_; have HF := n1_; have B2 := n2b_; have B3 := n3b_; have HO2 := mHO2_; clear mHO2_; have HO3 := mHO3_; clear mHO3_; clear n0_ n1_ n2b_ n3b_; obtain ⟨q60, q61, f60, f61⟩ := cf2 B6.out) | (go_at_call 55; (with_reducible refine (garderoberef04_Get.calls 20 Ab cb b a_ r1 r2 r3 r4 _ ?s1 ?s2 HG.out).mono ?_); (case s1 => with_reducible exact HP.out.drew.now); (case s2 => exact HP.out.cap); rintro e w1 ⟨rfl, hb⟩; have n2b_ := Aside0.mk (blk_below (blk_drew B2.out) hb); have n3b_ := Aside0.mk (blk_below (blk_drew B3.out) hb); have mHO2_ := Aside0.mk (Kd.R_below (Kd.R_drew HO2.out) hb); have mHO3_ := Aside0.mk (Kd.R_below (Kd.R_drew HO3.out) hb); have n0_ := Aside0.mk (HP.out.drew.below hb); have n1_ := Aside0.mk (HF.out.drew.below hb); have LN := Aside0.mk (show wr.heap.size ≤ w1.heap.size from hb.size); clear HP HF q0 q1 B2 B3 HO2 HO3; have HP := n0_; have HF := n1_; have B2 := n2b_; have B3 := n3b_; have HO2 := mHO2_; clear mHO2_; have HO3 := mHO3_; clear mHO3_; clear n0_ n1_ n2b_ n3b_))
                    all_goals ((try go_wp2); go_meet; case rel => first | exact ⟨wr.heap.size, rfl, rfl, rfl, ⟨Nat.le_of_eq hB1⟩, ⟨(blk_set (blk_set B6.out 0 _) 1 _).trans rfl⟩, ⟨by repeat (with_reducible first | exact HP.out | refine Tk.setNew ?_ NG2.out Z2.out _ _ | refine Tk.setNew ?_ NG3.out Z3.out _ _ | refine Tk.setNew ?_ NG6.out Z6.out _ _ | refine Tk.alloc ?_ _ | refine Tk.drewN ?_ _ | refine Tk.drew ?_)⟩, ⟨by repeat (with_reducible first | exact HF.out | refine But.set ?_ _ _ | refine But.setNew ?_ G2.out _ _ | refine But.setNew ?_ G3.out _ _ | refine But.setNew ?_ G6.out _ _ | refine But.alloc ?_ _ | refine But.drewN ?_ _ | refine But.drew ?_)⟩, ⟨(blk_far (p := ⟨wr.heap.size, 1, none⟩) (blk_far (p := ⟨wr.heap.size, 0, none⟩) B2.out N26.out _) N26.out _)⟩, ⟨(blk_far (p := ⟨wr.heap.size, 1, none⟩) (blk_far (p := ⟨wr.heap.size, 0, none⟩) B3.out N36.out _) N36.out _)⟩, ⟨Kd.R_mono (Kd.R_far (p := ⟨wr.heap.size, 1, none⟩) (Kd.R_far (p := ⟨wr.heap.size, 0, none⟩) HO2.out (fun k hk => Nat.ne_of_lt hk) _) (fun k hk => Nat.ne_of_lt hk) _) (fun _ _ => trivial)⟩, ⟨Kd.R_mono (Kd.R_far (p := ⟨wr.heap.size, 1, none⟩) (Kd.R_far (p := ⟨wr.heap.size, 0, none⟩) HO3.out (fun k hk => Nat.ne_of_lt hk) _) (fun k hk => Nat.ne_of_lt hk) _) (fun _ _ => trivial)⟩⟩ | exact ⟨w1.heap.size, rfl, rfl, rfl, ⟨Nat.le_trans (Nat.le_of_eq hB1) LN.out⟩, ⟨(blk_new _ _).trans rfl⟩, ⟨HP.out.below (below_alloc (Below.refl _ w1) _)⟩, ⟨HF.out.below (below_alloc (Below.refl _ w1) _)⟩, ⟨blk_below B2.out (below_alloc (Below.refl _ w1) _)⟩, ⟨blk_below B3.out (below_alloc (Below.refl _ w1) _)⟩, ⟨Kd.R_below HO2.out (below_alloc (Below.refl _ w1) _)⟩, ⟨Kd.R_below HO3.out (below_alloc (Below.refl _ w1) _)⟩⟩)
                  case rest =>
                    clear HP HF B2 B3 HO2 HO3
                    obtain ⟨n6, rfl, rfl, rfl, L6, B6, HP, HF, B2, B3, HO2, HO3⟩ := hcut
                    have NG6 := Aside0.mk (show g ≠ n6 by have h1_ := LG1.out; have h2_ := L6.out; omega)
                    have q1 := HP.out.c1
                    have f1 := HP.out.fz 1
                    go_upto_region 34 with (fail)
                    obtain ⟨w10, hw10⟩ : ∃ W_ : World, W_ = (wc.setCell ⟨g, 1, none⟩ (.int .i64 r3)) := ⟨_, rfl⟩
                    rw [← hw10]
                    have n0_ := Aside0.mk (show Tk w0 b Ab cb w10 g r3 0 by rw [hw10]; exact HP.out.set1 _)
                    have n1_ := Aside0.mk (show But g w w10 by rw [hw10]; repeat (with_reducible first | exact HF.out | refine But.set ?_ _ _ | refine But.setNew ?_ G2.out _ _ | refine But.setNew ?_ G3.out _ _ | refine But.setNew ?_ G6.out _ _ | refine But.alloc ?_ _ | refine But.drewN ?_ _ | refine But.drew ?_))
                    have n2b_ := Aside0.mk (show w10.heap[n2]? = some (.cells #[.int .u8 0, .int .u16 0, .slice none 0 0, .slice none 0 0, .slice none 0 0, .slice none 0 0] 38 (0, 0)) by rw [hw10]; exact blk_far (p := ⟨g, _, none⟩) B2.out NG2.out.symm _)
                    have n3b_ := Aside0.mk (show w10.heap[n3]? = some (.cells #[.int .u8 (t1 % 256), .int .u16 (IntKind.u16.wrap s0), .slice Ao2 ls.length co2, .slice Ao3 acc3.length co3, .slice none 0 0, .slice none 0 0] 38 (0, 0)) by rw [hw10]; exact blk_far (p := ⟨g, _, none⟩) B3.out NG3.out.symm _)
                    have mHO2_ := Aside0.mk (show Kd.R k41 41 w10 B (fun _ => True) (.slice Ao2 ls.length co2) ls by rw [hw10]; exact R_setold HO2.out LG.out _ _)
                    have mHO3_ := Aside0.mk (show Kd.R k44 44 w10 B (fun _ => True) (.slice Ao3 acc3.length co3) acc3 by rw [hw10]; exact R_setold HO3.out LG.out _ _)
                    have mB6_ := Aside0.mk (show w10.heap[n6]? = some (.cells #[.int .u8 r1, .int .u16 r2] 44 (0, 0)) by rw [hw10]; exact blk_far (p := ⟨g, _, none⟩) B6.out NG6.out.symm _)
                    clear HP HF B2 B3 hw10 HO2 HO3 B6
                    try clear q30 f30 q31 f31 q32 f32 q33 f33 q34 f34 q35 f35
                    have HP := n0_
                    have HF := n1_
                    have B2 := n2b_
                    have B3 := n3b_
                    have HO2 := mHO2_
                    have HO3 := mHO3_
                    have B6 := mB6_
                    clear n0_ n1_ n2b_ n3b_ mHO2_ mHO3_ mB6_
                    clear q1 f1
                    have q2 := HP.out.c2
                    have f2 := HP.out.fz 2
                    go_upto_region 35 with (fail)
                    obtain ⟨w11, hw11⟩ : ∃ W_ : World, W_ = (w10.setCell ⟨g, 2, none⟩ (.int .i64 r4)) := ⟨_, rfl⟩
                    rw [← hw11]
                    have n0_ := Aside0.mk (show Tk w0 b Ab cb w11 g r3 r4 by rw [hw11]; exact HP.out.set2 _)
                    have n1_ := Aside0.mk (show But g w w11 by rw [hw11]; repeat (with_reducible first | exact HF.out | refine But.set ?_ _ _ | refine But.setNew ?_ G2.out _ _ | refine But.setNew ?_ G3.out _ _ | refine But.setNew ?_ G6.out _ _ | refine But.alloc ?_ _ | refine But.drewN ?_ _ | refine But.drew ?_))
                    have n2b_ := Aside0.mk (show w11.heap[n2]? = some (.cells #[.int .u8 0, .int .u16 0, .slice none 0 0, .slice none 0 0, .slice none 0 0, .slice none 0 0] 38 (0, 0)) by rw [hw11]; exact blk_far (p := ⟨g, _, none⟩) B2.out NG2.out.symm _)
                    have n3b_ := Aside0.mk (show w11.heap[n3]? = some (.cells #[.int .u8 (t1 % 256), .int .u16 (IntKind.u16.wrap s0), .slice Ao2 ls.length co2, .slice Ao3 acc3.length co3, .slice none 0 0, .slice none 0 0] 38 (0, 0)) by rw [hw11]; exact blk_far (p := ⟨g, _, none⟩) B3.out NG3.out.symm _)
                    have mHO2_ := Aside0.mk (show Kd.R k41 41 w11 B (fun _ => True) (.slice Ao2 ls.length co2) ls by rw [hw11]; exact R_setold HO2.out LG.out _ _)
                    have mHO3_ := Aside0.mk (show Kd.R k44 44 w11 B (fun _ => True) (.slice Ao3 acc3.length co3) acc3 by rw [hw11]; exact R_setold HO3.out LG.out _ _)
                    have mB6_ := Aside0.mk (show w11.heap[n6]? = some (.cells #[.int .u8 r1, .int .u16 r2] 44 (0, 0)) by rw [hw11]; exact blk_far (p := ⟨g, _, none⟩) B6.out NG6.out.symm _)
                    clear HP HF B2 B3 hw11 HO2 HO3 B6
                    try clear q30 f30 q31 f31 q32 f32 q33 f33 q34 f34 q35 f35
                    have HP := n0_
                    have HF := n1_
                    have B2 := n2b_
                    have B3 := n3b_
                    have HO2 := mHO2_
                    have HO3 := mHO3_
                    have B6 := mB6_
                    clear n0_ n1_ n2b_ n3b_ mHO2_ mHO3_ mB6_
                    clear q2 f2
                    obtain ⟨q30, q31, q32, q33, q34, q35⟩ := cells6 B3.out
                    obtain ⟨f30, f31, f32, f33, f34, f35⟩ := froz6 B3.out
                    obtain ⟨q60, q61, -, -⟩ := cf2 B6.out
                    have LBX := Aside0.mk (show B ≤ w11.heap.size by rw [HBn.out]; exact blk_lt B3.out)
                    have hx_ := HX.out
                    subst hx_
                    go_wp2_with (first | ((with_reducible refine gate_builtin (b := .append) (xs := #[.tmp 180, .tmp 182]) rfl ?_); at_builtin; refine Kd.R_append k44 (w0 := w11) B rfl (.tmp 180) (.tmp 182) 34 44 (.agg #[.int .u8 0, .int .u16 0]) 4 rfl Try.underlying34 minfo44 rfl (by decide) (by omega) _ acc3 (⟨r1, r2⟩ : S44) [.int .u8 r1, .int .u16 r2] (fun _ => True) (fun k => B1 ≤ k) rfl rfl ?aP ?aK (fun _ _ => trivial) ?aO ?aB ?aS ?aL ?_; (case aP => exact k44_mkM _ _ _ (⟨r1, r2⟩ : S44)); (case aK => exact fun k hk => ⟨trivial, fun h_ => absurd (LT8.out k h_.symm) (Nat.not_lt.mpr hk)⟩); (case aO => exact HO3.out); (case aB => exact Below.refl _ _); (case aS => exact LBX.out); (case aL => have := HI.out; omega); intro v41 w41 ho hb hg hat; obtain ⟨An, cn, en⟩ := Kd.R_slice ho; subst en; have n0_ := Aside0.mk ho; have n1_ := Aside0.mk (HP.out.step LG.out hb); have n2_ := Aside0.mk (HF.out.step LW.out hb); have n3_ := Aside0.mk ((hb.block _ L2.out).trans B2.out); have n4_ := Aside0.mk ((hb.block _ L3.out).trans B3.out); have mHO2_ := Aside0.mk (Kd.R_over HO2.out HO3.out (by decide) hg); clear HO3 HP HF B2 B3 q30 f30 q31 f31 q32 f32 q33 f33 q34 f34 q35 f35 HO2; have HO3 := n0_; have HP := n1_; have HF := n2_; have B2 := n3_; have B3 := n4_; have HO2 := mHO2_; clear mHO2_; clear n0_ n1_ n2_ n3_ n4_ ho hb hg hat; obtain ⟨q30, q31, q32, q33, q34, q35⟩ := cells6 B3.out; obtain ⟨f30, f31, f32, f33, f34, f35⟩ := froz6 B3.out))
                    go_roundg k1
                    case measure => omega
                    case rel => exact ⟨acc3 ++ [(⟨r1, r2⟩ : S44)], x + 1, r3, r4, An, cn, by rw [HW.out], ⟨by have := HI.out; simp only [List.length_append, List.length_cons, List.length_nil]; omega⟩, HA, ⟨R_setold HO3.out L3.out _ _⟩, ⟨HP.out.setNew NG3.out Z3.out _ _⟩, ⟨HF.out.setNew G3.out _ _⟩, ⟨blk_far (p := ⟨n3, _, none⟩) B2.out N23.out _⟩, ⟨by rw [List.length_append, List.length_singleton]; exact (blk_set B3.out 3 _).trans rfl⟩, ⟨R_setold HO2.out L3.out _ _⟩⟩
            case rest =>
              clear HP HF B2 B3 HMnF HO2
              obtain ⟨Ao3, co3, HO3, HP, HF, B2, B3, HO2⟩ := hcut
              obtain ⟨q30, q31, q32, q33, q34, q35⟩ := cells6 B3.out
              obtain ⟨f30, f31, f32, f33, f34, f35⟩ := froz6 B3.out
              go_upto_region 37 with (first | (go_at_call 23; (with_reducible refine (numberT_ok w0 b Ab cb g at6 e6 1 nV at7 e7 _ ?s1 H2nV.out).mono ?_); (case s1 => first | exact HP.out | exact HP.out.drew | exact HP.out.drewN _); rintro y w6 ⟨rfl, hp, hf⟩; have n2b_ := Aside0.mk (blk_but B2.out NG2.out.symm hf); have n3b_ := Aside0.mk (blk_but B3.out NG3.out.symm hf); have mHO2_ := Aside0.mk (R_but HO2.out LG.out hf); have mHO3_ := Aside0.mk (R_but HO3.out LG.out hf); have n0_ := Aside0.mk hp; have n1_ := Aside0.mk (HF.out.trans hf); clear HP HF hp hf B2 B3 q30 f30 q31 f31 q32 f32 q33 f33 q34 f34 q35 f35 HO2 HO3; have HP := n0_; have HF := n1_; have B2 := n2b_; have B3 := n3b_; have HO2 := mHO2_; have HO3 := mHO3_; clear n0_ n1_ n2b_ n3b_ mHO2_ mHO3_; obtain ⟨q30, q31, q32, q33, q34, q35⟩ := cells6 B3.out; obtain ⟨f30, f31, f32, f33, f34, f35⟩ := froz6 B3.out))
              clear q30 f30 q31 f31 q32 f32 q33 f33 q34 f34 q35 f35
              go_upto_block 6 with (fail)
              go_cut [19] from 187 to 206 (fun v19 wc => ∃ (Ao4 : Option Addr) (co4 : Nat), Aside0 (Kd.R (Kd.int .u16) 23 wc B (fun _ => True) (.slice Ao4 lv.length co4) lv) ∧ Aside0 (Tk w0 b Ab cb wc g at8 e8) ∧ Aside0 (But g w wc) ∧ Aside0 (wc.heap[n2]? = some (.cells #[.int .u8 0, .int .u16 0, .slice none 0 0, .slice none 0 0, .slice none 0 0, .slice none 0 0] 38 (0, 0))) ∧ Aside0 (wc.heap[n3]? = some (.cells #[.int .u8 (t1 % 256), .int .u16 (IntKind.u16.wrap s0), .slice Ao2 ls.length co2, .slice Ao3 lt.length co3, .slice Ao4 lv.length co4, .slice none 0 0] 38 (0, 0))) ∧ Aside0 (Kd.R k41 41 wc B (fun _ => True) (.slice Ao2 ls.length co2) ls) ∧ Aside0 (Kd.R k44 44 wc B (fun _ => True) (.slice Ao3 lt.length co3) lt))
              case first =>
                go_wp2
                go_loopg [19] nV.toNat (fun kq v w' => ∃ (acc4 : List Int) (x a_ e_ : Int) (Ao4 : Option Addr) (co4 : Nat), v = .int .i64 x ∧ Aside0 (0 ≤ x ∧ (kq : Int) + x = nV ∧ acc4.length + kq ≤ 255) ∧ Aside0 (manyL (wordT b) kq acc4 a_ e_ = some (lv, at8, e8)) ∧ Aside0 (Kd.R (Kd.int .u16) 23 w' B (fun _ => True) (.slice Ao4 acc4.length co4) acc4) ∧ Aside0 (Tk w0 b Ab cb w' g a_ e_) ∧ Aside0 (But g w w') ∧ Aside0 (w'.heap[n2]? = some (.cells #[.int .u8 0, .int .u16 0, .slice none 0 0, .slice none 0 0, .slice none 0 0, .slice none 0 0] 38 (0, 0))) ∧ Aside0 (w'.heap[n3]? = some (.cells #[.int .u8 (t1 % 256), .int .u16 (IntKind.u16.wrap s0), .slice Ao2 ls.length co2, .slice Ao3 lt.length co3, .slice Ao4 acc4.length co4, .slice none 0 0] 38 (0, 0))) ∧ Aside0 (Kd.R k41 41 w' B (fun _ => True) (.slice Ao2 ls.length co2) ls) ∧ Aside0 (Kd.R k44 44 w' B (fun _ => True) (.slice Ao3 lt.length co3) lt))
                case atStart => exact ⟨[], 0, at7, e7, none, 0, rfl, ⟨by have := HNnV.out; simp; omega⟩, HMnV, ⟨Kd.R_nil _ _ _ _ _⟩, ⟨HP.out⟩, ⟨HF.out⟩, B2, B3, HO2, HO3⟩
                case round =>
                  clear HP HF B2 B3 HMnV HO2 HO3
                  obtain ⟨acc4, x, a_, e_, Ao4, co4, rfl, HI, HA, HO4, HP, HF, B2, B3, HO2, HO3⟩ := hrel
                  have q2 := HP.out.c2
                  cases gk with
                  | zero =>
                    have d2 : decide (x < nV) = false := decide_eq_false (by have := HI.out; omega)
                    have hA := HA.out
                    unfold manyL at hA
                    simp only [Option.some.injEq, Prod.mk.injEq] at hA
                    obtain ⟨rfl, rfl, rfl⟩ := hA
                    clear HA
                    go_wp2
                    go_meet
                    case rel => exact ⟨Ao4, co4, HO4, HP, HF, B2, B3, HO2, HO3⟩
                  | succ k1 =>
                    have d2 : decide (x < nV) = true := decide_eq_true (by have := HI.out; omega)
                    have hA := HA.out
                    unfold manyL at hA
                    clear HA
                    by_cases c3 : e_ = 0
                    rotate_left
                    · rw [if_neg c3] at hA
                      simp only [Option.some.injEq, Prod.mk.injEq] at hA
                      obtain ⟨rfl, rfl, rfl⟩ := hA
                      have d3a : (e_ == 0) = false := beq_eq_false_iff_ne.mpr c3
                      have d3b : (e_ != 0) = true := bne_iff_ne.mpr c3
                      clear c3
                      go_wp2
                      go_meet
                      case rel => exact ⟨Ao4, co4, HO4, HP, HF, B2, B3, HO2, HO3⟩
                    rw [if_pos c3] at hA
                    subst c3
                    obtain ⟨⟨x_, a2, f2_⟩, h2, hA⟩ := Option.bind_eq_some_iff.mp hA
                    have H2 := Aside0.mk h2
                    have HA := Aside0.mk hA
                    clear h2 hA
                    have hw : wrap64 (x + 1) = x + 1 := by have := HI.out; have := HNnV.out; unfold wrap64; omega
                    have HW := Aside0.mk hw
                    clear hw
                    have h2 := H2.out
                    unfold wordT at h2
                    obtain ⟨⟨r0, a3, e3⟩, hg, h2⟩ := Option.bind_eq_some_iff.mp h2
                    simp only [Option.some.injEq, Prod.mk.injEq] at h2
                    obtain ⟨hx_, rfl, rfl⟩ := h2
                    have HG := Aside0.mk hg
                    have HX := Aside0.mk (show IntKind.u16.wrap r0 = x_ from hx_)
                    clear hg hx_ H2
                    obtain ⟨B1, hB1⟩ : ∃ B_ : Nat, B_ = wr.heap.size := ⟨_, rfl⟩
                    have LT8 := Aside0.mk (show ∀ k, (Value.slice Ao4 acc4.length co4).ownBlock = some k → k < B1 by rw [hB1]; exact Kd.R_lt HO4.out)
                    have LG1 := Aside0.mk (show g < B1 by rw [hB1]; exact HP.out.lt)
                    have L21 := Aside0.mk (show n2 < B1 by rw [hB1]; exact blk_lt B2.out)
                    have L31 := Aside0.mk (show n3 < B1 by rw [hB1]; exact blk_lt B3.out)
                    have LB1 := Aside0.mk (show B ≤ B1 by rw [hB1, HBn.out]; exact blk_lt B3.out)
                    obtain ⟨q30, q31, q32, q33, q34, q35⟩ := cells6 B3.out
                    obtain ⟨f30, f31, f32, f33, f34, f35⟩ := froz6 B3.out
                    have LBW := Aside0.mk (show B ≤ wr.heap.size by rw [HBn.out]; exact blk_lt B3.out)
                    have hx_ := HX.out
                    subst hx_
                    go_upto_region 40 with (fail)
                    go_region_law (first | (refine Kd.R_append_step (Kd.int .u16) (w0 := w8) B (by kernel_rfl) (.tmp 200) (.tmp 204) 35 23 (.int .u16 0) 2 rfl Try.underlying35 minfo23 rfl (by decide) (by omega) _ acc4 (IntKind.u16.wrap r0) [.int .u16 (IntKind.u16.wrap r0)] (fun _ => True) (fun k => B1 ≤ k) rfl rfl ?aP ?aK (fun _ _ => trivial) ?aO ?aB ?aS ?aL ?_; (case aP => exact rfl); (case aK => exact fun k hk => ⟨trivial, fun h_ => absurd (LT8.out k h_.symm) (Nat.not_lt.mpr hk)⟩); (case aO => exact HO4.out); (case aB => exact Below.refl _ _); (case aS => exact LB8.out); (case aL => have := HI.out; omega); intro v41 w41 ho hb hg hat; obtain ⟨An, cn, en⟩ := Kd.R_slice ho; subst en; have n0_ := Aside0.mk ho; have n1_ := Aside0.mk (HP.out.step LG.out hb); have n2_ := Aside0.mk (HF.out.step LW.out hb); have n3_ := Aside0.mk ((hb.block _ L2.out).trans B2.out); have n4_ := Aside0.mk ((hb.block _ L3.out).trans B3.out); have mHO2_ := Aside0.mk (Kd.R_over HO2.out HO4.out (by decide) hg); have mHO3_ := Aside0.mk (Kd.R_over HO3.out HO4.out (by decide) hg); clear HO4 HP HF B2 B3 q30 f30 q31 f31 q32 f32 q33 f33 q34 f34 q35 f35 HO2 HO3; have HO4 := n0_; have HP := n1_; have HF := n2_; have B2 := n3_; have B3 := n4_; have HO2 := mHO2_; clear mHO2_; have HO3 := mHO3_; clear mHO3_; clear n0_ n1_ n2_ n3_ n4_ ho hb hg hat; obtain ⟨q30, q31, q32, q33, q34, q35⟩ := cells6 B3.out; obtain ⟨f30, f31, f32, f33, f34, f35⟩ := froz6 B3.out) | (go_simp; go_at_call 23; (with_reducible refine (numberT_ok w0 b Ab cb g a_ 0 2 r0 a3 e3 _ ?s1 HG.out).mono ?_); (case s1 => with_reducible exact HP.out.drew); rintro y w8 ⟨rfl, hp, hf⟩; have n2b_ := Aside0.mk (blk_but (blk_drew B2.out) NG2.out.symm hf); have n3b_ := Aside0.mk (blk_but (blk_drew B3.out) NG3.out.symm hf); have mHO2_ := Aside0.mk (R_but (Kd.R_drew HO2.out) LG.out hf); have mHO3_ := Aside0.mk (R_but (Kd.R_drew HO3.out) LG.out hf); have mHO4_ := Aside0.mk (R_but (Kd.R_drew HO4.out) LG.out hf); have n0_ := Aside0.mk hp; have n1_ := Aside0.mk (HF.out.drew.trans hf); have LB8 := Aside0.mk (show B ≤ w8.heap.size from Nat.le_trans LB1.out (by rw [hB1]; exact hf.size)); clear HP HF hp hf B2 B3 q30 f30 q31 f31 q32 f32 q33 f33 q34 f34 q35 f35 HO2 HO3 HO4; have HP := n0_; have HF := n1_; have B2 := n2b_; have B3 := n3b_; have HO2 := mHO2_; have HO3 := mHO3_; have HO4 := mHO4_; clear n0_ n1_ n2b_ n3b_ mHO2_ mHO3_ mHO4_; obtain ⟨q30, q31, q32, q33, q34, q35⟩ := cells6 B3.out; obtain ⟨f30, f31, f32, f33, f34, f35⟩ := froz6 B3.out; have qa4 : ∀ o_ : Obj, (w8.alloc o_).cell? ⟨n3, 4, none⟩ = some (.slice Ao4 acc4.length co4) := fun o_ => (blk_cell (blk_alloc B3.out o_) 4).trans rfl; (try dsimp only)))
                    all_goals (
                      go_wp2
                      go_roundg k1
                      case measure => omega
                      case rel => exact ⟨acc4 ++ [(IntKind.u16.wrap r0)], x + 1, a3, e3, An, cn, by rw [HW.out], ⟨by have := HI.out; simp only [List.length_append, List.length_cons, List.length_nil]; omega⟩, HA, ⟨R_setold HO4.out L3.out _ _⟩, ⟨HP.out.setNew NG3.out Z3.out _ _⟩, ⟨HF.out.setNew G3.out _ _⟩, ⟨blk_far (p := ⟨n3, _, none⟩) B2.out N23.out _⟩, ⟨by rw [List.length_append, List.length_singleton]; exact (blk_set B3.out 4 _).trans rfl⟩, ⟨R_setold HO2.out L3.out _ _⟩, ⟨R_setold HO3.out L3.out _ _⟩⟩)
              case rest =>
                clear HP HF B2 B3 HMnV HO2 HO3
                obtain ⟨Ao4, co4, HO4, HP, HF, B2, B3, HO2, HO3⟩ := hcut
                obtain ⟨q30, q31, q32, q33, q34, q35⟩ := cells6 B3.out
                obtain ⟨f30, f31, f32, f33, f34, f35⟩ := froz6 B3.out
                obtain ⟨q20, q21, q22, q23, q24, q25⟩ := cells6 B2.out
                obtain ⟨f20, f21, f22, f23, f24, f25⟩ := froz6 B2.out
                obtain ⟨q30, q31, q32, q33, q34, q35⟩ := cells6 B3.out
                obtain ⟨f30, f31, f32, f33, f34, f35⟩ := froz6 B3.out
                go_wp2
                (try simp only [Exit.inBlock, Exit.then])
                refine bodyPost_ret (results_single rfl (.cell n2 38 #[.int .u8 (t1 % 256), .int .u16 (IntKind.u16.wrap s0), .slice Ao2 ls.length co2, .slice Ao3 lt.length co3, .slice Ao4 lv.length co4, .slice none 0 0] (0, 0) _ rfl ((blk_set (blk_set (blk_set (blk_set (blk_set (blk_set B2.out 0 _) 1 _) 2 _) 3 _) 4 _) 5 _).trans rfl) Try.underlying38 rfl (by kernel_rfl) .nil)) rfl ?_
                exact ⟨_, _, _, _, rfl, Kd.R_lower (by repeat (with_reducible first | exact HO2.out | refine R_setold ?_ L2.out _ _)) LW.out, Kd.R_lower (by repeat (with_reducible first | exact HO3.out | refine R_setold ?_ L2.out _ _)) LW.out, Kd.R_lower (by repeat (with_reducible first | exact HO4.out | refine R_setold ?_ L2.out _ _)) LW.out, Kd.R_nil _ _ _ _ _, by repeat (with_reducible first | exact HP.out | refine Tk.setNew ?_ NG2.out Z2.out _ _ | refine Tk.setNew ?_ NG3.out Z3.out _ _ | refine Tk.setNew ?_ NG6.out Z6.out _ _ | refine Tk.alloc ?_ _ | refine Tk.drewN ?_ _ | refine Tk.drew ?_), by repeat (with_reducible first | exact HF.out | refine But.set ?_ _ _ | refine But.setNew ?_ G2.out _ _ | refine But.setNew ?_ G3.out _ _ | refine But.setNew ?_ G6.out _ _ | refine But.alloc ?_ _ | refine But.drewN ?_ _ | refine But.drew ?_)⟩
/-- May's contract, whichever function tells it. -/
def MayC (may : S38 → Option Bool) : Prop := ∀ (x : S38) (A2 : Option Addr) (c2 : Nat) (A3 : Option Addr) (c3 : Nat) (A4 : Option Addr) (c4 : Nat) (A5 : Option Addr) (c5 : Nat) (r : Bool) (w : World), Kd.C k41 w A2 x.f2.length x.f2 → x.f2.length ≤ c2 → Kd.C k44 w A3 x.f3.length x.f3 → x.f3.length ≤ c3 → Kd.C (Kd.int .u16) w A4 x.f4.length x.f4 → x.f4.length ≤ c4 → Kd.C k66 w A5 x.f5.length x.f5 → x.f5.length ≤ c5 → may x = some r →
  Calls Try.prog 16 #[.agg #[.int .u8 x.f0, .int .u16 x.f1, .slice A2 x.f2.length c2, .slice A3 x.f3.length c3, .slice A4 x.f4.length c4, .slice A5 x.f5.length c5]] w fun e w' => e = .returned (.bool r) ∧ Below w.heap.size w w'
set_option maxHeartbeats 16000000 in
set_option maxRecDepth 100000 in
theorem refGet_ok (may : S38 → Option Bool) (hmay : MayC may) (A0 : Option Addr) (c0 : Nat) (l0 : List Int) (r1 : List S38) (r2 : Int) (w : World) (hr0 : Kd.C (Kd.int .u8) w A0 l0.length l0) (hc0 : l0.length ≤ c0) (h : getT8 may l0 = some (r1, r2)) :
    Calls Try.prog 12 #[.slice A0 l0.length c0] w fun e w' => ∃ v : Value, e = .returned (.tuple #[v, .int .i64 r2]) ∧ Kd.R k38 38 w' w.heap.size (fun _ => True) v r1 ∧ Below w.heap.size w w' := by
  have HMAY := Aside0.mk hmay
  clear hmay
  have HR0 := Aside0.mk hr0
  clear hr0
  have HC0 := Aside0.mk hc0
  clear hc0
  have HB := Aside0.mk (Below.refl w.heap.size w)
  have hu22 := Try.underlying22
  have hu24 := Try.underlying24
  have hu38 := Try.underlying38
  have hu41 := Try.underlying41
  have hu44 := Try.underlying44
  have hu62 := Try.underlying62
  have hu66 := Try.underlying66
  unfold getT8 at h
  obtain ⟨⟨n, at1, e1⟩, h1, h⟩ := Option.bind_eq_some_iff.mp h
  have H1 := Aside0.mk h1
  clear h1
  replace h : (if e1 = 0 ∧ n > 64 then some (([] : List S38), (3 : Int)) else if 0 ≤ n ∧ n ≤ 255 then (manyL (nextT may l0) n.toNat [] at1 e1).bind fun l => some (if l.2.2 = 0 then (if l.2.1 < (l0.length : Int) then ([], 5) else (l.1, 0)) else ([], l.2.2)) else none) = some (r1, r2) := h
  have HH := Aside0.mk h
  clear h
  go_enter Try.func12, Try.ntmps12
  go_upto_region 3 with (first | ((with_reducible refine gate_dst (N := 11) rfl ?_); refine zbox (N := 11) (cs := #[.slice A0 l0.length c0, .int .i64 0, .int .i64 0]) (t := 62) ?_; intro g hg w1 hbox hb; have HP := Aside0.mk (show Tk w l0 A0 c0 w1 g 0 0 from ⟨hbox, HC0.out, by rw [hg]; exact below_size (zb), HR0.out, below_step (zb) hb⟩); clear HB hb hg hbox) | (go_at_call 23; (with_reducible refine (numberT_ok w l0 A0 c0 g 0 0 1 n at1 e1 _ ?s1 H1.out).mono ?_); (case s1 => exact HP.out); rintro y w2 ⟨rfl, hp, hf⟩; clear HP hf; have HP := Aside0.mk hp; clear hp))
  obtain ⟨B, hB⟩ : ∃ B_ : Nat, B_ = g + 1 := ⟨_, rfl⟩
  have LG := Aside0.mk (show g < B by omega)
  have LW := Aside0.mk (show w.heap.size ≤ B by have := HP.out.base; omega)
  have HBg := Aside0.mk hB
  clear hB
  have h := HH.out
  clear HH
  have q2 := HP.out.c2
  by_cases c1 : e1 = 0 ∧ n > 64
  · rw [if_pos c1] at h
    simp only [Option.some.injEq, Prod.mk.injEq] at h
    obtain ⟨rfl, rfl⟩ := h
    obtain ⟨rfl, c2⟩ := c1
    have c2b : decide (64 < n) = true := decide_eq_true c2
    clear c2
    go_wp2
    (try simp only [Exit.inBlock, Exit.then])
    refine bodyPost_ret (results_list (rs := [.tmp 2, .tmp 3]) rfl (by simp) (.tmp (.tmp .nil))) rfl ?_
    exact ⟨_, rfl, Kd.R_nil _ _ _ _ _, HP.out.fr⟩
  rw [if_neg c1] at h
  by_cases cn : 0 ≤ n ∧ n ≤ 255
  rotate_left
  · rw [if_neg cn] at h
    cases h
  rw [if_pos cn] at h
  have HN := Aside0.mk cn
  clear cn
  obtain ⟨⟨ls, at3, e3⟩, hm, h⟩ := Option.bind_eq_some_iff.mp h
  replace h : some (if e3 = 0 then (if at3 < (l0.length : Int) then (([] : List S38), (5 : Int)) else (ls, 0)) else ([], e3)) = some (r1, r2) := h
  have HM := Aside0.mk hm
  have HH := Aside0.mk h
  have C1 := Aside0.mk c1
  clear hm h c1
  go_cut [22] from 14 to 22 (fun v22 wc => v22 = .bool false ∧ Aside0 (Tk w l0 A0 c0 wc g at1 e1))
  case first =>
    by_cases c2 : e1 = 0
    · subst c2
      have c3 : ¬ (n > 64) := fun h_ => C1.out ⟨rfl, h_⟩
      have c3b : decide (64 < n) = false := decide_eq_false c3
      clear c3
      go_wp2
      go_meet
      case rel => exact ⟨rfl, HP⟩
    · have c3a : (e1 == 0) = false := beq_eq_false_iff_ne.mpr c2
      have c3b : (e1 != 0) = true := bne_iff_ne.mpr c2
      clear c2
      go_wp2
      go_meet
      case rel => exact ⟨rfl, HP⟩
  case rest =>
    clear HP q2
    obtain ⟨rfl, HP⟩ := hcut
    go_wp2
    go_loopg [6, 7] n.toNat (fun kq v6 v7 w' => ∃ (acc : List S38) (x a_ e_ : Int), v7 = .int .i64 x ∧ Aside0 (0 ≤ x ∧ (kq : Int) + x = n ∧ acc.length + kq ≤ 255) ∧ Aside0 (manyL (nextT may l0) kq acc a_ e_ = some (ls, at3, e3)) ∧ Aside0 (Kd.R k38 38 w' B (fun _ => True) v6 acc) ∧ Aside0 (Tk w l0 A0 c0 w' g a_ e_))
    case atStart => exact ⟨[], 0, at1, e1, rfl, ⟨by have := HN.out; simp; omega⟩, HM, ⟨Kd.R_nil _ _ _ _ _⟩, ⟨HP.out⟩⟩
    case round =>
      clear HP HM
      obtain ⟨acc, x, a_, e_, rfl, HI, HA, HO, HP⟩ := hrel
      obtain ⟨Ao, co, eo⟩ := Kd.R_slice HO.out
      subst eo
      have q2 := HP.out.c2
      cases gk with
      | zero =>
        have d2 : decide (x < n) = false := decide_eq_false (by have := HI.out; omega)
        have hA := HA.out
        unfold manyL at hA
        simp only [Option.some.injEq, Prod.mk.injEq] at hA
        obtain ⟨rfl, rfl, rfl⟩ := hA
        clear HA
        have h := HH.out
        clear HH
        by_cases c3 : e_ = 0
        · subst c3
          rw [if_pos rfl] at h
          have q1 := HP.out.c1
          by_cases c5 : a_ < (l0.length : Int)
          · rw [if_pos c5] at h
            simp only [Option.some.injEq, Prod.mk.injEq] at h
            obtain ⟨rfl, rfl⟩ := h
            have c5b : decide (a_ < (l0.length : Int)) = true := decide_eq_true c5
            clear c5
            go_wp2
            (try simp only [Exit.inBlock, Exit.then])
            refine bodyPost_ret (results_list (rs := [.tmp 2, .tmp 3]) rfl (by simp) (.tmp (.tmp .nil))) rfl ?_
            exact ⟨_, rfl, Kd.R_nil _ _ _ _ _, HP.out.fr⟩
          · rw [if_neg c5] at h
            simp only [Option.some.injEq, Prod.mk.injEq] at h
            obtain ⟨rfl, rfl⟩ := h
            have c5b : decide (a_ < (l0.length : Int)) = false := decide_eq_false c5
            clear c5
            go_wp2
            (try simp only [Exit.inBlock, Exit.then])
            refine bodyPost_ret (results_list (rs := [.tmp 2, .tmp 3]) rfl (by simp) (.tmp (.tmp .nil))) rfl ?_
            exact ⟨_, rfl, Kd.R_lower HO.out LW.out, HP.out.fr⟩
        · skip
          rw [if_neg c3] at h
          simp only [Option.some.injEq, Prod.mk.injEq] at h
          obtain ⟨rfl, rfl⟩ := h
          have d3a : (e_ == 0) = false := beq_eq_false_iff_ne.mpr c3
          have d3b : (e_ != 0) = true := bne_iff_ne.mpr c3
          clear c3
          go_wp2
          (try go_region)
          all_goals ((try go_wp2); (try go_region); (try go_wp2); (try simp only [Exit.inBlock, Exit.then]); refine bodyPost_ret (results_list (rs := [.tmp 2, .tmp 3]) rfl (by simp) (.tmp (.tmp .nil))) rfl ?_; exact ⟨_, rfl, Kd.R_nil _ _ _ _ _, by repeat (with_reducible first | exact HP.out.fr | exact HP.out.drew.fr | apply below_drew1)⟩)
      | succ k1 =>
        have d2 : decide (x < n) = true := decide_eq_true (by have := HI.out; omega)
        have hA := HA.out
        unfold manyL at hA
        clear HA
        by_cases c3 : e_ = 0
        rotate_left
        · rw [if_neg c3] at hA
          simp only [Option.some.injEq, Prod.mk.injEq] at hA
          obtain ⟨rfl, rfl, rfl⟩ := hA
          have h := HH.out
          clear HH
          rw [if_neg c3] at h
          simp only [Option.some.injEq, Prod.mk.injEq] at h
          obtain ⟨rfl, rfl⟩ := h
          have d3a : (e_ == 0) = false := beq_eq_false_iff_ne.mpr c3
          have d3b : (e_ != 0) = true := bne_iff_ne.mpr c3
          clear c3
          go_wp2
          (try go_region)
          all_goals ((try go_wp2); (try go_region); (try go_wp2); (try simp only [Exit.inBlock, Exit.then]); refine bodyPost_ret (results_list (rs := [.tmp 2, .tmp 3]) rfl (by simp) (.tmp (.tmp .nil))) rfl ?_; exact ⟨_, rfl, Kd.R_nil _ _ _ _ _, by repeat (with_reducible first | exact HP.out.fr | exact HP.out.drew.fr | apply below_drew1)⟩)
        rw [if_pos c3] at hA
        subst c3
        obtain ⟨⟨x_, a2, f2_⟩, h2, hA⟩ := Option.bind_eq_some_iff.mp hA
        have HA := Aside0.mk hA
        clear hA
        have hw : wrap64 (x + 1) = x + 1 := by have := HI.out; have := HN.out; unfold wrap64; omega
        have HW := Aside0.mk hw
        clear hw
        unfold nextT at h2
        obtain ⟨⟨cx, a3, e3_⟩, hc, h3⟩ := Option.bind_eq_some_iff.mp h2
        clear h2
        have HCX := Aside0.mk hc
        clear hc
        replace h3 : (if e3_ = 0 then (may cx).bind fun m => some (cx, a3, if m = true then (0 : Int) else 5) else some (cx, a3, e3_)) = some (x_, a2, f2_) := h3
        have HX := Aside0.mk h3
        clear h3
        obtain ⟨B1, hB1⟩ : ∃ B_ : Nat, B_ = wr.heap.size := ⟨_, rfl⟩
        have LT8 := Aside0.mk (show ∀ k, (Value.slice Ao acc.length co).ownBlock = some k → k < B1 by rw [hB1]; exact Kd.R_lt HO.out)
        have LG1 := Aside0.mk (show g < B1 by rw [hB1]; exact HP.out.lt)
        have LB1 := Aside0.mk (show B ≤ B1 by rw [hB1, HBg.out]; exact HP.out.lt)
        go_upto_region 10 with (first | (go_at_call 24; (with_reducible refine (classT_ok w l0 A0 c0 g a_ 0 cx a3 e3_ _ ?s1 HCX.out).mono ?_); (case s1 => exact HP.out); rintro y w3 ⟨v2, v3, v4, v5, rfl, r2_, r3_, r4_, r5_, hp, hf⟩; obtain ⟨Ao2, co2, eo2⟩ := Kd.R_slice r2_; subst eo2; rw [← hB1] at r2_; have HR2 := Aside0.mk r2_; clear r2_; obtain ⟨Ao3, co3, eo3⟩ := Kd.R_slice r3_; subst eo3; rw [← hB1] at r3_; have HR3 := Aside0.mk r3_; clear r3_; obtain ⟨Ao4, co4, eo4⟩ := Kd.R_slice r4_; subst eo4; rw [← hB1] at r4_; have HR4 := Aside0.mk r4_; clear r4_; obtain ⟨Ao5, co5, eo5⟩ := Kd.R_slice r5_; subst eo5; rw [← hB1] at r5_; have HR5 := Aside0.mk r5_; clear r5_; have n0_ := Aside0.mk hp; have n1_ := Aside0.mk (R_but HO.out LG.out hf); have LS3 := Aside0.mk (show B1 ≤ w3.heap.size by rw [hB1]; exact hf.size); clear HP HO hp hf q2; have HP := n0_; have HO := n1_; clear n0_ n1_) | ((with_reducible refine gate_dst (N := 8) rfl ?_); refine zbox (N := 8) (cs := #[.int .u8 0, .int .u16 0, .slice none 0 0, .slice none 0 0, .slice none 0 0, .slice none 0 0]) (t := 38) ?_; intro n8 hg w4 hbox hb; have NG8 := Aside0.mk (show g ≠ n8 by rw [hg]; exact Nat.ne_of_lt HP.out.lt); have Z8 := Aside0.mk (show w.heap.size ≤ n8 by rw [hg]; exact HP.out.fr.size); have mHO_ := Aside0.mk (show Kd.R k38 38 w4 B (fun k => k < n8) (.slice Ao acc.length co) acc by rw [hg]; exact Kd.R_below (Kd.R_mono (Kd.R_bound HO.out) (fun k hk => hk.2.2.1)) hb); have mHR2_ := Aside0.mk (show Kd.R k41 41 w4 B1 (fun k => k < n8) (.slice Ao2 cx.f2.length co2) cx.f2 by rw [hg]; exact Kd.R_below (Kd.R_mono (Kd.R_bound HR2.out) (fun k hk => hk.2.2.1)) hb); have mHR3_ := Aside0.mk (show Kd.R k44 44 w4 B1 (fun k => k < n8) (.slice Ao3 cx.f3.length co3) cx.f3 by rw [hg]; exact Kd.R_below (Kd.R_mono (Kd.R_bound HR3.out) (fun k hk => hk.2.2.1)) hb); have mHR4_ := Aside0.mk (show Kd.R (Kd.int .u16) 23 w4 B1 (fun k => k < n8) (.slice Ao4 cx.f4.length co4) cx.f4 by rw [hg]; exact Kd.R_below (Kd.R_mono (Kd.R_bound HR4.out) (fun k hk => hk.2.2.1)) hb); have mHR5_ := Aside0.mk (show Kd.R k66 66 w4 B1 (fun k => k < n8) (.slice Ao5 cx.f5.length co5) cx.f5 by rw [hg]; exact Kd.R_below (Kd.R_mono (Kd.R_bound HR5.out) (fun k hk => hk.2.2.1)) hb); have n0_ := Aside0.mk (HP.out.below hb); have B8 := Aside0.mk hbox; clear HP HO HR2 HR3 HR4 HR5 hb hg hbox; have HP := n0_; have HO := mHO_; have HR2 := mHR2_; have HR3 := mHR3_; have HR4 := mHR4_; have HR5 := mHR5_; clear n0_ mHO_ mHR2_ mHR3_ mHR4_ mHR5_; obtain ⟨q80, q81, q82, q83, q84, q85⟩ := cells6 B8.out; obtain ⟨f80, f81, f82, f83, f84, f85⟩ := froz6 B8.out))
        obtain ⟨w5, hw5⟩ : ∃ W_ : World, W_ = ((((((w4.setCell ⟨n8, 0, none⟩ (.int .u8 cx.f0)).setCell ⟨n8, 1, none⟩ (.int .u16 cx.f1)).setCell ⟨n8, 2, none⟩ (.slice Ao2 cx.f2.length co2)).setCell ⟨n8, 3, none⟩ (.slice Ao3 cx.f3.length co3)).setCell ⟨n8, 4, none⟩ (.slice Ao4 cx.f4.length co4)).setCell ⟨n8, 5, none⟩ (.slice Ao5 cx.f5.length co5)) := ⟨_, rfl⟩
        rw [← hw5]
        have n0_ := Aside0.mk (show Tk w l0 A0 c0 w5 g a3 e3_ by rw [hw5]; exact ((((((HP.out.setNew NG8.out Z8.out _ _).setNew NG8.out Z8.out _ _).setNew NG8.out Z8.out _ _).setNew NG8.out Z8.out _ _).setNew NG8.out Z8.out _ _).setNew NG8.out Z8.out _ _))
        have n8b_ := Aside0.mk (show w5.heap[n8]? = some (.cells #[.int .u8 cx.f0, .int .u16 cx.f1, .slice Ao2 cx.f2.length co2, .slice Ao3 cx.f3.length co3, .slice Ao4 cx.f4.length co4, .slice Ao5 cx.f5.length co5] 38 (0, 0)) by rw [hw5]; exact (blk_set (blk_set (blk_set (blk_set (blk_set (blk_set B8.out 0 _) 1 _) 2 _) 3 _) 4 _) 5 _).trans rfl)
        have mHO_ := Aside0.mk (show Kd.R k38 38 w5 B (fun _ => True) (.slice Ao acc.length co) acc by rw [hw5]; exact Kd.R_mono (Kd.R_far (p := ⟨n8, 5, none⟩) (Kd.R_far (p := ⟨n8, 4, none⟩) (Kd.R_far (p := ⟨n8, 3, none⟩) (Kd.R_far (p := ⟨n8, 2, none⟩) (Kd.R_far (p := ⟨n8, 1, none⟩) (Kd.R_far (p := ⟨n8, 0, none⟩) HO.out (fun k hk => Nat.ne_of_lt hk) _) (fun k hk => Nat.ne_of_lt hk) _) (fun k hk => Nat.ne_of_lt hk) _) (fun k hk => Nat.ne_of_lt hk) _) (fun k hk => Nat.ne_of_lt hk) _) (fun k hk => Nat.ne_of_lt hk) _) (fun _ _ => trivial))
        have mHR2_ := Aside0.mk (show Kd.R k41 41 w5 B1 (fun _ => True) (.slice Ao2 cx.f2.length co2) cx.f2 by rw [hw5]; exact Kd.R_mono (Kd.R_far (p := ⟨n8, 5, none⟩) (Kd.R_far (p := ⟨n8, 4, none⟩) (Kd.R_far (p := ⟨n8, 3, none⟩) (Kd.R_far (p := ⟨n8, 2, none⟩) (Kd.R_far (p := ⟨n8, 1, none⟩) (Kd.R_far (p := ⟨n8, 0, none⟩) HR2.out (fun k hk => Nat.ne_of_lt hk) _) (fun k hk => Nat.ne_of_lt hk) _) (fun k hk => Nat.ne_of_lt hk) _) (fun k hk => Nat.ne_of_lt hk) _) (fun k hk => Nat.ne_of_lt hk) _) (fun k hk => Nat.ne_of_lt hk) _) (fun _ _ => trivial))
        have mHR3_ := Aside0.mk (show Kd.R k44 44 w5 B1 (fun _ => True) (.slice Ao3 cx.f3.length co3) cx.f3 by rw [hw5]; exact Kd.R_mono (Kd.R_far (p := ⟨n8, 5, none⟩) (Kd.R_far (p := ⟨n8, 4, none⟩) (Kd.R_far (p := ⟨n8, 3, none⟩) (Kd.R_far (p := ⟨n8, 2, none⟩) (Kd.R_far (p := ⟨n8, 1, none⟩) (Kd.R_far (p := ⟨n8, 0, none⟩) HR3.out (fun k hk => Nat.ne_of_lt hk) _) (fun k hk => Nat.ne_of_lt hk) _) (fun k hk => Nat.ne_of_lt hk) _) (fun k hk => Nat.ne_of_lt hk) _) (fun k hk => Nat.ne_of_lt hk) _) (fun k hk => Nat.ne_of_lt hk) _) (fun _ _ => trivial))
        have mHR4_ := Aside0.mk (show Kd.R (Kd.int .u16) 23 w5 B1 (fun _ => True) (.slice Ao4 cx.f4.length co4) cx.f4 by rw [hw5]; exact Kd.R_mono (Kd.R_far (p := ⟨n8, 5, none⟩) (Kd.R_far (p := ⟨n8, 4, none⟩) (Kd.R_far (p := ⟨n8, 3, none⟩) (Kd.R_far (p := ⟨n8, 2, none⟩) (Kd.R_far (p := ⟨n8, 1, none⟩) (Kd.R_far (p := ⟨n8, 0, none⟩) HR4.out (fun k hk => Nat.ne_of_lt hk) _) (fun k hk => Nat.ne_of_lt hk) _) (fun k hk => Nat.ne_of_lt hk) _) (fun k hk => Nat.ne_of_lt hk) _) (fun k hk => Nat.ne_of_lt hk) _) (fun k hk => Nat.ne_of_lt hk) _) (fun _ _ => trivial))
        have mHR5_ := Aside0.mk (show Kd.R k66 66 w5 B1 (fun _ => True) (.slice Ao5 cx.f5.length co5) cx.f5 by rw [hw5]; exact Kd.R_mono (Kd.R_far (p := ⟨n8, 5, none⟩) (Kd.R_far (p := ⟨n8, 4, none⟩) (Kd.R_far (p := ⟨n8, 3, none⟩) (Kd.R_far (p := ⟨n8, 2, none⟩) (Kd.R_far (p := ⟨n8, 1, none⟩) (Kd.R_far (p := ⟨n8, 0, none⟩) HR5.out (fun k hk => Nat.ne_of_lt hk) _) (fun k hk => Nat.ne_of_lt hk) _) (fun k hk => Nat.ne_of_lt hk) _) (fun k hk => Nat.ne_of_lt hk) _) (fun k hk => Nat.ne_of_lt hk) _) (fun k hk => Nat.ne_of_lt hk) _) (fun _ _ => trivial))
        clear HP HO HR2 HR3 HR4 HR5 B8 hw5 q80 q81 q82 q83 q84 q85 f80 f81 f82 f83 f84 f85
        have HP := n0_
        have B8 := n8b_
        have HO := mHO_
        have HR2 := mHR2_
        have HR3 := mHR3_
        have HR4 := mHR4_
        have HR5 := mHR5_
        clear n0_ n8b_ mHO_ mHR2_ mHR3_ mHR4_ mHR5_
        have h3 := HX.out
        clear HX
        have q2 := HP.out.c2
        obtain ⟨q80, q81, q82, q83, q84, q85⟩ := cells6 B8.out
        obtain ⟨f80, f81, f82, f83, f84, f85⟩ := froz6 B8.out
        by_cases c4 : e3_ = 0
        rotate_left
        · rw [if_neg c4] at h3
          simp only [Option.some.injEq, Prod.mk.injEq] at h3
          obtain ⟨rfl, rfl, rfl⟩ := h3
          have d4a : (e3_ == 0) = false := beq_eq_false_iff_ne.mpr c4
          have d4b : (e3_ != 0) = true := bne_iff_ne.mpr c4
          clear c4
          have LBX := Aside0.mk (show B ≤ w5.heap.size by rw [HBg.out]; exact HP.out.lt)
          go_wp2_with (first | ((with_reducible refine gate_builtin (b := .append) (xs := #[.tmp 50, .tmp 52]) rfl ?_); at_builtin; refine Kd.R_append k38 (w0 := w5) B rfl (.tmp 50) (.tmp 52) 22 38 (.agg #[.int .u8 0, .int .u16 0, .slice none 0 0, .slice none 0 0, .slice none 0 0, .slice none 0 0]) 104 rfl Try.underlying22 minfo38 rfl (by decide) (by omega) _ acc cx [.int .u8 cx.f0, .int .u16 cx.f1, .slice Ao2 cx.f2.length co2, .slice Ao3 cx.f3.length co3, .slice Ao4 cx.f4.length co4, .slice Ao5 cx.f5.length co5] (fun _ => True) (fun k => B1 ≤ k) rfl rfl ?aP ?aK (fun _ _ => trivial) ?aO ?aB ?aS ?aL ?_; (case aP => exact k38_mkM _ _ _ cx (Kd.R_lower (Kd.R_mono (Kd.R_bound HR2.out) (fun k hk => hk.2.1)) LB1.out) (Kd.R_lower (Kd.R_mono (Kd.R_bound HR3.out) (fun k hk => hk.2.1)) LB1.out) (Kd.R_lower (Kd.R_mono (Kd.R_bound HR4.out) (fun k hk => hk.2.1)) LB1.out) (Kd.R_lower (Kd.R_mono (Kd.R_bound HR5.out) (fun k hk => hk.2.1)) LB1.out)); (case aK => exact fun k hk => ⟨trivial, fun h_ => absurd (LT8.out k h_.symm) (Nat.not_lt.mpr hk)⟩); (case aO => exact HO.out); (case aB => exact Below.refl _ _); (case aS => exact LBX.out); (case aL => have := HI.out; omega); intro v41 w41 ho hb hg hat; have n0_ := Aside0.mk ho; have n1_ := Aside0.mk (HP.out.step LG.out hb); clear HO HP B8 HR2 HR3 HR4 HR5 q2 q80 q81 q82 q83 q84 q85 f80 f81 f82 f83 f84 f85; have HO := n0_; have HP := n1_; clear n0_ n1_ ho hb hg hat))
          go_roundg k1
          case measure => omega
          case rel => exact ⟨acc ++ [cx], x + 1, a3, e3_, by rw [HW.out], ⟨by have := HI.out; simp only [List.length_append, List.length_cons, List.length_nil]; omega⟩, HA, ⟨HO.out⟩, ⟨HP.out⟩⟩
        rw [if_pos c4] at h3
        subst c4
        obtain ⟨m, hm, h3⟩ := Option.bind_eq_some_iff.mp h3
        simp only [Option.some.injEq, Prod.mk.injEq] at h3
        obtain ⟨rfl, rfl, he_⟩ := h3
        have HMY := Aside0.mk hm
        clear hm
        cases m with
        | true =>
          replace he_ : (0 : Int) = f2_ := he_
          subst he_
          go_upto_region 12 with (first | (go_at_call 16; have hm_ := HMAY.out cx Ao2 co2 Ao3 co3 Ao4 co4 Ao5 co5 true w5 (Kd.R_reads' HR2.out).2.2 (Kd.R_reads' HR2.out).2.1 (Kd.R_reads' HR3.out).2.2 (Kd.R_reads' HR3.out).2.1 (Kd.R_reads' HR4.out).2.2 (Kd.R_reads' HR4.out).2.1 (Kd.R_reads' HR5.out).2.2 (Kd.R_reads' HR5.out).2.1 HMY.out; (with_reducible refine hm_.mono ?_); clear hm_; rintro y w6 ⟨rfl, hb⟩; have n8b_ := Aside0.mk (blk_below B8.out hb); have mHO_ := Aside0.mk (Kd.R_below HO.out hb); have mHR2_ := Aside0.mk (Kd.R_below HR2.out hb); have mHR3_ := Aside0.mk (Kd.R_below HR3.out hb); have mHR4_ := Aside0.mk (Kd.R_below HR4.out hb); have mHR5_ := Aside0.mk (Kd.R_below HR5.out hb); have n0_ := Aside0.mk (HP.out.below hb); clear HP B8 hb q2 q80 q81 q82 q83 q84 q85 f80 f81 f82 f83 f84 f85 HO HR2 HR3 HR4 HR5; have HP := n0_; have B8 := n8b_; have HO := mHO_; clear mHO_; have HR2 := mHR2_; clear mHR2_; have HR3 := mHR3_; clear mHR3_; have HR4 := mHR4_; clear mHR4_; have HR5 := mHR5_; clear mHR5_; clear n0_ n8b_; have q2 := HP.out.c2; have f2 := HP.out.fz 2; obtain ⟨q80, q81, q82, q83, q84, q85⟩ := cells6 B8.out; obtain ⟨f80, f81, f82, f83, f84, f85⟩ := froz6 B8.out))
          clear f2
          have LBX := Aside0.mk (show B ≤ w6.heap.size by rw [HBg.out]; exact HP.out.lt)
          go_wp2_with (first | ((with_reducible refine gate_builtin (b := .append) (xs := #[.tmp 50, .tmp 52]) rfl ?_); at_builtin; refine Kd.R_append k38 (w0 := w6) B rfl (.tmp 50) (.tmp 52) 22 38 (.agg #[.int .u8 0, .int .u16 0, .slice none 0 0, .slice none 0 0, .slice none 0 0, .slice none 0 0]) 104 rfl Try.underlying22 minfo38 rfl (by decide) (by omega) _ acc cx [.int .u8 cx.f0, .int .u16 cx.f1, .slice Ao2 cx.f2.length co2, .slice Ao3 cx.f3.length co3, .slice Ao4 cx.f4.length co4, .slice Ao5 cx.f5.length co5] (fun _ => True) (fun k => B1 ≤ k) rfl rfl ?aP ?aK (fun _ _ => trivial) ?aO ?aB ?aS ?aL ?_; (case aP => exact k38_mkM _ _ _ cx (Kd.R_lower (Kd.R_mono (Kd.R_bound HR2.out) (fun k hk => hk.2.1)) LB1.out) (Kd.R_lower (Kd.R_mono (Kd.R_bound HR3.out) (fun k hk => hk.2.1)) LB1.out) (Kd.R_lower (Kd.R_mono (Kd.R_bound HR4.out) (fun k hk => hk.2.1)) LB1.out) (Kd.R_lower (Kd.R_mono (Kd.R_bound HR5.out) (fun k hk => hk.2.1)) LB1.out)); (case aK => exact fun k hk => ⟨trivial, fun h_ => absurd (LT8.out k h_.symm) (Nat.not_lt.mpr hk)⟩); (case aO => exact HO.out); (case aB => exact Below.refl _ _); (case aS => exact LBX.out); (case aL => have := HI.out; omega); intro v41 w41 ho hb hg hat; have n0_ := Aside0.mk ho; have n1_ := Aside0.mk (HP.out.step LG.out hb); clear HO HP B8 HR2 HR3 HR4 HR5 q2 q80 q81 q82 q83 q84 q85 f80 f81 f82 f83 f84 f85; have HO := n0_; have HP := n1_; clear n0_ n1_ ho hb hg hat))
          go_roundg k1
          case measure => omega
          case rel => exact ⟨acc ++ [cx], x + 1, a3, 0, by rw [HW.out], ⟨by have := HI.out; simp only [List.length_append, List.length_cons, List.length_nil]; omega⟩, HA, ⟨HO.out⟩, ⟨HP.out⟩⟩
        | false =>
          replace he_ : (5 : Int) = f2_ := he_
          subst he_
          go_upto_region 12 with (first | (go_at_call 16; have hm_ := HMAY.out cx Ao2 co2 Ao3 co3 Ao4 co4 Ao5 co5 false w5 (Kd.R_reads' HR2.out).2.2 (Kd.R_reads' HR2.out).2.1 (Kd.R_reads' HR3.out).2.2 (Kd.R_reads' HR3.out).2.1 (Kd.R_reads' HR4.out).2.2 (Kd.R_reads' HR4.out).2.1 (Kd.R_reads' HR5.out).2.2 (Kd.R_reads' HR5.out).2.1 HMY.out; (with_reducible refine hm_.mono ?_); clear hm_; rintro y w6 ⟨rfl, hb⟩; have n8b_ := Aside0.mk (blk_below B8.out hb); have mHO_ := Aside0.mk (Kd.R_below HO.out hb); have mHR2_ := Aside0.mk (Kd.R_below HR2.out hb); have mHR3_ := Aside0.mk (Kd.R_below HR3.out hb); have mHR4_ := Aside0.mk (Kd.R_below HR4.out hb); have mHR5_ := Aside0.mk (Kd.R_below HR5.out hb); have n0_ := Aside0.mk (HP.out.below hb); clear HP B8 hb q2 q80 q81 q82 q83 q84 q85 f80 f81 f82 f83 f84 f85 HO HR2 HR3 HR4 HR5; have HP := n0_; have B8 := n8b_; have HO := mHO_; clear mHO_; have HR2 := mHR2_; clear mHR2_; have HR3 := mHR3_; clear mHR3_; have HR4 := mHR4_; clear mHR4_; have HR5 := mHR5_; clear mHR5_; clear n0_ n8b_; have q2 := HP.out.c2; have f2 := HP.out.fz 2; obtain ⟨q80, q81, q82, q83, q84, q85⟩ := cells6 B8.out; obtain ⟨f80, f81, f82, f83, f84, f85⟩ := froz6 B8.out))
          clear q2 f2
          obtain ⟨w7, hw7⟩ : ∃ W_ : World, W_ = (w6.setCell ⟨g, 2, none⟩ (.int .i64 5)) := ⟨_, rfl⟩
          rw [← hw7]
          have n0_ := Aside0.mk (show Tk w l0 A0 c0 w7 g a3 5 by rw [hw7]; exact HP.out.set2 5)
          have n8b_ := Aside0.mk (show w7.heap[n8]? = some (.cells #[.int .u8 cx.f0, .int .u16 cx.f1, .slice Ao2 cx.f2.length co2, .slice Ao3 cx.f3.length co3, .slice Ao4 cx.f4.length co4, .slice Ao5 cx.f5.length co5] 38 (0, 0)) by rw [hw7]; exact blk_far (p := ⟨g, 2, none⟩) B8.out NG8.out.symm _)
          have mHO_ := Aside0.mk (show Kd.R k38 38 w7 B (fun _ => True) (.slice Ao acc.length co) acc by rw [hw7]; exact R_setold HO.out LG.out _ _)
          have mHR2_ := Aside0.mk (show Kd.R k41 41 w7 B1 (fun _ => True) (.slice Ao2 cx.f2.length co2) cx.f2 by rw [hw7]; exact R_setold HR2.out LG1.out _ _)
          have mHR3_ := Aside0.mk (show Kd.R k44 44 w7 B1 (fun _ => True) (.slice Ao3 cx.f3.length co3) cx.f3 by rw [hw7]; exact R_setold HR3.out LG1.out _ _)
          have mHR4_ := Aside0.mk (show Kd.R (Kd.int .u16) 23 w7 B1 (fun _ => True) (.slice Ao4 cx.f4.length co4) cx.f4 by rw [hw7]; exact R_setold HR4.out LG1.out _ _)
          have mHR5_ := Aside0.mk (show Kd.R k66 66 w7 B1 (fun _ => True) (.slice Ao5 cx.f5.length co5) cx.f5 by rw [hw7]; exact R_setold HR5.out LG1.out _ _)
          clear HP B8 hw7 q80 q81 q82 q83 q84 q85 f80 f81 f82 f83 f84 f85 HO HR2 HR3 HR4 HR5
          have HP := n0_
          have B8 := n8b_
          have HO := mHO_
          have HR2 := mHR2_
          have HR3 := mHR3_
          have HR4 := mHR4_
          have HR5 := mHR5_
          clear n0_ n8b_ mHO_ mHR2_ mHR3_ mHR4_ mHR5_
          have q2 := HP.out.c2
          obtain ⟨q80, q81, q82, q83, q84, q85⟩ := cells6 B8.out
          obtain ⟨f80, f81, f82, f83, f84, f85⟩ := froz6 B8.out
          have LBX := Aside0.mk (show B ≤ w7.heap.size by rw [HBg.out]; exact HP.out.lt)
          go_wp2_with (first | ((with_reducible refine gate_builtin (b := .append) (xs := #[.tmp 50, .tmp 52]) rfl ?_); at_builtin; refine Kd.R_append k38 (w0 := w7) B rfl (.tmp 50) (.tmp 52) 22 38 (.agg #[.int .u8 0, .int .u16 0, .slice none 0 0, .slice none 0 0, .slice none 0 0, .slice none 0 0]) 104 rfl Try.underlying22 minfo38 rfl (by decide) (by omega) _ acc cx [.int .u8 cx.f0, .int .u16 cx.f1, .slice Ao2 cx.f2.length co2, .slice Ao3 cx.f3.length co3, .slice Ao4 cx.f4.length co4, .slice Ao5 cx.f5.length co5] (fun _ => True) (fun k => B1 ≤ k) rfl rfl ?aP ?aK (fun _ _ => trivial) ?aO ?aB ?aS ?aL ?_; (case aP => exact k38_mkM _ _ _ cx (Kd.R_lower (Kd.R_mono (Kd.R_bound HR2.out) (fun k hk => hk.2.1)) LB1.out) (Kd.R_lower (Kd.R_mono (Kd.R_bound HR3.out) (fun k hk => hk.2.1)) LB1.out) (Kd.R_lower (Kd.R_mono (Kd.R_bound HR4.out) (fun k hk => hk.2.1)) LB1.out) (Kd.R_lower (Kd.R_mono (Kd.R_bound HR5.out) (fun k hk => hk.2.1)) LB1.out)); (case aK => exact fun k hk => ⟨trivial, fun h_ => absurd (LT8.out k h_.symm) (Nat.not_lt.mpr hk)⟩); (case aO => exact HO.out); (case aB => exact Below.refl _ _); (case aS => exact LBX.out); (case aL => have := HI.out; omega); intro v41 w41 ho hb hg hat; have n0_ := Aside0.mk ho; have n1_ := Aside0.mk (HP.out.step LG.out hb); clear HO HP B8 HR2 HR3 HR4 HR5 q2 q80 q81 q82 q83 q84 q85 f80 f81 f82 f83 f84 f85; have HO := n0_; have HP := n1_; clear n0_ n1_ ho hb hg hat))
          go_roundg k1
          case measure => omega
          case rel => exact ⟨acc ++ [cx], x + 1, a3, 5, by rw [HW.out], ⟨by have := HI.out; simp only [List.length_append, List.length_cons, List.length_nil]; omega⟩, HA, ⟨HO.out⟩, ⟨HP.out⟩⟩
def may8 (x : S38) : Option Bool := garderoberef08_May.f 2000 x.f0 x.f1 x.f2 x.f3 x.f4 x.f5
theorem mayC8 : MayC may8 := fun x A2 c2 A3 c3 A4 c4 A5 c5 r w h2 l2 h3 l3 h4 l4 h5 l5 h => garderoberef08_May.calls 2000 x.f0 x.f1 A2 c2 x.f2 A3 c3 x.f3 A4 c4 x.f4 A5 c5 x.f5 r w h2 l2 h3 l3 h4 l4 h5 l5 h
def garderoberef08_Get.f (_k : Nat) (l0 : List Int) : Option ((List (S38)) × Int) := getT8 may8 l0
set_option maxHeartbeats 8000000 in
set_option maxRecDepth 100000 in
theorem garderoberef08_Get.calls (k : Nat) (A0 : Option Addr) (c0 : Nat) (l0 : List Int) (r1 : List (S38)) (r2 : Int) (w : World) (hr0 : Kd.C (Kd.int .u8) w A0 l0.length l0) (hc0 : l0.length ≤ c0) (h : garderoberef08_Get.f k l0 = some (r1, r2)) :
    Calls Try.prog 12 #[.slice A0 l0.length c0] w fun e w' => ∃ v0_ : Value, e = .returned (.tuple #[v0_, .int .i64 r2]) ∧ Kd.R k38 38 w' w.heap.size (fun _ => True) v0_ r1 ∧ Below w.heap.size w w' := by
  exact refGet_ok _ mayC8 A0 c0 l0 r1 r2 w hr0 hc0 h
def garderoberef00_Same.l0 : Nat → List Int → List Int → Int → Option (Bool)
  | 0, _, _, _ => none
  | k + 1, x0, x1, x5 => if x5 < (x0.length : Int) then (if 0 ≤ x5 then (if x5 < (x1.length : Int) then (if (rd x0 x5) = (rd x1 x5) then (garderoberef00_Same.l0 k x0 x1 (wrap64 (x5 + 1))) else (some false)) else (none)) else (none)) else (some true)
def garderoberef00_Same.f (k : Nat) (l0 : List Int) (l1 : List Int) : Option (Bool) := if (l0.length : Int) = (l1.length : Int) then (garderoberef00_Same.l0 k l0 l1 0) else (some false)
set_option maxHeartbeats 8000000 in
set_option maxRecDepth 100000 in
theorem garderoberef00_Same.calls (k : Nat) (A0 : Option Addr) (c0 : Nat) (l0 : List Int) (A1 : Option Addr) (c1 : Nat) (l1 : List Int) (r : Bool) (w : World) (hr0 : Kd.C (Kd.int .u8) w A0 l0.length l0) (hc0 : l0.length ≤ c0) (hr1 : Kd.C (Kd.int .u8) w A1 l1.length l1) (hc1 : l1.length ≤ c1) (h : garderoberef00_Same.f k l0 l1 = some r) :
    Calls Try.prog 18 #[.slice A0 l0.length c0, .slice A1 l1.length c1] w fun e w' => e = .returned (.bool r) ∧ Drawn0 w w' := by
  have HR0 := Aside0.mk hr0
  have HC0 := Aside0.mk hc0
  clear hr0 hc0
  have HR1 := Aside0.mk hr1
  have HC1 := Aside0.mk hc1
  clear hr1 hc1
  have H : (if (l0.length : Int) = (l1.length : Int) then (garderoberef00_Same.l0 k l0 l1 0) else (some false)) = some r := h
  clear h
  by_cases c3 : (l0.length : Int) = (l1.length : Int)
  · rw [if_pos c3] at H
    have c3b0 : ((l0.length : Int) == (l1.length : Int)) = true := beq_iff_eq.mpr c3
    have c3b1 : ((l0.length : Int) != (l1.length : Int)) = false := bne_eq_false_iff_eq.mpr c3
    have c3b2 : (l0.length == l1.length) = true := by first | simpa using c3 | (simp at c3 ⊢; omega)
    clear c3
    have H' := Aside0.mk H
    clear H
    go_enter Try.func18, Try.ntmps18
    go_wp2
    repeat (go_quiet (fail); try go_wp2)
    go_loopg [5] k (fun kq v5 w' => ∃ (x5_1 : Int), v5 = .int .i64 x5_1 ∧ Aside0 (garderoberef00_Same.l0 kq l0 l1 x5_1 = some r) ∧ Aside0 (kq ≤ k) ∧ Drawn0 w w')
    case atStart => exact ⟨(0), zs, H', ⟨Nat.le_refl _⟩, by repeat (first | exact Drawn0.refl _ | apply Drawn0.step)⟩
    case round =>
      clear H'
      try clear c1
      try clear p2
      try clear c3
      try clear c3b0
      try clear c3b1
      try clear c3b2
      obtain ⟨x5_1, rfl, HA, HK1, ⟨m1, rfl⟩⟩ := hrel
      cases gk with
      | zero => exact absurd HA.out (by simp [garderoberef00_Same.l0])
      | succ k1 =>
        have H := HA.out
        clear HA
        simp only [garderoberef00_Same.l0] at H
        by_cases c4 : x5_1 < (l0.length : Int)
        · rw [if_pos c4] at H
          have c4b0 : decide (x5_1 < (l0.length : Int)) = true := decide_eq_true c4
          clear c4
          by_cases c5 : 0 ≤ x5_1
          · rw [if_pos c5] at H
            have c5b0 : decide (0 ≤ x5_1) = true := decide_eq_true c5
            clear c5
            by_cases c6 : x5_1 < (l1.length : Int)
            · rw [if_pos c6] at H
              have c6b0 : decide (x5_1 < (l1.length : Int)) = true := decide_eq_true c6
              clear c6
              by_cases c7 : (rd l0 x5_1) = (rd l1 x5_1)
              · rw [if_pos c7] at H
                have c7b0 : ((rd l0 x5_1) == (rd l1 x5_1)) = true := beq_iff_eq.mpr c7
                have c7b1 : ((rd l0 x5_1) != (rd l1 x5_1)) = false := bne_eq_false_iff_eq.mpr c7
                clear c7
                have H' := Aside0.mk H
                clear H
                have p368 : 0 ≤ (x5_1 : Int) := of_decide_eq_true (by first | (with_reducible assumption) | assumption)
                have q368 : x5_1 < (l0.length : Int) := of_decide_eq_true (by first | (with_reducible assumption) | assumption)
                obtain ⟨ad368, e368, hx368_0⟩ := Kd.at_int HR0.out x5_1 p368 q368
                cases e368
                replace p368 := eq_true p368
                replace q368 := eq_true q368
                have p369 : 0 ≤ (x5_1 : Int) := of_decide_eq_true (by first | (with_reducible assumption) | assumption)
                have q369 : x5_1 < (l1.length : Int) := of_decide_eq_true (by first | (with_reducible assumption) | assumption)
                obtain ⟨ad369, e369, hx369_0⟩ := Kd.at_int HR1.out x5_1 p369 q369
                cases e369
                replace p369 := eq_true p369
                replace q369 := eq_true q369
                go_wp2
                repeat (go_quiet (fail); try go_wp2)
                go_roundg k1
                case measure => have := HK1.out; omega
                case rel => exact ⟨(wrap64 (x5_1 + 1)), zs, H', ⟨by have := HK1.out; omega⟩, by repeat (first | exact Drawn0.refl _ | apply Drawn0.step)⟩
              · rw [if_neg c7] at H
                have c7b0 : ((rd l0 x5_1) == (rd l1 x5_1)) = false := beq_eq_false_iff_ne.mpr c7
                have c7b1 : ((rd l0 x5_1) != (rd l1 x5_1)) = true := bne_iff_ne.mpr c7
                obtain rfl := Option.some.inj H
                have p368 : 0 ≤ (x5_1 : Int) := of_decide_eq_true (by first | (with_reducible assumption) | assumption)
                have q368 : x5_1 < (l0.length : Int) := of_decide_eq_true (by first | (with_reducible assumption) | assumption)
                obtain ⟨ad368, e368, hx368_0⟩ := Kd.at_int HR0.out x5_1 p368 q368
                cases e368
                replace p368 := eq_true p368
                replace q368 := eq_true q368
                have p369 : 0 ≤ (x5_1 : Int) := of_decide_eq_true (by first | (with_reducible assumption) | assumption)
                have q369 : x5_1 < (l1.length : Int) := of_decide_eq_true (by first | (with_reducible assumption) | assumption)
                obtain ⟨ad369, e369, hx369_0⟩ := Kd.at_int HR1.out x5_1 p369 q369
                cases e369
                replace p369 := eq_true p369
                replace q369 := eq_true q369
                go_wp2
                repeat (go_quiet (fail); try go_wp2)
                go_ret
                exact ⟨by first | rfl | (simp; done) | (simp [*]; done), by repeat (first | exact Drawn0.refl _ | apply Drawn0.step)⟩
            · rw [if_neg c6] at H
              exact absurd H (by simp)
          · rw [if_neg c5] at H
            exact absurd H (by simp)
        · rw [if_neg c4] at H
          have c4b0 : decide (x5_1 < (l0.length : Int)) = false := decide_eq_false c4
          clear c4
          obtain rfl := Option.some.inj H
          go_wp2
          repeat (go_quiet (fail); try go_wp2)
          go_ret
          exact ⟨by first | rfl | (simp; done) | (simp [*]; done), by repeat (first | exact Drawn0.refl _ | apply Drawn0.step)⟩
  · rw [if_neg c3] at H
    have c3b0 : ((l0.length : Int) == (l1.length : Int)) = false := beq_eq_false_iff_ne.mpr c3
    have c3b1 : ((l0.length : Int) != (l1.length : Int)) = true := bne_iff_ne.mpr c3
    have c3b2 : (l0.length == l1.length) = false := by first | simpa using c3 | (simp at c3 ⊢; omega)
    obtain rfl := Option.some.inj H
    go_enter Try.func18, Try.ntmps18
    go_wp2
    repeat (go_quiet (fail); try go_wp2)
    go_ret
    exact ⟨by first | rfl | (simp; done) | (simp [*]; done), by repeat (first | exact Drawn0.refl _ | apply Drawn0.step)⟩
def garderoberef00_Left.f (_k : Nat) (l0 : List Int) (l1 : List Int) : Option (Bool) := if l0 = l1 ∧ l0.length ≤ 140737488355328 then some true else none
set_option maxHeartbeats 8000000 in
set_option maxRecDepth 100000 in
theorem garderoberef00_Left.calls (k : Nat) (A0 : Option Addr) (c0 : Nat) (l0 : List Int) (A1 : Option Addr) (c1 : Nat) (l1 : List Int) (r : Bool) (w : World) (hr0 : Kd.C (Kd.int .u8) w A0 l0.length l0) (hc0 : l0.length ≤ c0) (hr1 : Kd.C (Kd.int .u8) w A1 l1.length l1) (hc1 : l1.length ≤ c1) (hlong : (Kd.int .u8).C w A0 (l0.length + 3) (l0 ++ [7, 7, 7])) (hc3 : l0.length + 3 ≤ c0) (h : garderoberef00_Left.f k l0 l1 = some r) :
    Calls Try.prog 13 #[.slice A0 l0.length c0, .slice A1 l1.length c1] w fun e w' => e = .returned (.bool r) ∧ Drawn0 w w' := by
  have hall_ : l0 = l1 ∧ l0.length ≤ 140737488355328 := by
    unfold garderoberef00_Left.f at h
    split at h
    · assumption
    · cases h
  have hr_ : r = true := by
    unfold garderoberef00_Left.f at h
    rw [if_pos hall_] at h
    exact (Option.some.inj h).symm
  subst hr_
  obtain ⟨rfl, hlen⟩ := hall_
  clear h
  have key : ∀ d i : Nat, i + d = l0.length → garderoberef00_Same.l0 (d + 1) l0 l0 (i : Int) = some true := by
    intro d
    induction d with
    | zero =>
      intro i hi
      rw [garderoberef00_Same.l0, if_neg (by omega)]
    | succ d ih =>
      intro i hi
      rw [garderoberef00_Same.l0, if_pos (by omega), if_pos (by omega), if_pos (by omega), if_pos rfl, show wrap64 ((i : Int) + 1) = ((i + 1 : Nat) : Int) from by unfold wrap64; omega]
      exact ih (i + 1) (by omega)
  have hsame : garderoberef00_Same.f (l0.length + 1) l0 l0 = some true := by
    unfold garderoberef00_Same.f
    rw [if_pos rfl]
    exact key l0.length 0 (by omega)
  clear key
  have HS := Aside0.mk hsame
  have HR0 := Aside0.mk hr0
  have HC0 := Aside0.mk hc0
  have HR1 := Aside0.mk hr1
  have HC1 := Aside0.mk hc1
  have HL := Aside0.mk hlen
  have HLG := Aside0.mk hlong
  have HL3 := Aside0.mk hc3
  obtain ⟨m3, hm3_⟩ : ∃ m_ : Nat, m_ = l0.length + 3 := ⟨_, rfl⟩
  obtain ⟨i0_, hi0_, _, hsz0_, _⟩ := info_parts info5
  have hcut : ∀ W : World, (Instr.slice 24 (.slice A0 l0.length c0) none (some (.int .i64 (m3 : Int))) (some (.int .i64 (m3 : Int)))).run Try.prog W = .ok (.slice A0 m3 m3) W := fun W => by
    have h_ := Go.Proofs.YtjbpdmkalegacaaW.Mine.upto3_of 24 5 .i64 .i64 Try.underlying24 hi0_ hsz0_ A0 l0.length c0 (m3 : Int) (by omega) (by omega) W
    simpa using h_
  clear hsame hr0 hc0 hr1 hc1 hlong hi0_ hsz0_
  have hji2 : (wrap64 ((l0.length : Int) + 3)) = (m3 : Int) := by unfold wrap64; omega
  have hji2w : (IntKind.i64.wrap ((l0.length : Int) + 3)) = (m3 : Int) := (i64_w _).trans hji2
  have c1b0 : decide ((c0 : Int) < (m3 : Int)) = false := decide_eq_false (by omega)
  have c1b2 : decide (c0 < m3) = false := decide_eq_false (by omega)
  have HM3 := Aside0.mk hm3_
  clear hlen hc3 hm3_
  go_enter Try.func13, Try.ntmps13
  go_wp2_with (first | (go_at_call 18; (with_reducible refine (garderoberef00_Same.calls (l0.length + 1) _ _ l0 _ _ l0 true _ ?side1 ?side2 ?side3 ?side4 HS.out).mono ?_); (case side1 => repeat (first | exact HR0.out | (with_reducible refine Kd.C_alloc ?_ _) | (with_reducible refine Kd.C_drewN ?_ _) | (with_reducible refine Kd.C_drew ?_))); (case side2 => exact HC0.out); (case side3 => repeat (first | exact HR1.out | (with_reducible refine Kd.C_alloc ?_ _) | (with_reducible refine Kd.C_drewN ?_ _) | (with_reducible refine Kd.C_drew ?_))); (case side4 => exact HC1.out); rintro e w' ⟨rfl, ⟨nd, rfl⟩⟩))
  go_loopg [6] 3 (fun kq v6 w' => ∃ (x6_2 : Int), v6 = .int .i64 x6_2 ∧ Aside0 ((l0.length : Int) ≤ x6_2 ∧ (kq : Int) + x6_2 = (l0.length : Int) + 3) ∧ Drawn0 w w')
  case atStart => exact ⟨(l0.length : Int), zs, ⟨by omega⟩, by first | exact ⟨_, rfl⟩ | (repeat (first | exact Drawn0.refl _ | apply Drawn0.step))⟩
  case round =>
    obtain ⟨x6_2, rfl, HA, ⟨nd2, rfl⟩⟩ := hrel
    by_cases c5 : x6_2 < (m3 : Int)
    · have c5b0 : decide (x6_2 < (m3 : Int)) = true := decide_eq_true c5
      have c5_ := Aside0.mk c5
      clear c5
      cases gk with
      | zero => exact absurd HA.out.2 (by have := c5_.out; have := HM3.out; omega)
      | succ k1 =>
        have hw_ : wrap64 (x6_2 + 1) = x6_2 + 1 := by
          have := HL.out
          have := HA.out
          unfold wrap64
          omega
        have HWW := Aside0.mk hw_
        clear hw_
        have p10 : 0 ≤ x6_2 := by have := HA.out; omega
        obtain ⟨ad169, e169, hx169_0⟩ := Kd.at_int HLG.out x6_2 p10 (by have := c5_.out; have := HM3.out; omega)
        have h7_ := Go.Proofs.YtjbpdmkalegacaaW.Mine.long_at l0 x6_2.toNat (by have := HA.out; omega) (by have := c5_.out; have := HM3.out; omega)
        rw [Int.toNat_of_nonneg p10] at h7_
        rw [h7_] at hx169_0
        cases e169
        (try simp only [add_plain] at hx169_0)
        replace p10 := eq_true p10
        have q10 := eq_true c5_.out
        go_wp2
        go_roundg k1
        case measure => omega
        case rel =>
          refine ⟨x6_2 + 1, ?_, ⟨by have := HA.out; omega⟩, ?_⟩
          · first | (rw [HWW.out]; done) | (simp only [HWW.out]; done) | (simp [HWW.out]; done) | (rw [← HWW.out])
          · first | exact ⟨_, rfl⟩ | (repeat (first | exact Drawn0.refl _ | apply Drawn0.step))
    · have c5b0 : decide (x6_2 < (m3 : Int)) = false := decide_eq_false c5
      clear c5
      go_wp2
      go_ret
      exact ⟨rfl, by first | exact ⟨_, rfl⟩ | (repeat (first | exact Drawn0.refl _ | apply Drawn0.step))⟩
def garderoberef04_Put.f (a0_0 : Int) (a0_1 : Int) : Option (List Int × Int) := (garderoberef04_May.f a0_0 a0_1).bind fun t373 => (if t373 = true then ((some (([a0_0] : List Int) : List Int)).bind fun y374 => ((garderoberef04_classed.f a0_0).bind fun t377 => (if t377 = true then ((some (([(IntKind.u16.wrap (Int.tdiv a0_1 256)) % 256, (Int.tmod a0_1 256) % 256] : List Int) : List Int)).bind fun y378 => (if y374.length + y378.length < 140737488355328 then (some ((y374 ++ y378), 0)) else (none))) else (some (y374, 0))))) else (some (([] : List Int), 2)))
set_option maxHeartbeats 8000000 in
set_option maxRecDepth 100000 in
theorem garderoberef04_Put.calls (a0_0 : Int) (a0_1 : Int) (r1 : List Int) (r2 : Int) (w : World) (h : garderoberef04_Put.f a0_0 a0_1 = some (r1, r2)) :
    Calls Try.prog 59 #[.agg #[.int .u8 a0_0, .int .u16 a0_1]] w fun e w' => ∃ v0_ : Value, e = .returned (.tuple #[v0_, .int .i64 r2]) ∧ Kd.R (Kd.int .u8) 5 w' w.heap.size (fun _ => True) v0_ r1 ∧ Below w.heap.size w w' := by
  have hu44 := Try.underlying44
  have HB := Aside0.mk (Below.refl w.heap.size w)
  have H : ((garderoberef04_May.f a0_0 a0_1).bind fun t373 => (if t373 = true then ((some (([a0_0] : List Int) : List Int)).bind fun y374 => ((garderoberef04_classed.f a0_0).bind fun t377 => (if t377 = true then ((some (([(IntKind.u16.wrap (Int.tdiv a0_1 256)) % 256, (Int.tmod a0_1 256) % 256] : List Int) : List Int)).bind fun y378 => (if y374.length + y378.length < 140737488355328 then (some ((y374 ++ y378), 0)) else (none))) else (some (y374, 0))))) else (some (([] : List Int), 2)))) = some (r1, r2) := h
  clear h
  replace H := Option.bind_eq_some_iff.mp H
  obtain ⟨t373, A20, H⟩ := H
  replace H : (if t373 = true then ((some (([a0_0] : List Int) : List Int)).bind fun y374 => ((garderoberef04_classed.f a0_0).bind fun t377 => (if t377 = true then ((some (([(IntKind.u16.wrap (Int.tdiv a0_1 256)) % 256, (Int.tmod a0_1 256) % 256] : List Int) : List Int)).bind fun y378 => (if y374.length + y378.length < 140737488355328 then (some ((y374 ++ y378), 0)) else (none))) else (some (y374, 0))))) else (some (([] : List Int), 2))) = some (r1, r2) := H
  have A2 := Aside0.mk A20
  clear A20
  by_cases c3 : t373 = true
  · subst c3
    have H1 : ((some (([a0_0] : List Int) : List Int)).bind fun y374 => ((garderoberef04_classed.f a0_0).bind fun t377 => (if t377 = true then ((some (([(IntKind.u16.wrap (Int.tdiv a0_1 256)) % 256, (Int.tmod a0_1 256) % 256] : List Int) : List Int)).bind fun y378 => (if y374.length + y378.length < 140737488355328 then (some ((y374 ++ y378), 0)) else (none))) else (some (y374, 0))))) = some (r1, r2) := by rw [if_pos rfl] at H; exact H
    clear H
    have H := H1
    clear H1
    obtain ⟨y374, hy374⟩ : ∃ y_ : List Int, y_ = (([a0_0] : List Int)) := ⟨_, rfl⟩
    replace H : ((garderoberef04_classed.f a0_0).bind fun t377 => (if t377 = true then ((some (([(IntKind.u16.wrap (Int.tdiv a0_1 256)) % 256, (Int.tmod a0_1 256) % 256] : List Int) : List Int)).bind fun y378 => (if y374.length + y378.length < 140737488355328 then (some ((y374 ++ y378), 0)) else (none))) else (some (y374, 0)))) = some (r1, r2) := by first | (rw [hy374]; with_reducible exact H) | (have H2_ := (Option.bind_some _ _).symm.trans H; rw [hy374]; with_reducible exact H2_) | (have H2_ := (Option.bind_some _ _).symm.trans H; with_reducible exact H2_) | with_reducible exact H | (rw [hy374]; exact H) | exact H
    have Ny374 := Aside0.mk hy374
    clear hy374
    replace H := Option.bind_eq_some_iff.mp H
    obtain ⟨t377, A40, H⟩ := H
    replace H : (if t377 = true then ((some (([(IntKind.u16.wrap (Int.tdiv a0_1 256)) % 256, (Int.tmod a0_1 256) % 256] : List Int) : List Int)).bind fun y378 => (if y374.length + y378.length < 140737488355328 then (some ((y374 ++ y378), 0)) else (none))) else (some (y374, 0))) = some (r1, r2) := H
    have A4 := Aside0.mk A40
    clear A40
    by_cases c5 : t377 = true
    · subst c5
      have H1 : ((some (([(IntKind.u16.wrap (Int.tdiv a0_1 256)) % 256, (Int.tmod a0_1 256) % 256] : List Int) : List Int)).bind fun y378 => (if y374.length + y378.length < 140737488355328 then (some ((y374 ++ y378), 0)) else (none))) = some (r1, r2) := by rw [if_pos rfl] at H; exact H
      clear H
      have H := H1
      clear H1
      obtain ⟨y378, hy378⟩ : ∃ y_ : List Int, y_ = (([(IntKind.u16.wrap (Int.tdiv a0_1 256)) % 256, (Int.tmod a0_1 256) % 256] : List Int)) := ⟨_, rfl⟩
      replace H : (if y374.length + y378.length < 140737488355328 then (some ((y374 ++ y378), 0)) else (none)) = some (r1, r2) := by first | (rw [hy378]; with_reducible exact H) | (have H2_ := (Option.bind_some _ _).symm.trans H; rw [hy378]; with_reducible exact H2_) | (have H2_ := (Option.bind_some _ _).symm.trans H; with_reducible exact H2_) | with_reducible exact H | (rw [hy378]; exact H) | exact H
      have Ny378 := Aside0.mk hy378
      clear hy378
      by_cases c6 : y374.length + y378.length < 140737488355328
      · rw [if_pos c6] at H
        have LMc6 := Aside0.mk c6
        clear c6
        obtain ⟨y381, hy381⟩ : ∃ y_ : List Int, y_ = (y374 ++ y378) := ⟨_, rfl⟩
        replace H : (some (y381, 0)) = some (r1, r2) := by first | (rw [hy381]; with_reducible exact H) | (have H2_ := (Option.bind_some _ _).symm.trans H; rw [hy381]; with_reducible exact H2_) | (have H2_ := (Option.bind_some _ _).symm.trans H; with_reducible exact H2_) | with_reducible exact H | (rw [hy381]; exact H) | exact H
        have Ny381 := Aside0.mk hy381
        clear hy381
        simp only [Option.some.injEq, Prod.mk.injEq] at H
        obtain ⟨rfl, rfl⟩ := H
        go_enter Try.func59, Try.ntmps59
        go_wp2_with (first | ((with_reducible refine gate_dst (N := 1) rfl ?_); refine zbox (N := 1) (cs := #[.int .u8 a0_0, .int .u16 a0_1]) (t := 44) ?_; intro gb372 hg w7 hbox hb; have n0_ := Aside0.mk (below_step (zb) hb); have n1_ := Aside0.mk (hbox); have n2_ := Aside0.mk ((by rw [hg]; exact (below_size (zb)) : w.heap.size ≤ gb372)); have n3_ := Aside0.mk ((by rw [hg]; exact (below_size (zb)) : w.heap.size ≤ gb372)); clear HB; have HB := n0_; have BK372 := n1_; have GW372 := n2_; have GE372 := n3_; clear n0_ n1_ n2_ n3_; clear hb hbox hg; obtain ⟨hcz8_0, hcz8_1⟩ := cells2 BK372.out; obtain ⟨hfz8_0, hfz8_1⟩ := froz2 BK372.out) | ((with_reducible refine gate_callee (f := 35) rfl ?_); refine goesL_ (some 6) rfl rfl Try.func35 (by kernel_rfl) rfl #[.agg #[.int .u8 a0_0, .int .u16 a0_1]] rfl zargs ?_; (with_reducible refine (garderoberef04_May.calls a0_0 a0_1 true _ A2.out).mono ?_); rintro e w9 ⟨rfl, hb⟩; refine ⟨_, rfl, ?_⟩; have n0_ := Aside0.mk (blk_below (g := gb372) (o := .cells #[.int .u8 a0_0, .int .u16 a0_1] 44 (0, 0)) zk hb); have n1_ := Aside0.mk (below_step (zb) hb); clear BK372; clear HB; have BK372 := n0_; have HB := n1_; clear n0_ n1_; (try clear hb); (try clear hb2); (try clear hk); (try clear hi); obtain ⟨hcz10_0, hcz10_1⟩ := cells2 BK372.out; obtain ⟨hfz10_0, hfz10_1⟩ := froz2 BK372.out) | ((with_reducible refine gate_dst (N := 10) rfl ?_); refine Kd.R_lit (Kd.int .u8) _ 5 ?hg (N := 10) ?hd (xs := ([a0_0] : List Int)) (inner := [.int .u8 a0_0]) (ok := fun _ => True) (okp := fun _ => True) ?hr ?hp (fun _ hk => hk) trivial (Below.refl _ _) (Nat.le_refl _) (by simp) ?_; (case hd => rfl); (case hg => rfl); (case hr => first | (go_simp; done) | (go_simp; rfl)); (case hp => exact (Reps.one (show Kd.M (Kd.int .u8) _ _ _ a0_0 [.int .u8 a0_0] from rfl) (Reps.none _ _))); intro v375 w11 ho12 hb hg_ hnew_; clear hg_ hnew_; (first | rw [← Ny374.out] at ho12 | (simp only [Int.reduceToNat] at ho12; rw [← Ny374.out] at ho12)); have n0_ := Aside0.mk (Kd.R_lower ho12 (below_size (zb))); have n1_ := Aside0.mk (blk_below (g := gb372) (o := .cells #[.int .u8 a0_0, .int .u16 a0_1] 44 (0, 0)) zk hb); have n2_ := Aside0.mk (below_step (zb) hb); clear BK372; clear HB; have HO376 := n0_; have BK372 := n1_; have HB := n2_; clear n0_ n1_ n2_; clear hb ho12; obtain ⟨hcz13_0, hcz13_1⟩ := cells2 BK372.out; obtain ⟨hfz13_0, hfz13_1⟩ := froz2 BK372.out) | ((with_reducible refine gate_callee (f := 61) rfl ?_); refine goesL_ (some 13) rfl rfl Try.func61 (by kernel_rfl) rfl #[.int .u8 a0_0] rfl zargs ?_; (with_reducible refine (garderoberef04_classed.calls a0_0 true _ A4.out).mono ?_); rintro e w' ⟨rfl, ⟨nd, rfl⟩⟩; refine ⟨_, rfl, ?_⟩) | ((with_reducible refine gate_dst (N := 23) rfl ?_); refine Kd.R_lit (Kd.int .u8) _ 5 ?hg (N := 23) ?hd (xs := ([(IntKind.u16.wrap (Int.tdiv a0_1 256)) % 256, (Int.tmod a0_1 256) % 256] : List Int)) (inner := [.int .u8 ((IntKind.u16.wrap (Int.tdiv a0_1 256)) % 256), .int .u8 ((Int.tmod a0_1 256) % 256)]) (ok := fun _ => True) (okp := fun _ => True) ?hr ?hp (fun _ hk => hk) trivial (Below.refl _ _) (Nat.le_refl _) (by simp) ?_; (case hd => rfl); (case hg => rfl); (case hr => first | (go_simp; done) | (go_simp; rfl)); (case hp => exact (Reps.one (show Kd.M (Kd.int .u8) _ _ _ ((IntKind.u16.wrap (Int.tdiv a0_1 256)) % 256) [.int .u8 ((IntKind.u16.wrap (Int.tdiv a0_1 256)) % 256)] from rfl) (Reps.one (show Kd.M (Kd.int .u8) _ _ _ ((Int.tmod a0_1 256) % 256) [.int .u8 ((Int.tmod a0_1 256) % 256)] from rfl) (Reps.none _ _)))); intro v379 w14 ho15 hb hg_ hnew_; clear hg_ hnew_; (first | rw [← Ny378.out] at ho15 | (simp only [Int.reduceToNat] at ho15; rw [← Ny378.out] at ho15)); have n0_ := Aside0.mk (Kd.R_elder' (zr HO376) (Kd.R_base ho15) hb); have n1_ := Aside0.mk (Kd.R_lower (Kd.R_new' ho15 (Kd.R_lt (zr HO376))) (below_size (zb))); have n2_ := Aside0.mk (blk_below (g := gb372) (o := .cells #[.int .u8 a0_0, .int .u16 a0_1] 44 (0, 0)) zk hb); have n3_ := Aside0.mk (below_step (zb) hb); clear HO376; clear BK372; clear HB; have HO376 := n0_; have HO380 := n1_; have BK372 := n2_; have HB := n3_; clear n0_ n1_ n2_ n3_; clear hb ho15; obtain ⟨Ao17, co17, eo17⟩ := Kd.R_slice HO380.out; subst eo17) | ((with_reducible refine gate_builtin (b := .append) (xs := #[.tmp 14, .tmp 23]) rfl ?_); at_builtin; refine Kd.R_append_rows (Kd.int .u8) (w0 := w) w.heap.size rfl (.tmp 14) (.tmp 23) 24 5 (.int .u8 0) 1 rfl Try.underlying24 info5 rfl (by decide) (by omega) v375 y374 y378 _ _ _ (fun k_ => some k_ ≠ (.slice Ao17 y378.length co17 : Value).ownBlock) (fun _ => False) rfl rfl ?aO ?aR (fun _ _ h => h) (fun _ h => h.elim) ?aF ?aB ?aS ?aL ?_; (case aR => repeat (first | exact (Kd.R_reads' HO380.out).2.2 | (with_reducible refine Kd.C_alloc ?_ _) | (with_reducible refine Kd.C_drewN ?_ _) | (with_reducible refine Kd.C_drew ?_))); (case aB => exact (zb)); (case aF => exact (fun k_ hk => Kd.fresh' (Kd.R_lt (zr HO380)) k_ hk)); (case aO => exact (by (with_reducible repeat (first | apply Kd.R_alloc | apply Kd.R_drewN | apply Kd.R_drew)); exact Kd.R_mono HO376.out (fun _ hk => hk.2))); (case aS => exact (below_size (zb))); (case aL => have := LMc6.out; omega); intro v382 w16 ho hb hg hat; rw [← Ny381.out] at ho; have n0_ := Aside0.mk (blk_grown (g := gb372) (o := .cells #[.int .u8 a0_0, .int .u16 a0_1] 44 (0, 0)) zk hg (Kd.R_ne HO376.out BK372.out (by decide))); have n1_ := Aside0.mk (Kd.R_after (ok := (fun _ => True)) (zr HO380) hg hat); have n2_ := Aside0.mk (hb); have n3_ := Aside0.mk (ho); clear BK372; clear HO380; clear HB; clear HO376; have BK372 := n0_; have HO380 := n1_; have HB := n2_; have HO383 := n3_; clear n0_ n1_ n2_ n3_; clear ho hb hg hat))
        go_ret2
        exact ⟨_, ze, by (with_reducible repeat (first | apply Kd.R_alloc | apply Kd.R_drewN | apply Kd.R_drew)); exact Kd.R_mono HO383.out (fun _ hk => trivial), zb⟩
      · rw [if_neg c6] at H
        exact absurd H (by simp)
    · replace c5 := Bool.eq_false_iff.mpr c5
      subst c5
      have H1 : (some (y374, 0)) = some (r1, r2) := by rw [if_neg (show ¬ (false = true) by decide)] at H; exact H
      clear H
      have H := H1
      clear H1
      simp only [Option.some.injEq, Prod.mk.injEq] at H
      obtain ⟨rfl, rfl⟩ := H
      go_enter Try.func59, Try.ntmps59
      go_wp2_with (first | ((with_reducible refine gate_dst (N := 1) rfl ?_); refine zbox (N := 1) (cs := #[.int .u8 a0_0, .int .u16 a0_1]) (t := 44) ?_; intro gb372 hg w18 hbox hb; have n0_ := Aside0.mk (below_step (zb) hb); have n1_ := Aside0.mk (hbox); have n2_ := Aside0.mk ((by rw [hg]; exact (below_size (zb)) : w.heap.size ≤ gb372)); have n3_ := Aside0.mk ((by rw [hg]; exact (below_size (zb)) : w.heap.size ≤ gb372)); clear HB; have HB := n0_; have BK372 := n1_; have GW372 := n2_; have GE372 := n3_; clear n0_ n1_ n2_ n3_; clear hb hbox hg; obtain ⟨hcz19_0, hcz19_1⟩ := cells2 BK372.out; obtain ⟨hfz19_0, hfz19_1⟩ := froz2 BK372.out) | ((with_reducible refine gate_callee (f := 35) rfl ?_); refine goesL_ (some 6) rfl rfl Try.func35 (by kernel_rfl) rfl #[.agg #[.int .u8 a0_0, .int .u16 a0_1]] rfl zargs ?_; (with_reducible refine (garderoberef04_May.calls a0_0 a0_1 true _ A2.out).mono ?_); rintro e w20 ⟨rfl, hb⟩; refine ⟨_, rfl, ?_⟩; have n0_ := Aside0.mk (blk_below (g := gb372) (o := .cells #[.int .u8 a0_0, .int .u16 a0_1] 44 (0, 0)) zk hb); have n1_ := Aside0.mk (below_step (zb) hb); clear BK372; clear HB; have BK372 := n0_; have HB := n1_; clear n0_ n1_; (try clear hb); (try clear hb2); (try clear hk); (try clear hi); obtain ⟨hcz21_0, hcz21_1⟩ := cells2 BK372.out; obtain ⟨hfz21_0, hfz21_1⟩ := froz2 BK372.out) | ((with_reducible refine gate_dst (N := 10) rfl ?_); refine Kd.R_lit (Kd.int .u8) _ 5 ?hg (N := 10) ?hd (xs := ([a0_0] : List Int)) (inner := [.int .u8 a0_0]) (ok := fun _ => True) (okp := fun _ => True) ?hr ?hp (fun _ hk => hk) trivial (Below.refl _ _) (Nat.le_refl _) (by simp) ?_; (case hd => rfl); (case hg => rfl); (case hr => first | (go_simp; done) | (go_simp; rfl)); (case hp => exact (Reps.one (show Kd.M (Kd.int .u8) _ _ _ a0_0 [.int .u8 a0_0] from rfl) (Reps.none _ _))); intro v375 w22 ho23 hb hg_ hnew_; clear hg_ hnew_; (first | rw [← Ny374.out] at ho23 | (simp only [Int.reduceToNat] at ho23; rw [← Ny374.out] at ho23)); have n0_ := Aside0.mk (Kd.R_lower ho23 (below_size (zb))); have n1_ := Aside0.mk (blk_below (g := gb372) (o := .cells #[.int .u8 a0_0, .int .u16 a0_1] 44 (0, 0)) zk hb); have n2_ := Aside0.mk (below_step (zb) hb); clear BK372; clear HB; have HO376 := n0_; have BK372 := n1_; have HB := n2_; clear n0_ n1_ n2_; clear hb ho23; obtain ⟨hcz24_0, hcz24_1⟩ := cells2 BK372.out; obtain ⟨hfz24_0, hfz24_1⟩ := froz2 BK372.out) | ((with_reducible refine gate_callee (f := 61) rfl ?_); refine goesL_ (some 13) rfl rfl Try.func61 (by kernel_rfl) rfl #[.int .u8 a0_0] rfl zargs ?_; (with_reducible refine (garderoberef04_classed.calls a0_0 false _ A4.out).mono ?_); rintro e w' ⟨rfl, ⟨nd, rfl⟩⟩; refine ⟨_, rfl, ?_⟩))
      go_ret2
      exact ⟨_, ze, by (with_reducible repeat (first | apply Kd.R_alloc | apply Kd.R_drewN | apply Kd.R_drew)); exact HO376.out, zb⟩
  · replace c3 := Bool.eq_false_iff.mpr c3
    subst c3
    have H1 : (some (([] : List Int), 2)) = some (r1, r2) := by rw [if_neg (show ¬ (false = true) by decide)] at H; exact H
    clear H
    have H := H1
    clear H1
    simp only [Option.some.injEq, Prod.mk.injEq] at H
    obtain ⟨rfl, rfl⟩ := H
    go_enter Try.func59, Try.ntmps59
    go_wp2_with (first | ((with_reducible refine gate_dst (N := 1) rfl ?_); refine zbox (N := 1) (cs := #[.int .u8 a0_0, .int .u16 a0_1]) (t := 44) ?_; intro gb372 hg w25 hbox hb; have n0_ := Aside0.mk (below_step (zb) hb); have n1_ := Aside0.mk (hbox); have n2_ := Aside0.mk ((by rw [hg]; exact (below_size (zb)) : w.heap.size ≤ gb372)); have n3_ := Aside0.mk ((by rw [hg]; exact (below_size (zb)) : w.heap.size ≤ gb372)); clear HB; have HB := n0_; have BK372 := n1_; have GW372 := n2_; have GE372 := n3_; clear n0_ n1_ n2_ n3_; clear hb hbox hg; obtain ⟨hcz26_0, hcz26_1⟩ := cells2 BK372.out; obtain ⟨hfz26_0, hfz26_1⟩ := froz2 BK372.out) | ((with_reducible refine gate_callee (f := 35) rfl ?_); refine goesL_ (some 6) rfl rfl Try.func35 (by kernel_rfl) rfl #[.agg #[.int .u8 a0_0, .int .u16 a0_1]] rfl zargs ?_; (with_reducible refine (garderoberef04_May.calls a0_0 a0_1 false _ A2.out).mono ?_); rintro e w27 ⟨rfl, hb⟩; refine ⟨_, rfl, ?_⟩; have n0_ := Aside0.mk (blk_below (g := gb372) (o := .cells #[.int .u8 a0_0, .int .u16 a0_1] 44 (0, 0)) zk hb); have n1_ := Aside0.mk (below_step (zb) hb); clear BK372; clear HB; have BK372 := n0_; have HB := n1_; clear n0_ n1_; (try clear hb); (try clear hb2); (try clear hk); (try clear hi)))
    go_ret2
    exact ⟨_, ze, by first | exact Kd.R_nil _ _ _ _ _ | exact Kd.N_nil _ _ _ _ _ | exact Kd.V_nil _ _ _ _ _ | exact Kd.Q_nil _ _ _ _ _ | exact Kd.S_nil _ _ _ _ _, zb⟩
end Go.Proofs.Ytjbpdmkalegacaa.PClassFresh
