-- laid by fake.py, a program of this session's, over the kit's print
import Derived.Test.YtechlmlokgjlnaaPPoolOnex0
namespace Go.Proofs.Ytechlmlokgjlnaa.PPoolOne
open Go.RowKit Go.Proofs.YtechlmlokgjlnaaW.PrintWords Go.Proofs.YtechlmlokgjlnaaW.PrintLast Go.Proofs.YtechlmlokgjlnaaW.PrintMore
attribute [local go_sem] Go.Proofs.YtechlmlokgjlnaaW.Mine.isSome_set max2_int min2_int max_two min_two max_three min_three max_four min_four   -- for this text's walks alone
set_option linter.unusedVariables false
set_option linter.unusedSimpArgs false

/-! ### pool_Split: function 7 -/
def pool_Split.f (a0 : Int) : Option (Bool × Int × Int) := if (Go.bits .and .u16 a0 32768) = 0 then (some (false, wrap64 (a0), 0)) else (some (true, (wrap64 (Go.bits .andNot .u16 a0 32768)) / 256, wrap64 (Go.bits .and .u16 a0 255)))
set_option maxHeartbeats 8000000 in
set_option maxRecDepth 100000 in
theorem pool_Split.calls (a0 : Int) (r1 : Bool) (r2 : Int) (r3 : Int) (w : World) (h : pool_Split.f a0 = some (r1, r2, r3)) :
    Calls Try.prog 7 #[.int .u16 a0] w fun e w' => e = .returned (.tuple #[.bool r1, .int .i64 r2, .int .i64 r3]) ∧ Drawn0 w w' := by
  have H : (if (Go.bits .and .u16 a0 32768) = 0 then (some (false, wrap64 (a0), 0)) else (some (true, (wrap64 (Go.bits .andNot .u16 a0 32768)) / 256, wrap64 (Go.bits .and .u16 a0 255)))) = some (r1, r2, r3) := h
  clear h
  by_cases c2 : (Go.bits .and .u16 a0 32768) = 0
  · rw [if_pos c2] at H
    have c2b0 : ((Go.bits .and .u16 a0 32768) == 0) = true := beq_iff_eq.mpr c2
    have c2b1 : ((Go.bits .and .u16 a0 32768) != 0) = false := bne_eq_false_iff_eq.mpr c2
    clear c2
    simp only [Option.some.injEq, Prod.mk.injEq] at H
    obtain ⟨rfl, rfl, rfl⟩ := H
    go_enter Try.func7, Try.ntmps7
    go_wp2
    go_ret3
    exact ⟨by first | rfl | (simp; done) | (simp [*]; done), by repeat (first | exact Drawn0.refl _ | apply Drawn0.step)⟩
  · rw [if_neg c2] at H
    have c2b0 : ((Go.bits .and .u16 a0 32768) == 0) = false := beq_eq_false_iff_ne.mpr c2
    have c2b1 : ((Go.bits .and .u16 a0 32768) != 0) = true := bne_iff_ne.mpr c2
    simp only [Option.some.injEq, Prod.mk.injEq] at H
    obtain ⟨rfl, rfl, rfl⟩ := H
    go_enter Try.func7, Try.ntmps7
    go_wp2
    go_ret3
    exact ⟨by first | rfl | (simp; done) | (simp [*]; done), by repeat (first | exact Drawn0.refl _ | apply Drawn0.step)⟩

/-! ### pool_Ref: function 9 -/
def pool_Ref.f (a0 : Bool) (a1 : Int) (a2 : Int) : Option (Int × Int) := if a0 = true then ((pool_Split.f (Go.bits .or .u16 (Go.bits .or .u16 32768 (IntKind.u16.wrap ((IntKind.u16.wrap (a1)) * 256))) (IntKind.u16.wrap (a2)))).bind fun bt101 => (if (bt101.1 != a0) = true then (some (0, 2)) else (if bt101.2.1 = a1 then (if bt101.2.2 = a2 then (some (Go.bits .or .u16 (Go.bits .or .u16 32768 (IntKind.u16.wrap ((IntKind.u16.wrap (a1)) * 256))) (IntKind.u16.wrap (a2)), 0)) else (some (0, 2))) else (some (0, 2))))) else ((pool_Split.f (IntKind.u16.wrap (a1))).bind fun bt104 => (if (bt104.1 != a0) = true then (some (0, 2)) else (if bt104.2.1 = a1 then (if bt104.2.2 = a2 then (some (IntKind.u16.wrap (a1), 0)) else (some (0, 2))) else (some (0, 2)))))
set_option maxHeartbeats 8000000 in
set_option maxRecDepth 100000 in
theorem pool_Ref.calls (a0 : Bool) (a1 : Int) (a2 : Int) (r1 : Int) (r2 : Int) (w : World) (h : pool_Ref.f a0 a1 a2 = some (r1, r2)) :
    Calls Try.prog 9 #[.bool a0, .int .i64 a1, .int .i64 a2] w fun e w' => e = .returned (.tuple #[.int .u16 r1, .int .i64 r2]) ∧ Drawn0 w w' := by
  have H : (if a0 = true then ((pool_Split.f (Go.bits .or .u16 (Go.bits .or .u16 32768 (IntKind.u16.wrap ((IntKind.u16.wrap (a1)) * 256))) (IntKind.u16.wrap (a2)))).bind fun bt101 => (if (bt101.1 != a0) = true then (some (0, 2)) else (if bt101.2.1 = a1 then (if bt101.2.2 = a2 then (some (Go.bits .or .u16 (Go.bits .or .u16 32768 (IntKind.u16.wrap ((IntKind.u16.wrap (a1)) * 256))) (IntKind.u16.wrap (a2)), 0)) else (some (0, 2))) else (some (0, 2))))) else ((pool_Split.f (IntKind.u16.wrap (a1))).bind fun bt104 => (if (bt104.1 != a0) = true then (some (0, 2)) else (if bt104.2.1 = a1 then (if bt104.2.2 = a2 then (some (IntKind.u16.wrap (a1), 0)) else (some (0, 2))) else (some (0, 2)))))) = some (r1, r2) := h
  clear h
  by_cases c4 : a0 = true
  · subst c4
    have H1 : ((pool_Split.f (Go.bits .or .u16 (Go.bits .or .u16 32768 (IntKind.u16.wrap ((IntKind.u16.wrap (a1)) * 256))) (IntKind.u16.wrap (a2)))).bind fun bt101 => (if (bt101.1 != true) = true then (some (0, 2)) else (if bt101.2.1 = a1 then (if bt101.2.2 = a2 then (some (Go.bits .or .u16 (Go.bits .or .u16 32768 (IntKind.u16.wrap ((IntKind.u16.wrap (a1)) * 256))) (IntKind.u16.wrap (a2)), 0)) else (some (0, 2))) else (some (0, 2))))) = some (r1, r2) := by rw [if_pos rfl] at H; exact H
    clear H
    have H := H1
    clear H1
    replace H := Option.bind_eq_some_iff.mp H
    obtain ⟨⟨t101, t102, t103⟩, A50, H⟩ := H
    replace H : (if (t101 != true) = true then (some (0, 2)) else (if t102 = a1 then (if t103 = a2 then (some (Go.bits .or .u16 (Go.bits .or .u16 32768 (IntKind.u16.wrap ((IntKind.u16.wrap (a1)) * 256))) (IntKind.u16.wrap (a2)), 0)) else (some (0, 2))) else (some (0, 2)))) = some (r1, r2) := H
    have A5 := Aside0.mk A50
    clear A50
    by_cases c6 : (t101 != true) = true
    · rw [if_pos c6] at H
      have c6b0 : (t101 != true) = true := c6
      (try (have c6b1 : decide (t101 = true) = false := by simpa using c6))
      (try (have c6b2 : (t101 == true) = false := by simpa using c6))
      (try (have c6b3 : ¬ (t101 = true) := by simpa using c6))
      clear c6
      simp only [Option.some.injEq, Prod.mk.injEq] at H
      obtain ⟨rfl, rfl⟩ := H
      go_enter Try.func9, Try.ntmps9
      go_wp2_with (first | ((with_reducible refine gate_callee (f := 7) rfl ?_); refine goesL_ (some 24) rfl rfl Try.func7 (by kernel_rfl) rfl #[.int .u16 (Go.bits .or .u16 (Go.bits .or .u16 32768 (IntKind.u16.wrap ((IntKind.u16.wrap (a1)) * 256))) (IntKind.u16.wrap (a2)))] rfl (by (try simp only [List.map_toArray, List.map_cons, List.map_nil]); first | done | rfl | (simp only [List.length_drop, List.length_take]; rfl)) ?_; (with_reducible refine (pool_Split.calls (Go.bits .or .u16 (Go.bits .or .u16 32768 (IntKind.u16.wrap ((IntKind.u16.wrap (a1)) * 256))) (IntKind.u16.wrap (a2))) t101 t102 t103 _ A5.out).mono ?_); rintro e w' ⟨rfl, ⟨nd, rfl⟩⟩; refine ⟨_, rfl, ?_⟩))
      go_ret2
      exact ⟨by first | rfl | (simp; done) | (simp [*]; done), by repeat (first | exact Drawn0.refl _ | apply Drawn0.step)⟩
    · rw [if_neg c6] at H
      have c6b0 : (t101 != true) = false := by simpa using c6
      (try (have c6b1 : decide (t101 = true) = true := by simpa using c6))
      (try (have c6b2 : (t101 == true) = true := by simpa using c6))
      clear c6
      by_cases c7 : t102 = a1
      · rw [if_pos c7] at H
        have c7b0 : (t102 == a1) = true := beq_iff_eq.mpr c7
        have c7b1 : (t102 != a1) = false := bne_eq_false_iff_eq.mpr c7
        clear c7
        by_cases c8 : t103 = a2
        · rw [if_pos c8] at H
          have c8b0 : (t103 == a2) = true := beq_iff_eq.mpr c8
          have c8b1 : (t103 != a2) = false := bne_eq_false_iff_eq.mpr c8
          clear c8
          simp only [Option.some.injEq, Prod.mk.injEq] at H
          obtain ⟨rfl, rfl⟩ := H
          go_enter Try.func9, Try.ntmps9
          go_wp2_with (first | ((with_reducible refine gate_callee (f := 7) rfl ?_); refine goesL_ (some 24) rfl rfl Try.func7 (by kernel_rfl) rfl #[.int .u16 (Go.bits .or .u16 (Go.bits .or .u16 32768 (IntKind.u16.wrap ((IntKind.u16.wrap (a1)) * 256))) (IntKind.u16.wrap (a2)))] rfl (by (try simp only [List.map_toArray, List.map_cons, List.map_nil]); first | done | rfl | (simp only [List.length_drop, List.length_take]; rfl)) ?_; (with_reducible refine (pool_Split.calls (Go.bits .or .u16 (Go.bits .or .u16 32768 (IntKind.u16.wrap ((IntKind.u16.wrap (a1)) * 256))) (IntKind.u16.wrap (a2))) t101 t102 t103 _ A5.out).mono ?_); rintro e w' ⟨rfl, ⟨nd, rfl⟩⟩; refine ⟨_, rfl, ?_⟩))
          go_ret2
          exact ⟨by first | rfl | (simp; done) | (simp [*]; done), by repeat (first | exact Drawn0.refl _ | apply Drawn0.step)⟩
        · rw [if_neg c8] at H
          have c8b0 : (t103 == a2) = false := beq_eq_false_iff_ne.mpr c8
          have c8b1 : (t103 != a2) = true := bne_iff_ne.mpr c8
          simp only [Option.some.injEq, Prod.mk.injEq] at H
          obtain ⟨rfl, rfl⟩ := H
          go_enter Try.func9, Try.ntmps9
          go_wp2_with (first | ((with_reducible refine gate_callee (f := 7) rfl ?_); refine goesL_ (some 24) rfl rfl Try.func7 (by kernel_rfl) rfl #[.int .u16 (Go.bits .or .u16 (Go.bits .or .u16 32768 (IntKind.u16.wrap ((IntKind.u16.wrap (a1)) * 256))) (IntKind.u16.wrap (a2)))] rfl (by (try simp only [List.map_toArray, List.map_cons, List.map_nil]); first | done | rfl | (simp only [List.length_drop, List.length_take]; rfl)) ?_; (with_reducible refine (pool_Split.calls (Go.bits .or .u16 (Go.bits .or .u16 32768 (IntKind.u16.wrap ((IntKind.u16.wrap (a1)) * 256))) (IntKind.u16.wrap (a2))) t101 t102 t103 _ A5.out).mono ?_); rintro e w' ⟨rfl, ⟨nd, rfl⟩⟩; refine ⟨_, rfl, ?_⟩))
          go_ret2
          exact ⟨by first | rfl | (simp; done) | (simp [*]; done), by repeat (first | exact Drawn0.refl _ | apply Drawn0.step)⟩
      · rw [if_neg c7] at H
        have c7b0 : (t102 == a1) = false := beq_eq_false_iff_ne.mpr c7
        have c7b1 : (t102 != a1) = true := bne_iff_ne.mpr c7
        simp only [Option.some.injEq, Prod.mk.injEq] at H
        obtain ⟨rfl, rfl⟩ := H
        go_enter Try.func9, Try.ntmps9
        go_wp2_with (first | ((with_reducible refine gate_callee (f := 7) rfl ?_); refine goesL_ (some 24) rfl rfl Try.func7 (by kernel_rfl) rfl #[.int .u16 (Go.bits .or .u16 (Go.bits .or .u16 32768 (IntKind.u16.wrap ((IntKind.u16.wrap (a1)) * 256))) (IntKind.u16.wrap (a2)))] rfl (by (try simp only [List.map_toArray, List.map_cons, List.map_nil]); first | done | rfl | (simp only [List.length_drop, List.length_take]; rfl)) ?_; (with_reducible refine (pool_Split.calls (Go.bits .or .u16 (Go.bits .or .u16 32768 (IntKind.u16.wrap ((IntKind.u16.wrap (a1)) * 256))) (IntKind.u16.wrap (a2))) t101 t102 t103 _ A5.out).mono ?_); rintro e w' ⟨rfl, ⟨nd, rfl⟩⟩; refine ⟨_, rfl, ?_⟩))
        go_ret2
        exact ⟨by first | rfl | (simp; done) | (simp [*]; done), by repeat (first | exact Drawn0.refl _ | apply Drawn0.step)⟩
  · replace c4 := Bool.eq_false_iff.mpr c4
    subst c4
    have H1 : ((pool_Split.f (IntKind.u16.wrap (a1))).bind fun bt104 => (if (bt104.1 != false) = true then (some (0, 2)) else (if bt104.2.1 = a1 then (if bt104.2.2 = a2 then (some (IntKind.u16.wrap (a1), 0)) else (some (0, 2))) else (some (0, 2))))) = some (r1, r2) := by rw [if_neg (show ¬ (false = true) by decide)] at H; exact H
    clear H
    have H := H1
    clear H1
    replace H := Option.bind_eq_some_iff.mp H
    obtain ⟨⟨t104, t105, t106⟩, A90, H⟩ := H
    replace H : (if (t104 != false) = true then (some (0, 2)) else (if t105 = a1 then (if t106 = a2 then (some (IntKind.u16.wrap (a1), 0)) else (some (0, 2))) else (some (0, 2)))) = some (r1, r2) := H
    have A9 := Aside0.mk A90
    clear A90
    by_cases c10 : (t104 != false) = true
    · rw [if_pos c10] at H
      have c10b0 : (t104 != false) = true := c10
      (try (have c10b1 : decide (t104 = false) = false := by simpa using c10))
      (try (have c10b2 : (t104 == false) = false := by simpa using c10))
      (try (have c10b3 : ¬ (t104 = false) := by simpa using c10))
      clear c10
      simp only [Option.some.injEq, Prod.mk.injEq] at H
      obtain ⟨rfl, rfl⟩ := H
      go_enter Try.func9, Try.ntmps9
      go_wp2_with (first | ((with_reducible refine gate_callee (f := 7) rfl ?_); refine goesL_ (some 24) rfl rfl Try.func7 (by kernel_rfl) rfl #[.int .u16 (IntKind.u16.wrap (a1))] rfl (by (try simp only [List.map_toArray, List.map_cons, List.map_nil]); first | done | rfl | (simp only [List.length_drop, List.length_take]; rfl)) ?_; (with_reducible refine (pool_Split.calls (IntKind.u16.wrap (a1)) t104 t105 t106 _ A9.out).mono ?_); rintro e w' ⟨rfl, ⟨nd, rfl⟩⟩; refine ⟨_, rfl, ?_⟩))
      go_ret2
      exact ⟨by first | rfl | (simp; done) | (simp [*]; done), by repeat (first | exact Drawn0.refl _ | apply Drawn0.step)⟩
    · rw [if_neg c10] at H
      have c10b0 : (t104 != false) = false := by simpa using c10
      (try (have c10b1 : decide (t104 = false) = true := by simpa using c10))
      (try (have c10b2 : (t104 == false) = true := by simpa using c10))
      clear c10
      by_cases c11 : t105 = a1
      · rw [if_pos c11] at H
        have c11b0 : (t105 == a1) = true := beq_iff_eq.mpr c11
        have c11b1 : (t105 != a1) = false := bne_eq_false_iff_eq.mpr c11
        clear c11
        by_cases c12 : t106 = a2
        · rw [if_pos c12] at H
          have c12b0 : (t106 == a2) = true := beq_iff_eq.mpr c12
          have c12b1 : (t106 != a2) = false := bne_eq_false_iff_eq.mpr c12
          clear c12
          simp only [Option.some.injEq, Prod.mk.injEq] at H
          obtain ⟨rfl, rfl⟩ := H
          go_enter Try.func9, Try.ntmps9
          go_wp2_with (first | ((with_reducible refine gate_callee (f := 7) rfl ?_); refine goesL_ (some 24) rfl rfl Try.func7 (by kernel_rfl) rfl #[.int .u16 (IntKind.u16.wrap (a1))] rfl (by (try simp only [List.map_toArray, List.map_cons, List.map_nil]); first | done | rfl | (simp only [List.length_drop, List.length_take]; rfl)) ?_; (with_reducible refine (pool_Split.calls (IntKind.u16.wrap (a1)) t104 t105 t106 _ A9.out).mono ?_); rintro e w' ⟨rfl, ⟨nd, rfl⟩⟩; refine ⟨_, rfl, ?_⟩))
          go_ret2
          exact ⟨by first | rfl | (simp; done) | (simp [*]; done), by repeat (first | exact Drawn0.refl _ | apply Drawn0.step)⟩
        · rw [if_neg c12] at H
          have c12b0 : (t106 == a2) = false := beq_eq_false_iff_ne.mpr c12
          have c12b1 : (t106 != a2) = true := bne_iff_ne.mpr c12
          simp only [Option.some.injEq, Prod.mk.injEq] at H
          obtain ⟨rfl, rfl⟩ := H
          go_enter Try.func9, Try.ntmps9
          go_wp2_with (first | ((with_reducible refine gate_callee (f := 7) rfl ?_); refine goesL_ (some 24) rfl rfl Try.func7 (by kernel_rfl) rfl #[.int .u16 (IntKind.u16.wrap (a1))] rfl (by (try simp only [List.map_toArray, List.map_cons, List.map_nil]); first | done | rfl | (simp only [List.length_drop, List.length_take]; rfl)) ?_; (with_reducible refine (pool_Split.calls (IntKind.u16.wrap (a1)) t104 t105 t106 _ A9.out).mono ?_); rintro e w' ⟨rfl, ⟨nd, rfl⟩⟩; refine ⟨_, rfl, ?_⟩))
          go_ret2
          exact ⟨by first | rfl | (simp; done) | (simp [*]; done), by repeat (first | exact Drawn0.refl _ | apply Drawn0.step)⟩
      · rw [if_neg c11] at H
        have c11b0 : (t105 == a1) = false := beq_eq_false_iff_ne.mpr c11
        have c11b1 : (t105 != a1) = true := bne_iff_ne.mpr c11
        simp only [Option.some.injEq, Prod.mk.injEq] at H
        obtain ⟨rfl, rfl⟩ := H
        go_enter Try.func9, Try.ntmps9
        go_wp2_with (first | ((with_reducible refine gate_callee (f := 7) rfl ?_); refine goesL_ (some 24) rfl rfl Try.func7 (by kernel_rfl) rfl #[.int .u16 (IntKind.u16.wrap (a1))] rfl (by (try simp only [List.map_toArray, List.map_cons, List.map_nil]); first | done | rfl | (simp only [List.length_drop, List.length_take]; rfl)) ?_; (with_reducible refine (pool_Split.calls (IntKind.u16.wrap (a1)) t104 t105 t106 _ A9.out).mono ?_); rintro e w' ⟨rfl, ⟨nd, rfl⟩⟩; refine ⟨_, rfl, ?_⟩))
        go_ret2
        exact ⟨by first | rfl | (simp; done) | (simp [*]; done), by repeat (first | exact Drawn0.refl _ | apply Drawn0.step)⟩

/-! ### pool_laid: function 23 -/
def pool_laid.j0 : Nat → Int → Bool → Option (Int)
  | 0, _, _ => none
  | k + 1, x3, x6 => if x6 = true then (some 2) else (if x3 = 5 then (some 3) else (if x3 = 6 then (some 3) else (some 0)))
def pool_laid.f (k : Nat) (a0 : Int) : Option (Int) := if a0 = 1 then (some 1) else (if a0 = 2 then (pool_laid.j0 k a0 (a0 == 2)) else (if a0 = 3 then (pool_laid.j0 k a0 (a0 == 3)) else (pool_laid.j0 k a0 (a0 == 4))))
theorem pool_laid.mono_l : ∀ k, (∀ y0 y1, LeO (pool_laid.j0 k y0 y1) (pool_laid.j0 (k + 1) y0 y1))
  | 0 => fun _ _ r h => by simp [pool_laid.j0] at h
  | k + 1 => by
    have ih0 := pool_laid.mono_l k
    · intro y0 y1
      unfold pool_laid.j0
      repeat' first
      | (with_reducible exact ih0 _ _)
      | (with_reducible exact LeO.refl _)
      | (with_reducible exact LeO.none _)
      | (with_reducible refine LeO.ite ?_ ?_)
      | (with_reducible refine LeO.bind ?_ (fun _ => ?_))
      | exact ih0 _ _
      | exact LeO.none _
      | refine LeO.ite ?_ ?_
      | refine LeO.bind ?_ (fun _ => ?_)
theorem pool_laid.mono : ∀ a0 k, LeO (pool_laid.f k a0) (pool_laid.f (k + 1) a0) := by
  intro a0 k
  have ih0 := pool_laid.mono_l k
  unfold pool_laid.f
  repeat' first
      | (with_reducible exact ih0 _ _)
      | (with_reducible exact LeO.refl _)
      | (with_reducible exact LeO.none _)
      | (with_reducible refine LeO.ite ?_ ?_)
      | (with_reducible refine LeO.bind ?_ (fun _ => ?_))
      | exact ih0 _ _
      | exact LeO.none _
      | refine LeO.ite ?_ ?_
      | refine LeO.bind ?_ (fun _ => ?_)
set_option maxHeartbeats 8000000 in
set_option maxRecDepth 100000 in
theorem pool_laid.calls (k : Nat) (a0 : Int) (r : Int) (w : World) (h : pool_laid.f k a0 = some r) :
    Calls Try.prog 23 #[.int .u8 a0] w fun e w' => e = .returned (.int .i64 r) ∧ Drawn0 w w' := by
  have H : (if a0 = 1 then (some 1) else (if a0 = 2 then (pool_laid.j0 k a0 (a0 == 2)) else (if a0 = 3 then (pool_laid.j0 k a0 (a0 == 3)) else (pool_laid.j0 k a0 (a0 == 4))))) = some r := h
  clear h
  by_cases c2 : a0 = 1
  · rw [if_pos c2] at H
    have c2b0 : (a0 == 1) = true := beq_iff_eq.mpr c2
    have c2b1 : (a0 != 1) = false := bne_eq_false_iff_eq.mpr c2
    clear c2
    obtain rfl := Option.some.inj H
    go_enter Try.func23, Try.ntmps23
    go_wp2
    go_ret
    exact ⟨by first | rfl | (simp; done) | (simp [*]; done), by repeat (first | exact Drawn0.refl _ | apply Drawn0.step)⟩
  · rw [if_neg c2] at H
    have c2b0 : (a0 == 1) = false := beq_eq_false_iff_ne.mpr c2
    have c2b1 : (a0 != 1) = true := bne_iff_ne.mpr c2
    have HC3 := Aside0.mk H
    clear H
    go_enter Try.func23, Try.ntmps23
    go_upto_if 6 with (fail)
    go_cut [6] (fun v6 wc => ∃ (kq : Nat) (x6_2 : Bool), v6 = .bool x6_2 ∧ Aside0 (pool_laid.j0 kq a0 x6_2 = some r) ∧ Aside0 (kq ≤ k) ∧ Drawn0 w wc)
    case first =>
      have H := HC3.out
      clear HC3
      by_cases c4 : a0 = 2
      · rw [if_pos c4] at H
        have c4b0 : (a0 == 2) = true := beq_iff_eq.mpr c4
        have c4b1 : (a0 != 2) = false := bne_eq_false_iff_eq.mpr c4
        clear c4
        (first | rw [c4b0] | (simp only [i64_w, i32_w]; rw [c4b0]) | skip)
        have H' := Aside0.mk H
        clear H
        go_wp2
        go_meet
        case rel => exact ⟨_, ((a0 == 2)), (by first | rfl | (simp; done) | (simp [*]; done)), H', ⟨by first | omega | exact Nat.le_refl _⟩, by repeat (first | exact Drawn0.refl _ | apply Drawn0.step)⟩
      · rw [if_neg c4] at H
        have c4b0 : (a0 == 2) = false := beq_eq_false_iff_ne.mpr c4
        have c4b1 : (a0 != 2) = true := bne_iff_ne.mpr c4
        (first | rw [c4b0] | (simp only [i64_w, i32_w]; rw [c4b0]) | skip)
        by_cases c5 : a0 = 3
        · rw [if_pos c5] at H
          have c5b0 : (a0 == 3) = true := beq_iff_eq.mpr c5
          have c5b1 : (a0 != 3) = false := bne_eq_false_iff_eq.mpr c5
          clear c5
          have H' := Aside0.mk H
          clear H
          go_wp2
          go_meet
          case rel => exact ⟨_, ((a0 == 3)), (by first | rfl | (simp; done) | (simp [*]; done)), H', ⟨by first | omega | exact Nat.le_refl _⟩, by repeat (first | exact Drawn0.refl _ | apply Drawn0.step)⟩
        · rw [if_neg c5] at H
          have c5b0 : (a0 == 3) = false := beq_eq_false_iff_ne.mpr c5
          have c5b1 : (a0 != 3) = true := bne_iff_ne.mpr c5
          have H' := Aside0.mk H
          clear H
          go_wp2
          go_meet
          case rel => exact ⟨_, ((a0 == 4)), (by first | rfl | (simp; done) | (simp [*]; done)), H', ⟨by first | omega | exact Nat.le_refl _⟩, by repeat (first | exact Drawn0.refl _ | apply Drawn0.step)⟩
    case rest =>
      clear HC3
      try clear c2
      try clear c2b0
      try clear c2b1
      try clear p2
      try clear c4
      try clear c4b0
      try clear c4b1
      try clear c5
      try clear c5b0
      try clear c5b1
      obtain ⟨kq, x6_2, rfl, HA, HJ2, ⟨mc2, rfl⟩⟩ := hcut
      cases kq with
      | zero => exact absurd HA.out (by simp [pool_laid.j0])
      | succ kj2 =>
        have H := HA.out
        clear HA
        simp only [pool_laid.j0] at H
        by_cases c6 : x6_2 = true
        · subst c6
          have H1 : (some 2) = some r := by rw [if_pos rfl] at H; exact H
          clear H
          have H := H1
          clear H1
          obtain rfl := Option.some.inj H
          go_wp2
          go_ret
          exact ⟨by first | rfl | (simp; done) | (simp [*]; done), by repeat (first | exact Drawn0.refl _ | apply Drawn0.step)⟩
        · replace c6 := Bool.eq_false_iff.mpr c6
          subst c6
          have H1 : (if a0 = 5 then (some 3) else (if a0 = 6 then (some 3) else (some 0))) = some r := by rw [if_neg (show ¬ (false = true) by decide)] at H; exact H
          clear H
          have H := H1
          clear H1
          by_cases c7 : a0 = 5
          · rw [if_pos c7] at H
            have c7b0 : (a0 == 5) = true := beq_iff_eq.mpr c7
            have c7b1 : (a0 != 5) = false := bne_eq_false_iff_eq.mpr c7
            clear c7
            obtain rfl := Option.some.inj H
            go_wp2
            go_ret
            exact ⟨by first | rfl | (simp; done) | (simp [*]; done), by repeat (first | exact Drawn0.refl _ | apply Drawn0.step)⟩
          · rw [if_neg c7] at H
            have c7b0 : (a0 == 5) = false := beq_eq_false_iff_ne.mpr c7
            have c7b1 : (a0 != 5) = true := bne_iff_ne.mpr c7
            by_cases c8 : a0 = 6
            · rw [if_pos c8] at H
              have c8b0 : (a0 == 6) = true := beq_iff_eq.mpr c8
              have c8b1 : (a0 != 6) = false := bne_eq_false_iff_eq.mpr c8
              clear c8
              obtain rfl := Option.some.inj H
              go_wp2
              go_ret
              exact ⟨by first | rfl | (simp; done) | (simp [*]; done), by repeat (first | exact Drawn0.refl _ | apply Drawn0.step)⟩
            · rw [if_neg c8] at H
              have c8b0 : (a0 == 6) = false := beq_eq_false_iff_ne.mpr c8
              have c8b1 : (a0 != 6) = true := bne_iff_ne.mpr c8
              obtain rfl := Option.some.inj H
              go_wp2
              go_ret
              exact ⟨by first | rfl | (simp; done) | (simp [*]; done), by repeat (first | exact Drawn0.refl _ | apply Drawn0.step)⟩

/-! ### pool.bytes, pool.entry: by hand -/
theorem pool_info43 : (Try.prog.info? 43).map (fun i => (i.zero, i.size, i.bytes)) = some (some (.agg #[.int .u8 0, .int .u16 0, .int .u8 0, .bool false, .int .u16 0, .int .u8 0, .int .u8 0]), 7, 10) := by kernel_rfl
def pool_lay (k : Int) : Int := if k = 1 then 1 else if k = 2 ∨ k = 3 ∨ k = 4 then 2 else if k = 5 ∨ k = 6 then 3 else 0
theorem pool_laid_eq (a : Int) : pool_laid.f 5 a = some (pool_lay a) := by
  unfold pool_laid.f pool_lay
  by_cases h1 : a = 1
  · simp [h1]
  · by_cases h2 : a = 2
    · simp [h2, pool_laid.j0]
    · by_cases h3 : a = 3
      · simp [h3, pool_laid.j0]
      · by_cases h4 : a = 4
        · simp [h4, pool_laid.j0]
        · by_cases h5 : a = 5
          · simp [h5, pool_laid.j0]
          · by_cases h6 : a = 6
            · simp [h6, pool_laid.j0]
            · simp [h1, h2, h3, h4, h5, h6, pool_laid.j0]
def pool_enc (e : S43) : Int × Int × Int × Int :=
  if pool_lay e.f0 ≠ 3 then (e.f0, e.f1 / 256 % 256, e.f1 % 256, e.f2) else if e.f3 = true then (e.f0, 0, e.f4 / 256 % 256, e.f4 % 256) else (e.f0, Go.bits .or .u8 128 e.f5, e.f6, e.f2)
set_option maxHeartbeats 8000000 in
set_option maxRecDepth 100000 in
theorem pool_bytes.calls (e : S43) (w : World) :
    Calls Try.prog 17 #[.agg #[.int .u8 e.f0, .int .u16 e.f1, .int .u8 e.f2, .bool e.f3, .int .u16 e.f4, .int .u8 e.f5, .int .u8 e.f6]] w fun x w' => x = .returned (.agg #[.int .u8 (pool_enc e).1, .int .u8 (pool_enc e).2.1, .int .u8 (pool_enc e).2.2.1, .int .u8 (pool_enc e).2.2.2]) ∧ Below w.heap.size w w' := by
  have hu44 := Try.underlying44
  have hu43 := Try.underlying43
  have hl := pool_laid_eq e.f0
  obtain ⟨f0, f1, f2, f3, f4, f5, f6⟩ := e
  obtain ⟨⟨r0, r1, r2, r3⟩, hR⟩ : ∃ r_ : Int × Int × Int × Int, r_ = pool_enc ⟨f0, f1, f2, f3, f4, f5, f6⟩ := ⟨_, rfl⟩
  rw [← hR]
  unfold pool_enc at hR
  simp only at hl hR ⊢
  obtain ⟨t, ht⟩ : ∃ t_ : Int, t_ = pool_lay f0 := ⟨_, rfl⟩
  rw [← ht] at hl hR
  clear ht
  have HL := Aside0.mk hl
  have HRR := Aside0.mk hR
  clear hl hR
  go_enter Try.func17, Try.ntmps17
  go_upto_region 3 with (fail)
  obtain ⟨W, hW⟩ : ∃ W_ : World, W_ = (((w.alloc (.cells #[.int .u8 f0, .int .u16 f1, .int .u8 f2, .bool f3, .int .u16 f4, .int .u8 f5, .int .u8 f6] 43)).alloc (.cells #[.int .u8 0, .int .u8 0, .int .u8 0, .int .u8 0] 44)).alloc (.cells #[.int .u8 f0, .int .u8 0, .int .u8 0, .int .u8 0] 44)) := ⟨_, rfl⟩
  rw [← hW]
  have hA : W.heap[w.heap.size]? = some (.cells #[.int .u8 f0, .int .u16 f1, .int .u8 f2, .bool f3, .int .u16 f4, .int .u8 f5, .int .u8 f6] 43 (0, 0)) := by rw [hW]; exact blk_alloc (blk_alloc (blk_new w _) _) _
  have hB : W.heap[w.heap.size + 1]? = some (.cells #[.int .u8 0, .int .u8 0, .int .u8 0, .int .u8 0] 44 (0, 0)) := by rw [hW]; have h := blk_alloc (blk_new (w.alloc (.cells #[.int .u8 f0, .int .u16 f1, .int .u8 f2, .bool f3, .int .u16 f4, .int .u8 f5, .int .u8 f6] 43)) (.cells #[.int .u8 0, .int .u8 0, .int .u8 0, .int .u8 0] 44)) (.cells #[.int .u8 f0, .int .u8 0, .int .u8 0, .int .u8 0] 44); simpa using h
  have hC : W.heap[w.heap.size + 1 + 1]? = some (.cells #[.int .u8 f0, .int .u8 0, .int .u8 0, .int .u8 0] 44 (0, 0)) := by rw [hW]; have h := blk_new ((w.alloc (.cells #[.int .u8 f0, .int .u16 f1, .int .u8 f2, .bool f3, .int .u16 f4, .int .u8 f5, .int .u8 f6] 43)).alloc (.cells #[.int .u8 0, .int .u8 0, .int .u8 0, .int .u8 0] 44)) (.cells #[.int .u8 f0, .int .u8 0, .int .u8 0, .int .u8 0] 44); simpa using h
  have hb : Below w.heap.size w W := by rw [hW]; exact below_alloc (below_alloc (below_alloc (Below.refl _ _) _) _) _
  clear hW
  obtain ⟨gA, hgA⟩ : ∃ g : Nat, g = w.heap.size := ⟨_, rfl⟩
  obtain ⟨gB, hgB⟩ : ∃ g : Nat, g = w.heap.size + 1 := ⟨_, rfl⟩
  obtain ⟨gC, hgC⟩ : ∃ g : Nat, g = w.heap.size + 1 + 1 := ⟨_, rfl⟩
  have nAC : gA ≠ gC := by omega
  have nAB : gA ≠ gB := by omega
  have nBC : gB ≠ gC := by omega
  have lB : Aside0 (w.heap.size ≤ gB) := ⟨by omega⟩
  have lC : Aside0 (w.heap.size ≤ gC) := ⟨by omega⟩
  rw [← hgC, ← hgB, ← hgA]
  rw [← hgA] at hA
  rw [← hgB] at hB
  rw [← hgC] at hC
  have HB := Aside0.mk hb
  clear hb hgA hgB hgC
  have a0 : W.cell? ⟨gA, 0, none⟩ = some (.int .u8 f0) := (blk_cell hA 0).trans rfl
  have a1 : W.cell? ⟨gA, 1, none⟩ = some (.int .u16 f1) := (blk_cell hA 1).trans rfl
  have a2 : W.cell? ⟨gA, 2, none⟩ = some (.int .u8 f2) := (blk_cell hA 2).trans rfl
  have a3 : W.cell? ⟨gA, 3, none⟩ = some (.bool f3) := (blk_cell hA 3).trans rfl
  have a4 : W.cell? ⟨gA, 4, none⟩ = some (.int .u16 f4) := (blk_cell hA 4).trans rfl
  have a5 : W.cell? ⟨gA, 5, none⟩ = some (.int .u8 f5) := (blk_cell hA 5).trans rfl
  have a6 : W.cell? ⟨gA, 6, none⟩ = some (.int .u8 f6) := (blk_cell hA 6).trans rfl
  have c0 : W.cell? ⟨gC, 0, none⟩ = some (.int .u8 f0) := (blk_cell hC 0).trans rfl
  have c1 : W.cell? ⟨gC, 1, none⟩ = some (.int .u8 0) := (blk_cell hC 1).trans rfl
  have c2 : W.cell? ⟨gC, 2, none⟩ = some (.int .u8 0) := (blk_cell hC 2).trans rfl
  have c3 : W.cell? ⟨gC, 3, none⟩ = some (.int .u8 0) := (blk_cell hC 3).trans rfl
  have z0 := blk_frozen hC 0
  have z1 := blk_frozen hC 1
  have z2 := blk_frozen hC 2
  have z3 := blk_frozen hC 3
  have y0 := blk_frozen hB 0
  have y1 := blk_frozen hB 1
  have y2 := blk_frozen hB 2
  have y3 := blk_frozen hB 3
  have d0 : W.cell? ⟨gB, 0, none⟩ = some (.int .u8 0) := (blk_cell hB 0).trans rfl
  have d1 : W.cell? ⟨gB, 1, none⟩ = some (.int .u8 0) := (blk_cell hB 1).trans rfl
  have d2 : W.cell? ⟨gB, 2, none⟩ = some (.int .u8 0) := (blk_cell hB 2).trans rfl
  have d3 : W.cell? ⟨gB, 3, none⟩ = some (.int .u8 0) := (blk_cell hB 3).trans rfl
  clear hA hB hC
  by_cases h3 : t = 3
  · subst h3
    cases f3 with
    | true =>
      go_wp2_with (first | (go_at_call 23; (with_reducible refine (pool_laid.calls 5 f0 3 _ HL.out).mono ?_); rintro e w' ⟨rfl, ⟨nd, rfl⟩⟩))
      (try go_region)
      (try go_wp2)
      have nCB : gC ≠ gB := Ne.symm nBC
      have nCA : gC ≠ gA := Ne.symm nAC
      (try simp only [Exit.inBlock, Exit.then])
      refine bodyPost_ret (v := .agg #[.int .u8 f0, .int .u8 0, .int .u8 (f4 / 256 % 256), .int .u8 (f4 % 256)]) (by simp [results, Try.results17]; go_simp) rfl ⟨by have h_ := HRR.out; simp at h_; obtain ⟨rfl, rfl, rfl, rfl⟩ := h_; rfl, ?_⟩
      repeat (with_reducible first | exact HB.out | refine below_set ?_ lC.out | refine below_set ?_ lB.out | apply pw_below_drewN | apply below_drew1)
    | false =>
      go_wp2_with (first | (go_at_call 23; (with_reducible refine (pool_laid.calls 5 f0 3 _ HL.out).mono ?_); rintro e w' ⟨rfl, ⟨nd, rfl⟩⟩))
      (try go_region)
      (try go_wp2)
      have nCB : gC ≠ gB := Ne.symm nBC
      have nCA : gC ≠ gA := Ne.symm nAC
      (try simp only [Exit.inBlock, Exit.then])
      refine bodyPost_ret (v := .agg #[.int .u8 f0, .int .u8 (Go.bits .or .u8 128 f5), .int .u8 f6, .int .u8 f2]) (by simp [results, Try.results17]; go_simp) rfl ⟨by have h_ := HRR.out; simp at h_; obtain ⟨rfl, rfl, rfl, rfl⟩ := h_; rfl, ?_⟩
      repeat (with_reducible first | exact HB.out | refine below_set ?_ lC.out | refine below_set ?_ lB.out | apply pw_below_drewN | apply below_drew1)
  · have h3b0 : (t != 3) = true := bne_iff_ne.mpr h3
    have h3b1 : (t == 3) = false := beq_eq_false_iff_ne.mpr h3
    have H3 := Aside0.mk h3
    clear h3
    go_wp2_with (first | (go_at_call 23; (with_reducible refine (pool_laid.calls 5 f0 t _ HL.out).mono ?_); rintro e w' ⟨rfl, ⟨nd, rfl⟩⟩))
    (try go_region)
    (try go_wp2)
    have nCB : gC ≠ gB := Ne.symm nBC
    have nCA : gC ≠ gA := Ne.symm nAC
    (try simp only [Exit.inBlock, Exit.then])
    refine bodyPost_ret (v := .agg #[.int .u8 f0, .int .u8 (f1 / 256 % 256), .int .u8 (f1 % 256), .int .u8 f2]) (by simp [results, Try.results17]; go_simp) rfl ⟨by have h_ := HRR.out; rw [if_pos H3.out] at h_; simp only [Prod.mk.injEq] at h_; obtain ⟨rfl, rfl, rfl, rfl⟩ := h_; rfl, ?_⟩
    repeat (with_reducible first | exact HB.out | refine below_set ?_ lC.out | refine below_set ?_ lB.out | apply pw_below_drewN | apply below_drew1)

def pool_w (b c : Int) : Int := Go.bits .or .u16 (IntKind.u16.wrap (IntKind.u16.wrap b * 256)) (IntKind.u16.wrap c)
set_option maxHeartbeats 8000000 in
set_option maxRecDepth 100000 in
theorem pool_word.calls (g : Nat) (i : Int) (b c : Int) (w : World) (hb : ∃ b0 b1 b2 b3, w.heap[g]? = some (.cells #[.int .u8 b0, .int .u8 b1, .int .u8 b2, .int .u8 b3] 44 (0, 0)) ∧ ((i = 1 ∧ b = b1 ∧ c = b2) ∨ (i = 2 ∧ b = b2 ∧ c = b3))) :
    Calls Try.prog 24 #[.int .i64 i, .pointer (some ⟨g, 0, none⟩)] w fun e w' => e = .returned (.int .u16 (pool_w b c)) ∧ Drawn0 w w' := by
  obtain ⟨b0, b1, b2, b3, hb, hi⟩ := hb
  have h0 : w.cell? ⟨g, 0, none⟩ = some (.int .u8 b0) := (blk_cell hb 0).trans rfl
  have h1 : w.cell? ⟨g, 1, none⟩ = some (.int .u8 b1) := (blk_cell hb 1).trans rfl
  have h2 : w.cell? ⟨g, 2, none⟩ = some (.int .u8 b2) := (blk_cell hb 2).trans rfl
  have h3 : w.cell? ⟨g, 3, none⟩ = some (.int .u8 b3) := (blk_cell hb 3).trans rfl
  clear hb
  have hu44 := Try.underlying44
  rcases hi with ⟨rfl, rfl, rfl⟩ | ⟨rfl, rfl, rfl⟩
  · go_enter Try.func24, Try.ntmps24
    go_wp2
    go_quiet (fail)
    go_wp2
    go_ret
    exact ⟨rfl, by repeat (first | exact Drawn0.refl _ | apply Drawn0.step)⟩
  · go_enter Try.func24, Try.ntmps24
    go_wp2
    go_quiet (fail)
    go_wp2
    go_ret
    exact ⟨rfl, by repeat (first | exact Drawn0.refl _ | apply Drawn0.step)⟩
def pool_dec (b0 b1 b2 b3 : Int) : S43 × Bool :=
  if pool_lay b0 = 0 then (⟨b0, 0, 0, false, 0, 0, 0⟩, false)
  else if pool_lay b0 ≠ 3 then (⟨b0, pool_w b1 b2, b3, false, 0, 0, 0⟩, pool_lay b0 == 2 || b3 == 0)
  else if b1 = 0 then (⟨b0, 0, 0, true, pool_w b2 b3, 0, 0⟩, true)
  else (⟨b0, 0, b3, false, 0, Go.bits .andNot .u8 b1 128, b2⟩, Go.bits .and .u8 b1 128 != 0)

set_option maxHeartbeats 8000000 in
set_option maxRecDepth 100000 in
theorem pool_entry.calls (b0 b1 b2 b3 : Int) (w : World) :
    Calls Try.prog 18 #[.agg #[.int .u8 b0, .int .u8 b1, .int .u8 b2, .int .u8 b3]] w fun x w' => x = .returned (.tuple #[.agg #[.int .u8 (pool_dec b0 b1 b2 b3).1.f0, .int .u16 (pool_dec b0 b1 b2 b3).1.f1, .int .u8 (pool_dec b0 b1 b2 b3).1.f2, .bool (pool_dec b0 b1 b2 b3).1.f3, .int .u16 (pool_dec b0 b1 b2 b3).1.f4, .int .u8 (pool_dec b0 b1 b2 b3).1.f5, .int .u8 (pool_dec b0 b1 b2 b3).1.f6], .bool (pool_dec b0 b1 b2 b3).2]) ∧ Below w.heap.size w w' := by
  have hu44 := Try.underlying44
  have hu43 := Try.underlying43
  have hl := pool_laid_eq b0
  obtain ⟨⟨⟨r0, r1, r2, r3, r4, r5, r6⟩, r⟩, hR⟩ : ∃ r_ : S43 × Bool, r_ = pool_dec b0 b1 b2 b3 := ⟨_, rfl⟩
  rw [← hR]
  unfold pool_dec at hR
  obtain ⟨t, ht⟩ : ∃ t_ : Int, t_ = pool_lay b0 := ⟨_, rfl⟩
  simp only at ⊢
  rw [← ht] at hl hR
  clear ht
  have HL := Aside0.mk hl
  have HRR := Aside0.mk hR
  clear hl hR
  go_enter Try.func18, Try.ntmps18
  go_upto_region 3 with (fail)
  obtain ⟨W, hW⟩ : ∃ W_ : World, W_ = (((w.alloc (.cells #[.int .u8 b0, .int .u8 b1, .int .u8 b2, .int .u8 b3] 44)).alloc (.cells #[.int .u8 0, .int .u16 0, .int .u8 0, .bool false, .int .u16 0, .int .u8 0, .int .u8 0] 43)).alloc (.cells #[.int .u8 b0, .int .u16 0, .int .u8 0, .bool false, .int .u16 0, .int .u8 0, .int .u8 0] 43)) := ⟨_, rfl⟩
  rw [← hW]
  have hA : W.heap[w.heap.size]? = some (.cells #[.int .u8 b0, .int .u8 b1, .int .u8 b2, .int .u8 b3] 44 (0, 0)) := by rw [hW]; exact blk_alloc (blk_alloc (blk_new w _) _) _
  have hB : W.heap[w.heap.size + 1]? = some (.cells #[.int .u8 0, .int .u16 0, .int .u8 0, .bool false, .int .u16 0, .int .u8 0, .int .u8 0] 43 (0, 0)) := by rw [hW]; have h := blk_alloc (blk_new (w.alloc (.cells #[.int .u8 b0, .int .u8 b1, .int .u8 b2, .int .u8 b3] 44)) (.cells #[.int .u8 0, .int .u16 0, .int .u8 0, .bool false, .int .u16 0, .int .u8 0, .int .u8 0] 43)) (.cells #[.int .u8 b0, .int .u16 0, .int .u8 0, .bool false, .int .u16 0, .int .u8 0, .int .u8 0] 43); simpa using h
  have hC : W.heap[w.heap.size + 1 + 1]? = some (.cells #[.int .u8 b0, .int .u16 0, .int .u8 0, .bool false, .int .u16 0, .int .u8 0, .int .u8 0] 43 (0, 0)) := by rw [hW]; have h := blk_new ((w.alloc (.cells #[.int .u8 b0, .int .u8 b1, .int .u8 b2, .int .u8 b3] 44)).alloc (.cells #[.int .u8 0, .int .u16 0, .int .u8 0, .bool false, .int .u16 0, .int .u8 0, .int .u8 0] 43)) (.cells #[.int .u8 b0, .int .u16 0, .int .u8 0, .bool false, .int .u16 0, .int .u8 0, .int .u8 0] 43); simpa using h
  have hb : Below w.heap.size w W := by rw [hW]; exact below_alloc (below_alloc (below_alloc (Below.refl _ _) _) _) _
  clear hW
  obtain ⟨gA, hgA⟩ : ∃ g : Nat, g = w.heap.size := ⟨_, rfl⟩
  obtain ⟨gB, hgB⟩ : ∃ g : Nat, g = w.heap.size + 1 := ⟨_, rfl⟩
  obtain ⟨gC, hgC⟩ : ∃ g : Nat, g = w.heap.size + 1 + 1 := ⟨_, rfl⟩
  have nAC : gA ≠ gC := by omega
  have nAB : gA ≠ gB := by omega
  have nBC : gB ≠ gC := by omega
  have nCB : gC ≠ gB := Ne.symm nBC
  have nCA : gC ≠ gA := Ne.symm nAC
  have lB : Aside0 (w.heap.size ≤ gB) := ⟨by omega⟩
  have lC : Aside0 (w.heap.size ≤ gC) := ⟨by omega⟩
  rw [← hgC, ← hgB, ← hgA]
  rw [← hgA] at hA
  rw [← hgB] at hB
  rw [← hgC] at hC
  have HB := Aside0.mk hb
  clear hb hgA hgB hgC
  have a0 : W.cell? ⟨gA, 0, none⟩ = some (.int .u8 b0) := (blk_cell hA 0).trans rfl
  have a1 : W.cell? ⟨gA, 1, none⟩ = some (.int .u8 b1) := (blk_cell hA 1).trans rfl
  have a2 : W.cell? ⟨gA, 2, none⟩ = some (.int .u8 b2) := (blk_cell hA 2).trans rfl
  have a3 : W.cell? ⟨gA, 3, none⟩ = some (.int .u8 b3) := (blk_cell hA 3).trans rfl
  have c0 : W.cell? ⟨gC, 0, none⟩ = some (.int .u8 b0) := (blk_cell hC 0).trans rfl
  have c1 : W.cell? ⟨gC, 1, none⟩ = some (.int .u16 0) := (blk_cell hC 1).trans rfl
  have c2 : W.cell? ⟨gC, 2, none⟩ = some (.int .u8 0) := (blk_cell hC 2).trans rfl
  have c3 : W.cell? ⟨gC, 3, none⟩ = some (.bool false) := (blk_cell hC 3).trans rfl
  have c4 : W.cell? ⟨gC, 4, none⟩ = some (.int .u16 0) := (blk_cell hC 4).trans rfl
  have c5 : W.cell? ⟨gC, 5, none⟩ = some (.int .u8 0) := (blk_cell hC 5).trans rfl
  have c6 : W.cell? ⟨gC, 6, none⟩ = some (.int .u8 0) := (blk_cell hC 6).trans rfl
  have d0 : W.cell? ⟨gB, 0, none⟩ = some (.int .u8 0) := (blk_cell hB 0).trans rfl
  have d1 : W.cell? ⟨gB, 1, none⟩ = some (.int .u16 0) := (blk_cell hB 1).trans rfl
  have d2 : W.cell? ⟨gB, 2, none⟩ = some (.int .u8 0) := (blk_cell hB 2).trans rfl
  have d3 : W.cell? ⟨gB, 3, none⟩ = some (.bool false) := (blk_cell hB 3).trans rfl
  have d4 : W.cell? ⟨gB, 4, none⟩ = some (.int .u16 0) := (blk_cell hB 4).trans rfl
  have d5 : W.cell? ⟨gB, 5, none⟩ = some (.int .u8 0) := (blk_cell hB 5).trans rfl
  have d6 : W.cell? ⟨gB, 6, none⟩ = some (.int .u8 0) := (blk_cell hB 6).trans rfl
  have z0 := blk_frozen hC 0
  have z1 := blk_frozen hC 1
  have z2 := blk_frozen hC 2
  have z3 := blk_frozen hC 3
  have z4 := blk_frozen hC 4
  have z5 := blk_frozen hC 5
  have z6 := blk_frozen hC 6
  have y0 := blk_frozen hB 0
  have y1 := blk_frozen hB 1
  have y2 := blk_frozen hB 2
  have y3 := blk_frozen hB 3
  have y4 := blk_frozen hB 4
  have y5 := blk_frozen hB 5
  have y6 := blk_frozen hB 6
  have HA := Aside0.mk hA
  clear hA hB hC
  by_cases h0 : t = 0
  · subst h0
    go_wp2_with (first | (go_at_call 23; (with_reducible refine (pool_laid.calls 5 b0 0 _ HL.out).mono ?_); rintro e w' ⟨rfl, ⟨nd, rfl⟩⟩))
    (try simp only [Exit.inBlock, Exit.then])
    refine bodyPost_ret (v := .tuple #[.agg #[.int .u8 b0, .int .u16 0, .int .u8 0, .bool false, .int .u16 0, .int .u8 0, .int .u8 0], .bool false]) (by simp [results, Try.results18]; go_simp) rfl ⟨by have h_ := HRR.out; simp at h_; obtain ⟨⟨rfl, rfl, rfl, rfl, rfl, rfl, rfl⟩, rfl⟩ := h_; rfl, ?_⟩
    repeat (with_reducible first | exact HB.out | refine below_set ?_ lC.out | refine below_set ?_ lB.out | apply pw_below_drewN | apply below_drew1)
  · have h0b0 : (t == 0) = false := beq_eq_false_iff_ne.mpr h0
    have h0b1 : (t != 0) = true := bne_iff_ne.mpr h0
    have H0 := Aside0.mk h0
    clear h0
    by_cases h3 : t = 3
    · subst h3
      by_cases h1 : b1 = 0
      · subst h1
        go_wp2_with (first | (go_at_call 23; (with_reducible refine (pool_laid.calls 5 b0 3 _ HL.out).mono ?_); rintro e w' ⟨rfl, ⟨nd, rfl⟩⟩) | (go_at_call 24; (with_reducible refine (pool_word.calls gA 2 b2 b3 _ ?hw).mono ?_); (case hw => exact ⟨_, _, _, _, (by first | exact HA.out | (with_reducible repeat (first | refine blk_drewN ?_ _ | refine blk_drew ?_)); exact HA.out), .inr ⟨rfl, rfl, rfl⟩⟩); rintro e w' ⟨rfl, ⟨nd, rfl⟩⟩))
        (try simp only [Exit.inBlock, Exit.then])
        refine bodyPost_ret (v := .tuple #[.agg #[.int .u8 b0, .int .u16 0, .int .u8 0, .bool true, .int .u16 (pool_w b2 b3), .int .u8 0, .int .u8 0], .bool true]) (by simp [results, Try.results18]; go_simp) rfl ⟨by have h_ := HRR.out; simp at h_; obtain ⟨⟨rfl, rfl, rfl, rfl, rfl, rfl, rfl⟩, rfl⟩ := h_; rfl, ?_⟩
        repeat (with_reducible first | exact HB.out | refine below_set ?_ lC.out | refine below_set ?_ lB.out | apply pw_below_drewN | apply below_drew1)
      · have h1b0 : (b1 == 0) = false := beq_eq_false_iff_ne.mpr h1
        have h1b1 : (b1 != 0) = true := bne_iff_ne.mpr h1
        have H1 := Aside0.mk h1
        clear h1
        go_wp2_with (first | (go_at_call 23; (with_reducible refine (pool_laid.calls 5 b0 3 _ HL.out).mono ?_); rintro e w' ⟨rfl, ⟨nd, rfl⟩⟩))
        go_region
        go_wp2
        go_region
        (try go_wp2)
        (try simp only [Exit.inBlock, Exit.then])
        refine bodyPost_ret (v := .tuple #[.agg #[.int .u8 b0, .int .u16 0, .int .u8 b3, .bool false, .int .u16 0, .int .u8 (Go.bits .andNot .u8 b1 128), .int .u8 b2], .bool (Go.bits .and .u8 b1 128 != 0)]) (by simp [results, Try.results18]; go_simp) rfl ⟨by have h_ := HRR.out; simp [H1.out] at h_; obtain ⟨⟨rfl, rfl, rfl, rfl, rfl, rfl, rfl⟩, rfl⟩ := h_; rfl, ?_⟩
        repeat (with_reducible first | exact HB.out | refine below_set ?_ lC.out | refine below_set ?_ lB.out | apply pw_below_drewN | apply below_drew1)
    · have h3b0 : (t == 3) = false := beq_eq_false_iff_ne.mpr h3
      have h3b1 : (t != 3) = true := bne_iff_ne.mpr h3
      have H3 := Aside0.mk h3
      clear h3
      by_cases h2 : t = 2
      · subst h2
        go_wp2_with (first | (go_at_call 23; (with_reducible refine (pool_laid.calls 5 b0 2 _ HL.out).mono ?_); rintro e w' ⟨rfl, ⟨nd, rfl⟩⟩))
        go_region_with (go_at_call 24; (with_reducible refine (pool_word.calls gA 1 b1 b2 _ ?hw).mono ?_); (case hw => exact ⟨_, _, _, _, (by first | exact HA.out | (with_reducible repeat (first | refine blk_drewN ?_ _ | refine blk_drew ?_)); exact HA.out), .inl ⟨rfl, rfl, rfl⟩⟩); rintro e w' ⟨rfl, ⟨nd, rfl⟩⟩)
        all_goals (go_wp2; (try go_region); (try go_wp2); (try simp only [Exit.inBlock, Exit.then]); refine bodyPost_ret (v := .tuple #[.agg #[.int .u8 b0, .int .u16 (pool_w b1 b2), .int .u8 b3, .bool false, .int .u16 0, .int .u8 0, .int .u8 0], .bool true]) (by simp [results, Try.results18]; go_simp) rfl ⟨by have h_ := HRR.out; simp at h_; obtain ⟨⟨rfl, rfl, rfl, rfl, rfl, rfl, rfl⟩, rfl⟩ := h_; rfl, ?_⟩; repeat (with_reducible first | exact HB.out | refine below_set ?_ lC.out | refine below_set ?_ lB.out | apply pw_below_drewN | apply below_drew1))
      · have h2b0 : (t == 2) = false := beq_eq_false_iff_ne.mpr h2
        have H2 := Aside0.mk h2
        clear h2
        go_wp2_with (first | (go_at_call 23; (with_reducible refine (pool_laid.calls 5 b0 t _ HL.out).mono ?_); rintro e w' ⟨rfl, ⟨nd, rfl⟩⟩))
        go_region_with (go_at_call 24; (with_reducible refine (pool_word.calls gA 1 b1 b2 _ ?hw).mono ?_); (case hw => exact ⟨_, _, _, _, (by first | exact HA.out | (with_reducible repeat (first | refine blk_drewN ?_ _ | refine blk_drew ?_)); exact HA.out), .inl ⟨rfl, rfl, rfl⟩⟩); rintro e w' ⟨rfl, ⟨nd, rfl⟩⟩)
        all_goals (go_wp2; (try go_region); (try go_wp2); (try simp only [Exit.inBlock, Exit.then]); refine bodyPost_ret (v := .tuple #[.agg #[.int .u8 b0, .int .u16 (pool_w b1 b2), .int .u8 b3, .bool false, .int .u16 0, .int .u8 0, .int .u8 0], .bool (b3 == 0)]) (by simp [results, Try.results18]; go_simp) rfl ⟨by have h_ := HRR.out; simp [H0.out, H3.out, show (t == 2) = false from beq_eq_false_iff_ne.mpr H2.out] at h_; obtain ⟨⟨rfl, rfl, rfl, rfl, rfl, rfl, rfl⟩, rfl⟩ := h_; rfl, ?_⟩; repeat (with_reducible first | exact HB.out | refine below_set ?_ lC.out | refine below_set ?_ lB.out | apply pw_below_drewN | apply below_drew1))

-- NOT PRINTED: function 18 (pool_entry)

/-! ### bytes_Clone: function 26 -/
def bytes_Clone.f (l0 : List Int) : Option (List Int) := (some (([] : List Int) : List Int)).bind fun y107 => (if y107.length + l0.length < 140737488355328 then (some (y107 ++ l0)) else (none))
set_option maxHeartbeats 8000000 in
set_option maxRecDepth 100000 in
theorem bytes_Clone.calls (A0 : Option Addr) (c0 : Nat) (l0 : List Int) (r : List Int) (w : World) (hr0 : Kd.C (Kd.int .u8) w A0 l0.length l0) (hc0 : l0.length ≤ c0) (h : bytes_Clone.f l0 = some r) :
    Calls Try.prog 26 #[.slice A0 l0.length c0] w fun e w' => ∃ v0_ : Value, e = .returned (v0_) ∧ Kd.R (Kd.int .u8) 5 w' w.heap.size (fun _ => True) v0_ r ∧ Below w.heap.size w w' := by
  rcases A0 with _ | ad0
  · obtain rfl := Go.Proofs.YtechlmlokgjlnaaW.Mine.C_none hr0
    have hq : ∀ (W : World) (n : Nat), (binOp .eql 31 (.slice none n c0) (.slice none 0 0)).run Try.prog W = .ok (.bool true) W := fun W n => Lib.run_eql_slice_nil W 31 5 none n c0 0 0 Try.underlying31
    simp [bytes_Clone.f] at h
    subst h
    go_enter Try.func26, Try.ntmps26
    go_wp2
    go_ret
    exact ⟨_, rfl, Kd.R_nil _ _ _ _ _, by repeat (first | (with_reducible first | exact Below.refl _ _ | apply below_alloc | apply pw_below_drewN | apply below_drew1) | exact Below.refl _ _)⟩
  · have hq : ∀ W : World, (binOp .eql 31 (.slice (some ad0) l0.length c0) (.slice none 0 0)).run Try.prog W = .ok (.bool false) W := fun W => Lib.run_eql_slice_nil W 31 5 (some ad0) _ c0 0 0 Try.underlying31
    have HR0 := Aside0.mk hr0
    have HC0 := Aside0.mk hc0
    clear hr0 hc0
    have HB := Aside0.mk (Below.refl w.heap.size w)
    have H : ((some (([] : List Int) : List Int)).bind fun y107 => (if y107.length + l0.length < 140737488355328 then (some (y107 ++ l0)) else (none))) = some r := h
    clear h
    obtain ⟨y107, hy107⟩ : ∃ y_ : List Int, y_ = (([] : List Int)) := ⟨_, rfl⟩
    replace H : (if y107.length + l0.length < 140737488355328 then (some (y107 ++ l0)) else (none)) = some r := by first | (rw [hy107]; with_reducible exact H) | (have H2_ := (Option.bind_some _ _).symm.trans H; rw [hy107]; with_reducible exact H2_) | (have H2_ := (Option.bind_some _ _).symm.trans H; with_reducible exact H2_) | with_reducible exact H | (rw [hy107]; exact H) | exact H
    have Ny107 := Aside0.mk hy107
    clear hy107
    by_cases c2 : y107.length + l0.length < 140737488355328
    · rw [if_pos c2] at H
      have LMc2 := Aside0.mk c2
      clear c2
      obtain ⟨y110, hy110⟩ : ∃ y_ : List Int, y_ = (y107 ++ l0) := ⟨_, rfl⟩
      replace H : (some y110) = some r := by first | (rw [hy110]; with_reducible exact H) | (have H2_ := (Option.bind_some _ _).symm.trans H; rw [hy110]; with_reducible exact H2_) | (have H2_ := (Option.bind_some _ _).symm.trans H; with_reducible exact H2_) | with_reducible exact H | (rw [hy110]; exact H) | exact H
      have Ny110 := Aside0.mk hy110
      clear hy110
      obtain rfl := Option.some.inj H
      go_enter Try.func26, Try.ntmps26
      go_wp2_with (first | ((with_reducible refine gate_dst (N := 5) rfl ?_); refine Kd.R_lit (Kd.int .u8) _ 5 ?hg (N := 5) ?hd (xs := ([] : List Int)) (inner := []) (ok := fun _ => True) (okp := fun _ => True) ?hr ?hp (fun _ hk => hk) trivial (Below.refl _ _) (Nat.le_refl _) (by simp) ?_; (case hd => rfl); (case hg => rfl); (case hr => first | (go_simp; done) | (go_simp; rfl)); (case hp => exact (Reps.none _ _)); intro v108 w3 ho4 hb hg_ hnew_; clear hg_ hnew_; (first | rw [← Ny107.out] at ho4 | (simp only [Int.reduceToNat] at ho4; rw [← Ny107.out] at ho4)); have n0_ := Aside0.mk (Kd.R_lower ho4 (below_size (by repeat (first | (with_reducible first | exact HB.out | apply below_alloc | apply pw_below_drewN | apply below_drew1) | exact HB.out)))); have n1_ := Aside0.mk (below_step (by repeat (first | (with_reducible first | exact HB.out | apply below_alloc | apply pw_below_drewN | apply below_drew1) | exact HB.out)) hb); clear HB; have HO109 := n0_; have HB := n1_; clear n0_ n1_; clear hb ho4) | ((with_reducible refine gate_builtin (b := .append) (xs := #[.tmp 5, .tmp 6]) rfl ?_); at_builtin; refine Kd.R_append_rows (Kd.int .u8) (w0 := w) w.heap.size rfl (.tmp 5) (.tmp 6) 31 5 (.int .u8 0) 1 rfl Try.underlying31 info5 rfl (by decide) (by omega) v108 y107 l0 _ _ _ (fun _ => True) (fun _ => False) rfl rfl ?aO ?aR (fun _ _ h => h) (fun _ h => h.elim) ?aF ?aB ?aS ?aL ?_; (case aR => repeat (first | exact (Kd.C_below HR0.out HB.out) | (with_reducible refine Kd.C_alloc ?_ _) | (with_reducible refine Kd.C_drewN ?_ _) | (with_reducible refine Kd.C_drew ?_))); (case aB => exact (by repeat (first | (with_reducible first | exact HB.out | apply below_alloc | apply pw_below_drewN | apply below_drew1) | exact HB.out))); (case aF => exact (fun _ _ => trivial)); (case aO => exact (by (with_reducible repeat (first | apply Kd.R_alloc | apply Kd.R_drewN | apply Kd.R_drew)); exact HO109.out)); (case aS => exact (below_size (by repeat (first | (with_reducible first | exact HB.out | apply below_alloc | apply pw_below_drewN | apply below_drew1) | exact HB.out)))); (case aL => have := LMc2.out; omega); intro v111 w5 ho hb hg hat; rw [← Ny110.out] at ho; have n0_ := Aside0.mk (hb); have n1_ := Aside0.mk (ho); clear HB; clear HO109; have HB := n0_; have HO112 := n1_; clear n0_ n1_; clear ho hb hg hat))
      go_ret
      exact ⟨_, by first | rfl | (simp [errW_none, errW_some] <;> rfl) | (simp [*, errW_none, errW_some] <;> rfl), by (with_reducible repeat (first | apply Kd.R_alloc | apply Kd.R_drewN | apply Kd.R_drew)); exact HO112.out, by repeat (first | (with_reducible first | exact HB.out | apply below_alloc | apply pw_below_drewN | apply below_drew1) | exact HB.out)⟩
    · rw [if_neg c2] at H
      exact absurd H (by simp)

/-! ### ends_Part: function 22 -/
def ends_Part.j0 : Nat → List Int → Int → Int → Bool → Option (List Int × Int)
  | 0, _, _, _, _ => none
  | k + 1, x0, x1, x2, x8 => if x8 = true then (some (([] : List Int), 2)) else (if (wrap64 ((x0.length : Int) - x1)) < x2 then (some (([] : List Int), 4)) else (if 0 ≤ x1 then (if x1 ≤ (wrap64 (x1 + x2)) then (if (wrap64 (x1 + x2)) ≤ (x0.length : Int) then ((bytes_Clone.f ((x0.take ((wrap64 (x1 + x2)) : Int).toNat).drop (x1 : Int).toNat)).bind fun t114 => (some (t114, 0))) else (none)) else (none)) else (none)))
def ends_Part.f (k : Nat) (l0 : List Int) (a1 : Int) (a2 : Int) : Option (List Int × Int) := if a1 < 0 then (ends_Part.j0 k l0 a1 a2 true) else (if a1 > (l0.length : Int) then (ends_Part.j0 k l0 a1 a2 true) else (ends_Part.j0 k l0 a1 a2 (decide (a2 < 0))))
theorem ends_Part.mono_l : ∀ k, (∀ y0 y1 y2 y3, LeO (ends_Part.j0 k y0 y1 y2 y3) (ends_Part.j0 (k + 1) y0 y1 y2 y3))
  | 0 => fun _ _ _ _ r h => by simp [ends_Part.j0] at h
  | k + 1 => by
    have ih0 := ends_Part.mono_l k
    · intro y0 y1 y2 y3
      unfold ends_Part.j0
      repeat' first
      | (with_reducible exact ih0 _ _ _ _)
      | (with_reducible exact LeO.refl _)
      | (with_reducible exact LeO.none _)
      | (with_reducible refine LeO.ite ?_ ?_)
      | (with_reducible refine LeO.bind ?_ (fun _ => ?_))
      | exact ih0 _ _ _ _
      | exact LeO.none _
      | refine LeO.ite ?_ ?_
      | refine LeO.bind ?_ (fun _ => ?_)
theorem ends_Part.mono : ∀ a0 a1 a2 k, LeO (ends_Part.f k a0 a1 a2) (ends_Part.f (k + 1) a0 a1 a2) := by
  intro a0 a1 a2 k
  have ih0 := ends_Part.mono_l k
  unfold ends_Part.f
  repeat' first
      | (with_reducible exact ih0 _ _ _ _)
      | (with_reducible exact LeO.refl _)
      | (with_reducible exact LeO.none _)
      | (with_reducible refine LeO.ite ?_ ?_)
      | (with_reducible refine LeO.bind ?_ (fun _ => ?_))
      | exact ih0 _ _ _ _
      | exact LeO.none _
      | refine LeO.ite ?_ ?_
      | refine LeO.bind ?_ (fun _ => ?_)
set_option maxHeartbeats 8000000 in
set_option maxRecDepth 100000 in
theorem ends_Part.calls (k : Nat) (A0 : Option Addr) (c0 : Nat) (l0 : List Int) (a1 : Int) (a2 : Int) (r1 : List Int) (r2 : Int) (w : World) (hr0 : Kd.C (Kd.int .u8) w A0 l0.length l0) (hc0 : l0.length ≤ c0) (h : ends_Part.f k l0 a1 a2 = some (r1, r2)) :
    Calls Try.prog 22 #[.slice A0 l0.length c0, .int .i64 a1, .int .i64 a2] w fun e w' => ∃ v0_ : Value, e = .returned (.tuple #[v0_, .int .i64 r2]) ∧ Kd.R (Kd.int .u8) 5 w' w.heap.size (fun _ => True) v0_ r1 ∧ Below w.heap.size w w' := by
  have HR0 := Aside0.mk hr0
  have HC0 := Aside0.mk hc0
  clear hr0 hc0
  have HB := Aside0.mk (Below.refl w.heap.size w)
  have H : (if a1 < 0 then (ends_Part.j0 k l0 a1 a2 true) else (if a1 > (l0.length : Int) then (ends_Part.j0 k l0 a1 a2 true) else (ends_Part.j0 k l0 a1 a2 (decide (a2 < 0))))) = some (r1, r2) := h
  clear h
  have HC4 := Aside0.mk H
  clear H
  go_enter Try.func22, Try.ntmps22
  go_upto_region 1 with (fail)
  go_cut [8] (fun v8 wc => ∃ (kq : Nat) (x8_3 : Bool), v8 = .bool x8_3 ∧ Aside0 (ends_Part.j0 kq l0 a1 a2 x8_3 = some (r1, r2)) ∧ Aside0 (kq ≤ k) ∧ Aside0 (Below w.heap.size w wc))
  case first =>
    have H := HC4.out
    clear HC4
    by_cases c5 : a1 < 0
    · rw [if_pos c5] at H
      have c5b0 : decide (a1 < 0) = true := decide_eq_true c5
      clear c5
      (first | rw [c5b0] | (simp only [i64_w, i32_w]; rw [c5b0]) | skip)
      have H' := Aside0.mk H
      clear H
      go_wp2
      go_meet
      case rel => exact ⟨_, (true), (by first | rfl | (simp; done) | (simp [*]; done)), H', ⟨by first | omega | exact Nat.le_refl _⟩, ⟨by repeat (first | (with_reducible first | exact HB.out | apply below_alloc | apply pw_below_drewN | apply below_drew1) | exact HB.out)⟩⟩
    · rw [if_neg c5] at H
      have c5b0 : decide (a1 < 0) = false := decide_eq_false c5
      clear c5
      (first | rw [c5b0] | (simp only [i64_w, i32_w]; rw [c5b0]) | skip)
      by_cases c6 : a1 > (l0.length : Int)
      · rw [if_pos c6] at H
        have c6b0 : decide ((l0.length : Int) < a1) = true := decide_eq_true c6
        clear c6
        have H' := Aside0.mk H
        clear H
        go_wp2
        go_meet
        case rel => exact ⟨_, (true), (by first | rfl | (simp; done) | (simp [*]; done)), H', ⟨by first | omega | exact Nat.le_refl _⟩, ⟨by repeat (first | (with_reducible first | exact HB.out | apply below_alloc | apply pw_below_drewN | apply below_drew1) | exact HB.out)⟩⟩
      · rw [if_neg c6] at H
        have c6b0 : decide ((l0.length : Int) < a1) = false := decide_eq_false c6
        clear c6
        have H' := Aside0.mk H
        clear H
        go_wp2
        go_meet
        case rel => exact ⟨_, (decide (a2 < 0)), (by first | rfl | (simp; done) | (simp [*]; done)), H', ⟨by first | omega | exact Nat.le_refl _⟩, ⟨by repeat (first | (with_reducible first | exact HB.out | apply below_alloc | apply pw_below_drewN | apply below_drew1) | exact HB.out)⟩⟩
  case rest =>
    clear HC4
    try clear c2
    try clear p2
    try clear c5
    try clear c5b0
    try clear c6
    try clear c6b0
    obtain ⟨kq, x8_3, rfl, HA, HJ3, HB⟩ := hcut
    cases kq with
    | zero => exact absurd HA.out (by simp [ends_Part.j0])
    | succ kj3 =>
      have H := HA.out
      clear HA
      simp only [ends_Part.j0] at H
      by_cases c7 : x8_3 = true
      · subst c7
        have H1 : (some (([] : List Int), 2)) = some (r1, r2) := by rw [if_pos rfl] at H; exact H
        clear H
        have H := H1
        clear H1
        simp only [Option.some.injEq, Prod.mk.injEq] at H
        obtain ⟨rfl, rfl⟩ := H
        go_wp2
        go_ret2
        exact ⟨_, by first | rfl | (simp [errW_none, errW_some] <;> rfl) | (simp [*, errW_none, errW_some] <;> rfl), by first | exact Kd.R_nil _ _ _ _ _ | exact Kd.N_nil _ _ _ _ _ | exact Kd.V_nil _ _ _ _ _ | exact Kd.Q_nil _ _ _ _ _ | exact Kd.S_nil _ _ _ _ _, by repeat (first | (with_reducible first | exact HB.out | apply below_alloc | apply pw_below_drewN | apply below_drew1) | exact HB.out)⟩
      · replace c7 := Bool.eq_false_iff.mpr c7
        subst c7
        have H1 : (if (wrap64 ((l0.length : Int) - a1)) < a2 then (some (([] : List Int), 4)) else (if 0 ≤ a1 then (if a1 ≤ (wrap64 (a1 + a2)) then (if (wrap64 (a1 + a2)) ≤ (l0.length : Int) then ((bytes_Clone.f ((l0.take ((wrap64 (a1 + a2)) : Int).toNat).drop (a1 : Int).toNat)).bind fun t114 => (some (t114, 0))) else (none)) else (none)) else (none))) = some (r1, r2) := by rw [if_neg (show ¬ (false = true) by decide)] at H; exact H
        clear H
        have H := H1
        clear H1
        by_cases c8 : (wrap64 ((l0.length : Int) - a1)) < a2
        · rw [if_pos c8] at H
          have c8b0 : decide ((wrap64 ((l0.length : Int) - a1)) < a2) = true := decide_eq_true c8
          clear c8
          simp only [Option.some.injEq, Prod.mk.injEq] at H
          obtain ⟨rfl, rfl⟩ := H
          go_wp2
          go_ret2
          exact ⟨_, by first | rfl | (simp [errW_none, errW_some] <;> rfl) | (simp [*, errW_none, errW_some] <;> rfl), by first | exact Kd.R_nil _ _ _ _ _ | exact Kd.N_nil _ _ _ _ _ | exact Kd.V_nil _ _ _ _ _ | exact Kd.Q_nil _ _ _ _ _ | exact Kd.S_nil _ _ _ _ _, by repeat (first | (with_reducible first | exact HB.out | apply below_alloc | apply pw_below_drewN | apply below_drew1) | exact HB.out)⟩
        · rw [if_neg c8] at H
          have c8b0 : decide ((wrap64 ((l0.length : Int) - a1)) < a2) = false := decide_eq_false c8
          clear c8
          by_cases c9 : 0 ≤ a1
          · rw [if_pos c9] at H
            have c9b0 := eq_true c9
            have c9b1 : decide (0 ≤ a1) = true := decide_eq_true c9
            clear c9
            by_cases c10 : a1 ≤ (wrap64 (a1 + a2))
            · rw [if_pos c10] at H
              have c10b0 := eq_true c10
              have c10b1 : decide (a1 ≤ (wrap64 (a1 + a2))) = true := decide_eq_true c10
              by_cases c11 : (wrap64 (a1 + a2)) ≤ (l0.length : Int)
              · rw [if_pos c11] at H
                have c11b0 := eq_true c11
                have c11b1 : decide ((wrap64 (a1 + a2)) ≤ (l0.length : Int)) = true := decide_eq_true c11
                replace H := Option.bind_eq_some_iff.mp H
                obtain ⟨t114, A120, H⟩ := H
                replace H : (some (t114, 0)) = some (r1, r2) := H
                have A12 := Aside0.mk A120
                clear A120
                simp only [Option.some.injEq, Prod.mk.injEq] at H
                obtain ⟨rfl, rfl⟩ := H
                obtain ⟨i013, hi013, _, hsz13, _⟩ := info_parts info5
                obtain ⟨A13, hcut13, hA13, hC13⟩ := Go.Proofs.YtechlmlokgjlnaaW.Mine.mid3_of (P := Try.prog) (Value.int .u8) 0 31 5 .i64 .i64 .i64 Try.underlying31 hi013 hsz13 A0 c0 l0 a1 (wrap64 (a1 + a2)) (of_decide_eq_true (by first | (with_reducible assumption) | assumption)) (by first | omega | exact of_decide_eq_true (by first | (with_reducible assumption) | assumption)) (of_decide_eq_true (by first | (with_reducible assumption) | assumption)) HC0.out
                have HR113 := Aside0.mk (Kd.C_of_reads (h1 := fun _ => rfl) (hA13 _ (Kd.reads_of_C HR0.out)))
                have HC113 := Aside0.mk hC13
                clear hA13 hC13 hi013 hsz13
                go_wp2_with (first | ((with_reducible refine gate_callee (f := 26) rfl ?_); refine goesL_ (some 37) rfl rfl Try.func26 (by kernel_rfl) rfl #[.slice A13 ((l0.take ((wrap64 (a1 + a2)) : Int).toNat).drop (a1 : Int).toNat).length ((wrap64 (a1 + a2)).toNat - a1.toNat)] rfl (by (try simp only [List.map_toArray, List.map_cons, List.map_nil]); first | done | (rw [show ((l0.take ((wrap64 (a1 + a2)) : Int).toNat).drop (a1 : Int).toNat).length = ((wrap64 (a1 + a2)).toNat - a1.toNat) from (by rw [List.length_drop, List.length_take]; have h_ : ((wrap64 (a1 + a2)) : Int) ≤ (l0.length : Int) := of_decide_eq_true (by first | (with_reducible assumption) | assumption); omega)] <;> rfl) | rfl | (simp only [List.length_drop, List.length_take]; rfl)) ?_; (with_reducible refine (bytes_Clone.calls _ _ ((l0.take ((wrap64 (a1 + a2)) : Int).toNat).drop (a1 : Int).toNat) t114 _ ?side1 ?side2 A12.out).mono ?_); (case side1 => repeat (first | exact (Kd.C_below HR113.out HB.out) | (with_reducible refine Kd.C_alloc ?_ _) | (with_reducible refine Kd.C_drewN ?_ _) | (with_reducible refine Kd.C_drew ?_))); (case side2 => exact HC113.out); rintro e w14 ⟨v115, rfl, ho0, hb⟩; refine ⟨_, rfl, ?_⟩; have n0_ := Aside0.mk (Kd.R_lower ho0 (below_size (by repeat (first | (with_reducible first | exact HB.out | apply below_alloc | apply pw_below_drewN | apply below_drew1) | exact HB.out)))); have n1_ := Aside0.mk (below_step (by repeat (first | (with_reducible first | exact HB.out | apply below_alloc | apply pw_below_drewN | apply below_drew1) | exact HB.out)) hb); clear HB; have HO116 := n0_; have HB := n1_; clear n0_ n1_; (try clear hb); (try clear hb2); (try clear hk); (try clear hi); (try clear ho0)))
                go_ret2
                exact ⟨_, by first | rfl | (simp [errW_none, errW_some] <;> rfl) | (simp [*, errW_none, errW_some] <;> rfl), by (with_reducible repeat (first | apply Kd.R_alloc | apply Kd.R_drewN | apply Kd.R_drew)); exact HO116.out, by repeat (first | (with_reducible first | exact HB.out | apply below_alloc | apply pw_below_drewN | apply below_drew1) | exact HB.out)⟩
              · rw [if_neg c11] at H
                exact absurd H (by simp)
            · rw [if_neg c10] at H
              exact absurd H (by simp)
          · rw [if_neg c9] at H
            exact absurd H (by simp)

/-! ### ends_may: function 25 -/
def ends_may.f (a0 : Int) : Option (Bool) := if a0 = 1 then (some true) else (if a0 = 2 then (some true) else (if a0 = 4 then (some true) else (some false)))
set_option maxHeartbeats 8000000 in
set_option maxRecDepth 100000 in
theorem ends_may.calls (a0 : Int) (r : Bool) (w : World) (h : ends_may.f a0 = some r) :
    Calls Try.prog 25 #[.int .i64 a0] w fun e w' => e = .returned (.bool r) ∧ Drawn0 w w' := by
  have H : (if a0 = 1 then (some true) else (if a0 = 2 then (some true) else (if a0 = 4 then (some true) else (some false)))) = some r := h
  clear h
  by_cases c2 : a0 = 1
  · rw [if_pos c2] at H
    have c2b0 : (a0 == 1) = true := beq_iff_eq.mpr c2
    have c2b1 : (a0 != 1) = false := bne_eq_false_iff_eq.mpr c2
    clear c2
    obtain rfl := Option.some.inj H
    go_enter Try.func25, Try.ntmps25
    go_wp2
    go_ret
    exact ⟨by first | rfl | (simp; done) | (simp [*]; done), by repeat (first | exact Drawn0.refl _ | apply Drawn0.step)⟩
  · rw [if_neg c2] at H
    have c2b0 : (a0 == 1) = false := beq_eq_false_iff_ne.mpr c2
    have c2b1 : (a0 != 1) = true := bne_iff_ne.mpr c2
    by_cases c3 : a0 = 2
    · rw [if_pos c3] at H
      have c3b0 : (a0 == 2) = true := beq_iff_eq.mpr c3
      have c3b1 : (a0 != 2) = false := bne_eq_false_iff_eq.mpr c3
      clear c3
      obtain rfl := Option.some.inj H
      go_enter Try.func25, Try.ntmps25
      go_wp2
      go_ret
      exact ⟨by first | rfl | (simp; done) | (simp [*]; done), by repeat (first | exact Drawn0.refl _ | apply Drawn0.step)⟩
    · rw [if_neg c3] at H
      have c3b0 : (a0 == 2) = false := beq_eq_false_iff_ne.mpr c3
      have c3b1 : (a0 != 2) = true := bne_iff_ne.mpr c3
      by_cases c4 : a0 = 4
      · rw [if_pos c4] at H
        have c4b0 : (a0 == 4) = true := beq_iff_eq.mpr c4
        have c4b1 : (a0 != 4) = false := bne_eq_false_iff_eq.mpr c4
        clear c4
        obtain rfl := Option.some.inj H
        go_enter Try.func25, Try.ntmps25
        go_wp2
        go_ret
        exact ⟨by first | rfl | (simp; done) | (simp [*]; done), by repeat (first | exact Drawn0.refl _ | apply Drawn0.step)⟩
      · rw [if_neg c4] at H
        have c4b0 : (a0 == 4) = false := beq_eq_false_iff_ne.mpr c4
        have c4b1 : (a0 != 4) = true := bne_iff_ne.mpr c4
        obtain rfl := Option.some.inj H
        go_enter Try.func25, Try.ntmps25
        go_wp2
        go_ret
        exact ⟨by first | rfl | (simp; done) | (simp [*]; done), by repeat (first | exact Drawn0.refl _ | apply Drawn0.step)⟩

/-! ### ends_Get: function 21 -/
def ends_Get.l0 : Nat → Int → Int → List Int → Int → Int → Option (Int × Int)
  | 0, _, _, _, _, _ => none
  | k + 1, x9, x10, x23, x24, x25 => if x25 < x24 then (if 0 ≤ x25 then (if x25 < (x23.length : Int) then (ends_Get.l0 k x9 (Go.bits .or .u32 ((x10 * 256) % 4294967296) ((rd x23 x25) % 4294967296)) x23 x24 (wrap64 (x25 + 1))) else (none)) else (none)) else (some (x10, x9))
def ends_Get.f (k : Nat) (l0 : List Int) (a1 : Int) (a2 : Int) : Option (Int × Int) := (ends_may.f a2).bind fun t117 => (if t117 = true then ((ends_Part.f k l0 a1 a2).bind fun bt118 => (ends_Get.l0 k bt118.2 0 bt118.1 (bt118.1.length : Int) 0)) else (some (0, 2)))
theorem ends_Get.mono_l : ∀ k, (∀ y0 y1 y2 y3 y4, LeO (ends_Get.l0 k y0 y1 y2 y3 y4) (ends_Get.l0 (k + 1) y0 y1 y2 y3 y4))
  | 0 => fun _ _ _ _ _ r h => by simp [ends_Get.l0] at h
  | k + 1 => by
    have ih0 := ends_Get.mono_l k
    · intro y0 y1 y2 y3 y4
      unfold ends_Get.l0
      repeat' first
      | (with_reducible exact ih0 _ _ _ _ _)
      | (with_reducible exact ends_Part.mono _ _ _ _)
      | (with_reducible exact LeO.refl _)
      | (with_reducible exact LeO.none _)
      | (with_reducible refine LeO.ite ?_ ?_)
      | (with_reducible refine LeO.bind ?_ (fun _ => ?_))
      | exact ih0 _ _ _ _ _
      | exact ends_Part.mono _ _ _ _
      | exact LeO.none _
      | refine LeO.ite ?_ ?_
      | refine LeO.bind ?_ (fun _ => ?_)
theorem ends_Get.mono : ∀ a0 a1 a2 k, LeO (ends_Get.f k a0 a1 a2) (ends_Get.f (k + 1) a0 a1 a2) := by
  intro a0 a1 a2 k
  have ih0 := ends_Get.mono_l k
  unfold ends_Get.f
  repeat' first
      | (with_reducible exact ih0 _ _ _ _ _)
      | (with_reducible exact ends_Part.mono _ _ _ _)
      | (with_reducible exact LeO.refl _)
      | (with_reducible exact LeO.none _)
      | (with_reducible refine LeO.ite ?_ ?_)
      | (with_reducible refine LeO.bind ?_ (fun _ => ?_))
      | exact ih0 _ _ _ _ _
      | exact ends_Part.mono _ _ _ _
      | exact LeO.none _
      | refine LeO.ite ?_ ?_
      | refine LeO.bind ?_ (fun _ => ?_)
set_option maxHeartbeats 8000000 in
set_option maxRecDepth 100000 in
theorem ends_Get.calls (k : Nat) (A0 : Option Addr) (c0 : Nat) (l0 : List Int) (a1 : Int) (a2 : Int) (r1 : Int) (r2 : Int) (w : World) (hr0 : Kd.C (Kd.int .u8) w A0 l0.length l0) (hc0 : l0.length ≤ c0) (h : ends_Get.f k l0 a1 a2 = some (r1, r2)) :
    Calls Try.prog 21 #[.slice A0 l0.length c0, .int .i64 a1, .int .i64 a2] w fun e w' => e = .returned (.tuple #[.int .u32 r1, .int .i64 r2]) ∧ Below w.heap.size w w' := by
  have HR0 := Aside0.mk hr0
  have HC0 := Aside0.mk hc0
  clear hr0 hc0
  have HB := Aside0.mk (Below.refl w.heap.size w)
  have H : ((ends_may.f a2).bind fun t117 => (if t117 = true then ((ends_Part.f k l0 a1 a2).bind fun bt118 => (ends_Get.l0 k bt118.2 0 bt118.1 (bt118.1.length : Int) 0)) else (some (0, 2)))) = some (r1, r2) := h
  clear h
  replace H := Option.bind_eq_some_iff.mp H
  obtain ⟨t117, A40, H⟩ := H
  replace H : (if t117 = true then ((ends_Part.f k l0 a1 a2).bind fun bt118 => (ends_Get.l0 k bt118.2 0 bt118.1 (bt118.1.length : Int) 0)) else (some (0, 2))) = some (r1, r2) := H
  have A4 := Aside0.mk A40
  clear A40
  by_cases c5 : t117 = true
  · subst c5
    have H1 : ((ends_Part.f k l0 a1 a2).bind fun bt118 => (ends_Get.l0 k bt118.2 0 bt118.1 (bt118.1.length : Int) 0)) = some (r1, r2) := by rw [if_pos rfl] at H; exact H
    clear H
    have H := H1
    clear H1
    replace H := Option.bind_eq_some_iff.mp H
    obtain ⟨⟨t118, t119⟩, A60, H⟩ := H
    replace H : (ends_Get.l0 k t119 0 t118 (t118.length : Int) 0) = some (r1, r2) := H
    have A6 := Aside0.mk A60
    clear A60
    have H' := Aside0.mk H
    clear H
    go_enter Try.func21, Try.ntmps21
    go_wp2_with (first | ((with_reducible refine gate_callee (f := 25) rfl ?_); refine goesL_ (some 14) rfl rfl Try.func25 (by kernel_rfl) rfl #[.int .i64 a2] rfl (by (try simp only [List.map_toArray, List.map_cons, List.map_nil]); first | done | rfl | (simp only [List.length_drop, List.length_take]; rfl)) ?_; (with_reducible refine (ends_may.calls a2 true _ A4.out).mono ?_); rintro e w' ⟨rfl, ⟨nd, rfl⟩⟩; refine ⟨_, rfl, ?_⟩) | ((with_reducible refine gate_callee (f := 22) rfl ?_); refine goesL_ (some 20) rfl rfl Try.func22 (by kernel_rfl) rfl #[.slice A0 l0.length c0, .int .i64 a1, .int .i64 a2] rfl (by (try simp only [List.map_toArray, List.map_cons, List.map_nil]); first | done | rfl | (simp only [List.length_drop, List.length_take]; rfl)) ?_; (with_reducible refine (ends_Part.calls k _ _ l0 a1 a2 t118 t119 _ ?side1 ?side2 A6.out).mono ?_); (case side1 => repeat (first | exact HR0.out | (with_reducible refine Kd.C_alloc ?_ _) | (with_reducible refine Kd.C_drewN ?_ _) | (with_reducible refine Kd.C_drew ?_))); (case side2 => exact HC0.out); rintro e w7 ⟨v120, rfl, ho0, hb⟩; refine ⟨_, rfl, ?_⟩; have n0_ := Aside0.mk (Kd.R_lower ho0 (below_size (by repeat (first | (with_reducible first | exact HB.out | apply below_alloc | apply pw_below_drewN | apply below_drew1) | exact HB.out)))); have n1_ := Aside0.mk (below_step (by repeat (first | (with_reducible first | exact HB.out | apply below_alloc | apply pw_below_drewN | apply below_drew1) | exact HB.out)) hb); clear HB; have HO121 := n0_; have HB := n1_; clear n0_ n1_; (try clear hb); (try clear hb2); (try clear hk); (try clear hi); (try clear ho0); obtain ⟨Ao8, co8, eo8⟩ := Kd.R_slice HO121.out; subst eo8))
    go_loopg [10, 25] k (fun kq v10 v25 w' => ∃ (x10_1 : Int) (x25_1 : Int), v10 = .int .u32 x10_1 ∧ v25 = .int .i64 x25_1 ∧ Aside0 (ends_Get.l0 kq t119 x10_1 t118 (t118.length : Int) x25_1 = some (r1, r2)) ∧ Aside0 (kq ≤ k) ∧ Aside0 (Kd.R (Kd.int .u8) 5 w' w.heap.size (fun _ => True) (.slice Ao8 t118.length co8) t118) ∧ Aside0 (Below w.heap.size w w'))
    case atStart => exact ⟨(0), (0), (by first | rfl | (simp; done) | (simp [*]; done)), (by first | rfl | (simp; done) | (simp [*]; done)), H', ⟨Nat.le_refl _⟩, ⟨by (with_reducible repeat (first | apply Kd.R_alloc | apply Kd.R_drewN | apply Kd.R_drew)); exact HO121.out⟩, ⟨by repeat (first | (with_reducible first | exact HB.out | apply below_alloc | apply pw_below_drewN | apply below_drew1) | exact HB.out)⟩⟩
    case round =>
      clear H'
      try clear c2
      try clear p2
      try clear c5
      obtain ⟨x10_1, x25_1, rfl, rfl, HA, HK1, HO_23, HB⟩ := hrel
      cases gk with
      | zero => exact absurd HA.out (by simp [ends_Get.l0])
      | succ k1 =>
        have H := HA.out
        clear HA
        simp only [ends_Get.l0] at H
        by_cases c9 : x25_1 < (t118.length : Int)
        · rw [if_pos c9] at H
          have c9b0 : decide (x25_1 < (t118.length : Int)) = true := decide_eq_true c9
          clear c9
          by_cases c10 : 0 ≤ x25_1
          · rw [if_pos c10] at H
            have c10b0 : decide (0 ≤ x25_1) = true := decide_eq_true c10
            clear c10
            by_cases c11 : x25_1 < (t118.length : Int)
            · rw [if_pos c11] at H
              have c11b0 : decide (x25_1 < (t118.length : Int)) = true := decide_eq_true c11
              clear c11
              have H' := Aside0.mk H
              clear H
              have p122 : 0 ≤ (x25_1 : Int) := of_decide_eq_true (by first | (with_reducible assumption) | assumption)
              have q122 : x25_1 < (t118.length : Int) := of_decide_eq_true (by first | (with_reducible assumption) | assumption)
              obtain ⟨ad122, e122, hx122_0⟩ := Kd.at_int (Kd.R_reads' HO_23.out).2.2 x25_1 p122 q122
              cases e122
              replace p122 := eq_true p122
              replace q122 := eq_true q122
              go_wp2
              go_roundg k1
              case measure => have := HK1.out; omega
              case rel => exact ⟨(Go.bits .or .u32 ((x10_1 * 256) % 4294967296) ((rd t118 x25_1) % 4294967296)), (wrap64 (x25_1 + 1)), (by first | rfl | (simp; done) | (simp [*]; done)), (by first | rfl | (simp; done) | (simp [*]; done)), H', ⟨by have := HK1.out; omega⟩, ⟨by (with_reducible repeat (first | apply Kd.R_alloc | apply Kd.R_drewN | apply Kd.R_drew)); exact HO_23.out⟩, ⟨by repeat (first | (with_reducible first | exact HB.out | apply below_alloc | apply pw_below_drewN | apply below_drew1) | exact HB.out)⟩⟩
            · rw [if_neg c11] at H
              exact absurd H (by simp)
          · rw [if_neg c10] at H
            exact absurd H (by simp)
        · rw [if_neg c9] at H
          have c9b0 : decide (x25_1 < (t118.length : Int)) = false := decide_eq_false c9
          clear c9
          simp only [Option.some.injEq, Prod.mk.injEq] at H
          obtain ⟨rfl, rfl⟩ := H
          go_wp2
          go_ret2
          exact ⟨by first | rfl | (simp [errW_none, errW_some] <;> rfl) | (simp [*, errW_none, errW_some] <;> rfl), by repeat (first | (with_reducible first | exact HB.out | apply below_alloc | apply pw_below_drewN | apply below_drew1) | exact HB.out)⟩
  · replace c5 := Bool.eq_false_iff.mpr c5
    subst c5
    have H1 : (some (0, 2)) = some (r1, r2) := by rw [if_neg (show ¬ (false = true) by decide)] at H; exact H
    clear H
    have H := H1
    clear H1
    simp only [Option.some.injEq, Prod.mk.injEq] at H
    obtain ⟨rfl, rfl⟩ := H
    go_enter Try.func21, Try.ntmps21
    go_wp2_with (first | ((with_reducible refine gate_callee (f := 25) rfl ?_); refine goesL_ (some 14) rfl rfl Try.func25 (by kernel_rfl) rfl #[.int .i64 a2] rfl (by (try simp only [List.map_toArray, List.map_cons, List.map_nil]); first | done | rfl | (simp only [List.length_drop, List.length_take]; rfl)) ?_; (with_reducible refine (ends_may.calls a2 false _ A4.out).mono ?_); rintro e w' ⟨rfl, ⟨nd, rfl⟩⟩; refine ⟨_, rfl, ?_⟩))
    go_ret2
    exact ⟨by first | rfl | (simp [errW_none, errW_some] <;> rfl) | (simp [*, errW_none, errW_some] <;> rfl), by repeat (first | (with_reducible first | exact HB.out | apply below_alloc | apply pw_below_drewN | apply below_drew1) | exact HB.out)⟩

/-! ### pool_Get: function 15 -/
def pool_Get.loop (b : List Int) : Nat → Int → List (S43) → Option ((List (S43)) × Int)
  | 0, at_, acc => if at_ < (b.length : Int) then some ([], 5) else some (acc, 0)
  | n + 1, at_, acc => (ends_Part.f 10 b at_ 4).bind fun p => (if p.2 = 0 then (if p.1.length = 4 then (if (pool_dec (rd p.1 0) (rd p.1 1) (rd p.1 2) (rd p.1 3)).2 = true then pool_Get.loop b n (at_ + 4) (acc ++ [(pool_dec (rd p.1 0) (rd p.1 1) (rd p.1 2) (rd p.1 3)).1]) else some ([], 5)) else none) else some ([], 4))
def pool_Get.f (_k : Nat) (l0 : List Int) : Option ((List (S43)) × Int) := (ends_Get.f 20 l0 0 2).bind fun t => (if t.2 = 0 then (if t.1 > 255 then some ([], 3) else if 0 ≤ t.1 then pool_Get.loop l0 t.1.toNat 2 [] else none) else some ([], t.2))
theorem pool_Get.mono : ∀ a0 k, LeO (pool_Get.f k a0) (pool_Get.f (k + 1) a0) := by
  intro a0 k
  unfold pool_Get.f
  repeat' first
      | (with_reducible exact ends_Get.mono _ _ _ _)
      | (with_reducible exact ends_Part.mono _ _ _ _)
      | (with_reducible exact pool_laid.mono _ _)
      | (with_reducible exact LeO.refl _)
      | (with_reducible exact LeO.none _)
      | (with_reducible refine LeO.ite ?_ ?_)
      | (with_reducible refine LeO.bind ?_ (fun _ => ?_))
      | exact ends_Get.mono _ _ _ _
      | exact ends_Part.mono _ _ _ _
      | exact pool_laid.mono _ _
      | exact LeO.none _
      | refine LeO.ite ?_ ?_
      | refine LeO.bind ?_ (fun _ => ?_)
set_option maxHeartbeats 8000000 in
set_option maxRecDepth 100000 in
theorem pool_Get.calls (k : Nat) (A0 : Option Addr) (c0 : Nat) (l0 : List Int) (r1 : List (S43)) (r2 : Int) (w : World) (hr0 : Kd.C (Kd.int .u8) w A0 l0.length l0) (hc0 : l0.length ≤ c0) (h : pool_Get.f k l0 = some (r1, r2)) :
    Calls Try.prog 15 #[.slice A0 l0.length c0] w fun e w' => ∃ v0_ : Value, e = .returned (.tuple #[v0_, .int .i64 r2]) ∧ Kd.R k43 43 w' w.heap.size (fun _ => True) v0_ r1 ∧ Below w.heap.size w w' := by
  have HR0 := Aside0.mk hr0
  have HC0 := Aside0.mk hc0
  clear hr0 hc0
  have HB := Aside0.mk (Below.refl w.heap.size w)
  have hu44 := Try.underlying44
  have hu43 := Try.underlying43
  have hu30 := Try.underlying30
  unfold pool_Get.f at h
  obtain ⟨⟨t0, t1⟩, A1, h⟩ := Option.bind_eq_some_iff.mp h
  replace h : (if t1 = 0 then (if t0 > 255 then some ([], 3) else if 0 ≤ t0 then pool_Get.loop l0 t0.toNat 2 [] else none) else some ([], t1)) = some (r1, r2) := h
  have A1_ := Aside0.mk A1
  clear A1
  by_cases c1 : t1 = 0
  · rw [if_pos c1] at h
    subst c1
    by_cases c2 : t0 > 255
    · rw [if_pos c2] at h
      simp only [Option.some.injEq, Prod.mk.injEq] at h
      obtain ⟨rfl, rfl⟩ := h
      have c2b0 : decide (255 < t0) = true := decide_eq_true c2
      clear c2
      go_enter Try.func15, Try.ntmps15
      go_wp2_with (first | (go_at_call 21; (with_reducible refine (ends_Get.calls 20 _ _ l0 0 2 t0 _ _ ?side1 ?side2 A1_.out).mono ?_); (case side1 => repeat (first | exact HR0.out | exact (Kd.C_below HR0.out HB.out) | (with_reducible refine Kd.C_alloc ?_ _) | (with_reducible refine Kd.C_drewN ?_ _) | (with_reducible refine Kd.C_drew ?_))); (case side2 => exact HC0.out); rintro e w8 ⟨rfl, hb⟩; have n1_ := Aside0.mk (below_step (by repeat (first | (with_reducible first | exact HB.out | apply below_alloc | apply pw_below_drewN | apply below_drew1) | exact HB.out)) hb); clear HB; have HB := n1_; clear n1_; clear hb))
      go_ret2
      exact ⟨_, rfl, Kd.R_nil _ _ _ _ _, HB.out⟩
    · rw [if_neg c2] at h
      by_cases c3 : 0 ≤ t0
      · rw [if_pos c3] at h
        have c2b0 : decide (255 < t0) = false := decide_eq_false c2
        have C23 := Aside0.mk (And.intro c3 (Int.not_lt.1 c2))
        have H0 := Aside0.mk h
        clear h c2 c3
        go_enter Try.func15, Try.ntmps15
        go_wp2_with (first | (go_at_call 21; (with_reducible refine (ends_Get.calls 20 _ _ l0 0 2 t0 _ _ ?side1 ?side2 A1_.out).mono ?_); (case side1 => repeat (first | exact HR0.out | exact (Kd.C_below HR0.out HB.out) | (with_reducible refine Kd.C_alloc ?_ _) | (with_reducible refine Kd.C_drewN ?_ _) | (with_reducible refine Kd.C_drew ?_))); (case side2 => exact HC0.out); rintro e w8 ⟨rfl, hb⟩; have n1_ := Aside0.mk (below_step (by repeat (first | (with_reducible first | exact HB.out | apply below_alloc | apply pw_below_drewN | apply below_drew1) | exact HB.out)) hb); clear HB; have HB := n1_; clear n1_; clear hb))
        clear c2b0
        go_loopg [6, 7, 25] t0.toNat (fun kq v6 v7 v25 w' => ∃ (acc : List S43) (at_ : Int), v7 = .int .i64 at_ ∧ v25 = .int .u32 (t0 - (kq : Int)) ∧ Aside0 ((kq : Int) ≤ t0 ∧ 2 ≤ at_ ∧ at_ + 4 * (kq : Int) ≤ 2000 ∧ acc.length + kq ≤ 255) ∧ Aside0 (pool_Get.loop l0 kq at_ acc = some (r1, r2)) ∧ Aside0 (Kd.R k43 43 w' w.heap.size (fun _ => True) v6 acc) ∧ Aside0 (Below w.heap.size w w'))
        case atStart => exact ⟨[], 2, rfl, (by have := C23.out; rw [Int.toNat_of_nonneg this.1, Int.sub_self]), ⟨by have := C23.out; simp; omega⟩, H0, ⟨Kd.R_nil _ _ _ _ _⟩, ⟨by repeat (first | (with_reducible first | exact HB.out | apply below_alloc | apply pw_below_drewN | apply below_drew1) | exact HB.out)⟩⟩
        case round =>
          clear HB H0 A1_
          obtain ⟨acc, at_, rfl, rfl, HN, HA, HO6, HB⟩ := hrel
          cases gk with
          | zero =>
            have h := HA.out
            clear HA
            unfold pool_Get.loop at h
            have c4b0 : decide (t0 - ((0 : Nat) : Int) < t0) = false := decide_eq_false (by omega)
            have c4b1 : decide (t0 < t0) = false := decide_eq_false (by omega)
            by_cases c5 : at_ < (l0.length : Int)
            · rw [if_pos c5] at h
              simp only [Option.some.injEq, Prod.mk.injEq] at h
              obtain ⟨rfl, rfl⟩ := h
              have c5b0 : decide (at_ < (l0.length : Int)) = true := decide_eq_true c5
              clear c5
              go_wp2
              go_ret2
              exact ⟨_, rfl, Kd.R_nil _ _ _ _ _, HB.out⟩
            · rw [if_neg c5] at h
              simp only [Option.some.injEq, Prod.mk.injEq] at h
              obtain ⟨rfl, rfl⟩ := h
              have c5b0 : decide (at_ < (l0.length : Int)) = false := decide_eq_false c5
              clear c5
              go_wp2
              go_ret2
              exact ⟨_, rfl, HO6.out, HB.out⟩
          | succ k1 =>
            have h := HA.out
            clear HA
            unfold pool_Get.loop at h
            obtain ⟨⟨p0, p1⟩, A2, h⟩ := Option.bind_eq_some_iff.mp h
            replace h : (if p1 = 0 then (if p0.length = 4 then (if (pool_dec (rd p0 0) (rd p0 1) (rd p0 2) (rd p0 3)).2 = true then pool_Get.loop l0 k1 (at_ + 4) (acc ++ [(pool_dec (rd p0 0) (rd p0 1) (rd p0 2) (rd p0 3)).1]) else some ([], 5)) else none) else some ([], 4)) = some (r1, r2) := h
            have A2_ := Aside0.mk A2
            clear A2
            obtain ⟨i25, hi25⟩ : ∃ i_ : Int, i_ = t0 - ((k1 + 1 : Nat) : Int) := ⟨_, rfl⟩
            rw [← hi25]
            have HI := Aside0.mk hi25
            have c4b0 : decide (i25 < t0) = true := decide_eq_true (by omega)
            clear hi25
            by_cases c5 : p1 = 0
            · rw [if_pos c5] at h
              have c5b0 : (p1 == 0) = true := beq_iff_eq.mpr c5
              have c5b1 : (p1 != 0) = false := bne_eq_false_iff_eq.mpr c5
              clear c5
              by_cases c6 : p0.length = 4
              · rw [if_pos c6] at h
                obtain ⟨⟨d, db⟩, hd⟩ : ∃ d_ : S43 × Bool, d_ = pool_dec (rd p0 0) (rd p0 1) (rd p0 2) (rd p0 3) := ⟨_, rfl⟩
                rw [← hd] at h
                replace h : (if db = true then pool_Get.loop l0 k1 (at_ + 4) (acc ++ [d]) else some ([], 5)) = some (r1, r2) := h
                have HD := Aside0.mk hd
                have C6 := Aside0.mk c6
                have H' := Aside0.mk h
                clear hd h c6
                go_upto_region 13 with (first | (go_at_call 22; (with_reducible refine (ends_Part.calls 10 _ _ l0 at_ 4 p0 _ _ ?side1 ?side2 A2_.out).mono ?_); (case side1 => repeat (first | exact HR0.out | exact (Kd.C_below HR0.out HB.out) | (with_reducible refine Kd.C_alloc ?_ _) | (with_reducible refine Kd.C_drewN ?_ _) | (with_reducible refine Kd.C_drew ?_))); (case side2 => exact HC0.out); rintro e w30 ⟨v30, rfl, ho0, hb⟩; have n0_ := Aside0.mk (Kd.R_below (by (with_reducible repeat (first | apply Kd.R_alloc | apply Kd.R_drewN | apply Kd.R_drew)); exact HO6.out) hb); have n2_ := Aside0.mk (Kd.R_lower ho0 (below_size (by repeat (first | (with_reducible first | exact HB.out | apply below_alloc | apply pw_below_drewN | apply below_drew1) | exact HB.out)))); have n1_ := Aside0.mk (below_step (by repeat (first | (with_reducible first | exact HB.out | apply below_alloc | apply pw_below_drewN | apply below_drew1) | exact HB.out)) hb); clear HB; have HB := n1_; clear n1_; clear HO6; have HO6 := n0_; have HOP := n2_; clear n0_ n2_ hb ho0))
                obtain ⟨gp, cp, e_, hpb, hpl, cellsp, hpc⟩ := Kd.R_form HOP.out (by rw [C6.out]; omega)
                rw [C6.out] at e_
                subst e_
                have HOP2 := HOP.out
                obtain ⟨hx0, _⟩ := Kd.R_celln 0 HOP2 (0 : Int) (by omega) (by omega)
                obtain ⟨hx1, _⟩ := Kd.R_celln 0 HOP2 (1 : Int) (by omega) (by omega)
                obtain ⟨hx2, _⟩ := Kd.R_celln 0 HOP2 (2 : Int) (by omega) (by omega)
                obtain ⟨hx3, _⟩ := Kd.R_celln 0 HOP2 (3 : Int) (by omega) (by omega)
                simp only [Int.reduceToNat, Int.toNat_zero, Int.toNat_one] at hx0 hx1 hx2 hx3
                replace hx0 : w30.cell? ⟨gp, 0, none⟩ = some (.int .u8 (rd p0 0)) := hx0
                replace hx1 : w30.cell? ⟨gp, 1, none⟩ = some (.int .u8 (rd p0 1)) := hx1
                replace hx2 : w30.cell? ⟨gp, 2, none⟩ = some (.int .u8 (rd p0 2)) := hx2
                replace hx3 : w30.cell? ⟨gp, 3, none⟩ = some (.int .u8 (rd p0 3)) := hx3
                clear HOP2 hpb hpl hpc
                have harr : ∀ W : World, (Instr.arrayAt 44 (.slice (some ⟨gp, 0, none⟩) 4 cp)).run Try.prog W = .ok (.pointer (some ⟨gp, 0, none⟩)) W := fun W => run_arrayAt W 44 5 4 (some ⟨gp, 0, none⟩) 4 cp Try.underlying44 (Nat.le_refl _)
                go_upto_region 14 with (first | (go_at_call 18; (with_reducible refine (pool_entry.calls (rd p0 0) (rd p0 1) (rd p0 2) (rd p0 3) _).mono ?_); rintro e w31 ⟨rfl, hb⟩; rw [← HD.out]; have n0_ := Aside0.mk (Kd.R_below (by (with_reducible repeat (first | apply Kd.R_alloc | apply Kd.R_drewN | apply Kd.R_drew)); exact HO6.out) hb); have n1_ := Aside0.mk (below_step (by repeat (first | (with_reducible first | exact HB.out | apply below_alloc | apply pw_below_drewN | apply below_drew1) | exact HB.out)) hb); clear HB; have HB := n1_; clear n1_; clear HO6; have HO6 := n0_; clear n0_ hb))
                obtain ⟨w32, hw32⟩ : ∃ w_ : World, w_ = w31.alloc (.cells #[.int .u8 d.f0, .int .u16 d.f1, .int .u8 d.f2, .bool d.f3, .int .u16 d.f4, .int .u8 d.f5, .int .u8 d.f6] 43) := ⟨_, rfl⟩
                obtain ⟨gx, hgx⟩ : ∃ g_ : Nat, g_ = w31.heap.size := ⟨_, rfl⟩
                rw [← hw32, ← hgx]
                have hbx : w32.heap[gx]? = some (.cells #[.int .u8 d.f0, .int .u16 d.f1, .int .u8 d.f2, .bool d.f3, .int .u16 d.f4, .int .u8 d.f5, .int .u8 d.f6] 43 (0, 0)) := by rw [hw32, hgx]; exact blk_new _ _
                have n0_ := Aside0.mk (show Kd.R k43 43 w32 w.heap.size (fun _ => True) _ acc by rw [hw32]; exact Kd.R_alloc HO6.out _)
                have n1_ := Aside0.mk (show Below w.heap.size w w32 by rw [hw32]; exact below_alloc HB.out _)
                clear HO6 HB hw32 hgx HOP hx0 hx1 hx2 hx3
                have HO6 := n0_
                have HB := n1_
                clear n0_ n1_
                have hz0 : w32.cell? ⟨gx, 0, none⟩ = some (.int .u8 d.f0) := (blk_cell hbx 0).trans rfl
                have hz1 : w32.cell? ⟨gx, 1, none⟩ = some (.int .u16 d.f1) := (blk_cell hbx 1).trans rfl
                have hz2 : w32.cell? ⟨gx, 2, none⟩ = some (.int .u8 d.f2) := (blk_cell hbx 2).trans rfl
                have hz3 : w32.cell? ⟨gx, 3, none⟩ = some (.bool d.f3) := (blk_cell hbx 3).trans rfl
                have hz4 : w32.cell? ⟨gx, 4, none⟩ = some (.int .u16 d.f4) := (blk_cell hbx 4).trans rfl
                have hz5 : w32.cell? ⟨gx, 5, none⟩ = some (.int .u8 d.f5) := (blk_cell hbx 5).trans rfl
                have hz6 : w32.cell? ⟨gx, 6, none⟩ = some (.int .u8 d.f6) := (blk_cell hbx 6).trans rfl
                clear hbx
                have hwr : wrap64 (at_ + 4) = at_ + 4 := by have := HN.out; unfold wrap64; omega
                have HWR := Aside0.mk hwr
                clear hwr
                cases db with
                | false =>
                  have h := H'.out
                  rw [if_neg (by decide)] at h
                  simp only [Option.some.injEq, Prod.mk.injEq] at h
                  obtain ⟨rfl, rfl⟩ := h
                  go_wp2
                  go_ret2
                  exact ⟨_, rfl, Kd.R_nil _ _ _ _ _, HB.out⟩
                | true =>
                  have h := H'.out
                  rw [if_pos rfl] at h
                  have H2 := Aside0.mk h
                  clear h H'
                  go_wp2_with (first | ((with_reducible refine gate_builtin (b := .append) (xs := #[.tmp 44, .tmp 46]) rfl ?_); at_builtin; refine Kd.R_append k43 (w0 := w) w.heap.size rfl (.tmp 44) (.tmp 46) 30 43 (.agg #[.int .u8 0, .int .u16 0, .int .u8 0, .bool false, .int .u16 0, .int .u8 0, .int .u8 0]) 10 rfl Try.underlying30 pool_info43 rfl (by decide) (by omega) _ acc d [.int .u8 d.f0, .int .u16 d.f1, .int .u8 d.f2, .bool d.f3, .int .u16 d.f4, .int .u8 d.f5, .int .u8 d.f6] (fun _ => True) (fun _ => False) rfl (by first | (go_simp; done) | (go_simp; rfl)) ?aP (fun _ hk => hk.elim) ?aF ?aO ?aB ?aS ?aL ?_; (case aP => exact k43_mkM _ _ _ d); (case aF => exact (fun _ _ => trivial)); (case aB => exact HB.out); (case aO => exact HO6.out); (case aS => exact (below_size HB.out)); (case aL => have := HN.out; omega); intro v47 w47 ho hb hg hat; have n0_ := Aside0.mk ho; have n1_ := Aside0.mk hb; clear HO6 HB; have HO6 := n0_; have HB := n1_; clear n0_ n1_ ho hb hg hat))
                  go_roundg k1
                  case measure => omega
                  case rel =>
                    refine ⟨acc ++ [d], at_ + 4, ?_, ?_, ⟨?_⟩, H2, ⟨by (with_reducible repeat (first | apply Kd.R_alloc | apply Kd.R_drewN | apply Kd.R_drew)); exact HO6.out⟩, ⟨by repeat (first | (with_reducible first | exact HB.out | apply below_alloc | apply pw_below_drewN | apply below_drew1) | exact HB.out)⟩⟩
                    · first | (rw [HWR.out]; done) | (simp only [HWR.out]; done) | (simp [HWR.out]; done)
                    · have h1_ := HI.out
                      have h2_ := C23.out
                      have h3_ := HN.out
                      first | (rw [show (i25 + 1) % 4294967296 = t0 - (k1 : Int) from by omega]; done) | (simp only [Value.int.injEq, true_and]; omega)
                    · have := HN.out
                      simp only [List.length_append, List.length_singleton]
                      omega
              · rw [if_neg c6] at h
                cases h
            · rw [if_neg c5] at h
              simp only [Option.some.injEq, Prod.mk.injEq] at h
              obtain ⟨rfl, rfl⟩ := h
              have c5b0 : (p1 == 0) = false := beq_eq_false_iff_ne.mpr c5
              have c5b1 : (p1 != 0) = true := bne_iff_ne.mpr c5
              clear c5
              go_wp2_with (first | (go_at_call 22; (with_reducible refine (ends_Part.calls 10 _ _ l0 at_ 4 p0 _ _ ?side1 ?side2 A2_.out).mono ?_); (case side1 => repeat (first | exact HR0.out | exact (Kd.C_below HR0.out HB.out) | (with_reducible refine Kd.C_alloc ?_ _) | (with_reducible refine Kd.C_drewN ?_ _) | (with_reducible refine Kd.C_drew ?_))); (case side2 => exact HC0.out); rintro e w30 ⟨v30, rfl, ho0, hb⟩; have n0_ := Aside0.mk (Kd.R_below (by (with_reducible repeat (first | apply Kd.R_alloc | apply Kd.R_drewN | apply Kd.R_drew)); exact HO6.out) hb); have n2_ := Aside0.mk (Kd.R_lower ho0 (below_size (by repeat (first | (with_reducible first | exact HB.out | apply below_alloc | apply pw_below_drewN | apply below_drew1) | exact HB.out)))); have n1_ := Aside0.mk (below_step (by repeat (first | (with_reducible first | exact HB.out | apply below_alloc | apply pw_below_drewN | apply below_drew1) | exact HB.out)) hb); clear HB; have HB := n1_; clear n1_; clear HO6; have HO6 := n0_; have HOP := n2_; clear n0_ n2_ hb ho0))
              go_ret2
              exact ⟨_, rfl, Kd.R_nil _ _ _ _ _, HB.out⟩
      · rw [if_neg c3] at h
        cases h
  · rw [if_neg c1] at h
    simp only [Option.some.injEq, Prod.mk.injEq] at h
    obtain ⟨rfl, rfl⟩ := h
    have c1b0 : (t1 == 0) = false := beq_eq_false_iff_ne.mpr c1
    have c1b1 : (t1 != 0) = true := bne_iff_ne.mpr c1
    clear c1
    go_enter Try.func15, Try.ntmps15
    go_wp2_with (first | (go_at_call 21; (with_reducible refine (ends_Get.calls 20 _ _ l0 0 2 t0 _ _ ?side1 ?side2 A1_.out).mono ?_); (case side1 => repeat (first | exact HR0.out | exact (Kd.C_below HR0.out HB.out) | (with_reducible refine Kd.C_alloc ?_ _) | (with_reducible refine Kd.C_drewN ?_ _) | (with_reducible refine Kd.C_drew ?_))); (case side2 => exact HC0.out); rintro e w8 ⟨rfl, hb⟩; have n1_ := Aside0.mk (below_step (by repeat (first | (with_reducible first | exact HB.out | apply below_alloc | apply pw_below_drewN | apply below_drew1) | exact HB.out)) hb); clear HB; have HB := n1_; clear n1_; clear hb))
    go_ret2
    exact ⟨_, rfl, Kd.R_nil _ _ _ _ _, HB.out⟩

/-! ### garderobelaw07_works: function 11 -/
def garderobelaw07_works.f (k : Nat)  : Option (Bool) := (pool_Split.f 33282).bind fun bt133 => ((pool_Ref.f true 2 2).bind fun bt136 => ((pool_Ref.f false 32768 0).bind fun bt138 => ((pool_Get.f k (([0, 1, 7, 0, 0, 0] : List Int))).bind fun bt143 => (if bt133.1 = true then (if bt133.2.1 = 2 then (if bt133.2.2 = 2 then (if bt136.1 = 33282 then (if bt136.2 = 0 then (if bt138.2 = 2 then (some (bt143.2 == 5)) else (none)) else (none)) else (none)) else (none)) else (none)) else (none)))))
theorem garderobelaw07_works.mono : ∀ k, LeO (garderobelaw07_works.f k ) (garderobelaw07_works.f (k + 1) ) := by
  intro  k
  unfold garderobelaw07_works.f
  repeat' first
      | (with_reducible exact pool_Get.mono _ _)
      | (with_reducible exact LeO.refl _)
      | (with_reducible exact LeO.none _)
      | (with_reducible refine LeO.ite ?_ ?_)
      | (with_reducible refine LeO.bind ?_ (fun _ => ?_))
      | exact pool_Get.mono _ _
      | exact LeO.none _
      | refine LeO.ite ?_ ?_
      | refine LeO.bind ?_ (fun _ => ?_)
set_option maxHeartbeats 8000000 in
set_option maxRecDepth 100000 in
theorem garderobelaw07_works.calls (k : Nat)  (r : Bool) (w : World) (h : garderobelaw07_works.f k  = some r) :
    Calls Try.prog 11 #[] w fun e w' => e = .returned (.bool r) ∧ Below w.heap.size w w' := by
  have HB := Aside0.mk (Below.refl w.heap.size w)
  have H : ((pool_Split.f 33282).bind fun bt133 => ((pool_Ref.f true 2 2).bind fun bt136 => ((pool_Ref.f false 32768 0).bind fun bt138 => ((pool_Get.f k (([0, 1, 7, 0, 0, 0] : List Int))).bind fun bt143 => (if bt133.1 = true then (if bt133.2.1 = 2 then (if bt133.2.2 = 2 then (if bt136.1 = 33282 then (if bt136.2 = 0 then (if bt138.2 = 2 then (some (bt143.2 == 5)) else (none)) else (none)) else (none)) else (none)) else (none)) else (none)))))) = some r := h
  clear h
  replace H := Option.bind_eq_some_iff.mp H
  obtain ⟨⟨t133, t134, t135⟩, A10, H⟩ := H
  replace H : ((pool_Ref.f true 2 2).bind fun bt136 => ((pool_Ref.f false 32768 0).bind fun bt138 => ((pool_Get.f k (([0, 1, 7, 0, 0, 0] : List Int))).bind fun bt143 => (if t133 = true then (if t134 = 2 then (if t135 = 2 then (if bt136.1 = 33282 then (if bt136.2 = 0 then (if bt138.2 = 2 then (some (bt143.2 == 5)) else (none)) else (none)) else (none)) else (none)) else (none)) else (none))))) = some r := H
  have A1 := Aside0.mk A10
  clear A10
  replace H := Option.bind_eq_some_iff.mp H
  obtain ⟨⟨t136, t137⟩, A20, H⟩ := H
  replace H : ((pool_Ref.f false 32768 0).bind fun bt138 => ((pool_Get.f k (([0, 1, 7, 0, 0, 0] : List Int))).bind fun bt143 => (if t133 = true then (if t134 = 2 then (if t135 = 2 then (if t136 = 33282 then (if t137 = 0 then (if bt138.2 = 2 then (some (bt143.2 == 5)) else (none)) else (none)) else (none)) else (none)) else (none)) else (none)))) = some r := H
  have A2 := Aside0.mk A20
  clear A20
  replace H := Option.bind_eq_some_iff.mp H
  obtain ⟨⟨t138, t139⟩, A30, H⟩ := H
  replace H : ((pool_Get.f k (([0, 1, 7, 0, 0, 0] : List Int))).bind fun bt143 => (if t133 = true then (if t134 = 2 then (if t135 = 2 then (if t136 = 33282 then (if t137 = 0 then (if t139 = 2 then (some (bt143.2 == 5)) else (none)) else (none)) else (none)) else (none)) else (none)) else (none))) = some r := H
  have A3 := Aside0.mk A30
  clear A30
  obtain ⟨y140, hy140⟩ : ∃ y_ : List Int, y_ = (([0, 1, 7, 0, 0, 0] : List Int)) := ⟨_, rfl⟩
  replace H : ((pool_Get.f k y140).bind fun bt143 => (if t133 = true then (if t134 = 2 then (if t135 = 2 then (if t136 = 33282 then (if t137 = 0 then (if t139 = 2 then (some (bt143.2 == 5)) else (none)) else (none)) else (none)) else (none)) else (none)) else (none))) = some r := by first | (rw [hy140]; with_reducible exact H) | (have H2_ := (Option.bind_some _ _).symm.trans H; rw [hy140]; with_reducible exact H2_) | (have H2_ := (Option.bind_some _ _).symm.trans H; with_reducible exact H2_) | with_reducible exact H | (rw [hy140]; exact H) | exact H
  have Ny140 := Aside0.mk hy140
  clear hy140
  replace H := Option.bind_eq_some_iff.mp H
  obtain ⟨⟨t143, t144⟩, A40, H⟩ := H
  replace H : (if t133 = true then (if t134 = 2 then (if t135 = 2 then (if t136 = 33282 then (if t137 = 0 then (if t139 = 2 then (some (t144 == 5)) else (none)) else (none)) else (none)) else (none)) else (none)) else (none)) = some r := H
  have A4 := Aside0.mk A40
  clear A40
  by_cases c5 : t133 = true
  · subst c5
    have H1 : (if t134 = 2 then (if t135 = 2 then (if t136 = 33282 then (if t137 = 0 then (if t139 = 2 then (some (t144 == 5)) else (none)) else (none)) else (none)) else (none)) else (none)) = some r := by rw [if_pos rfl] at H; exact H
    clear H
    have H := H1
    clear H1
    by_cases c6 : t134 = 2
    · rw [if_pos c6] at H
      have c6b0 : (t134 == 2) = true := beq_iff_eq.mpr c6
      have c6b1 : (t134 != 2) = false := bne_eq_false_iff_eq.mpr c6
      clear c6
      by_cases c7 : t135 = 2
      · rw [if_pos c7] at H
        have c7b0 : (t135 == 2) = true := beq_iff_eq.mpr c7
        have c7b1 : (t135 != 2) = false := bne_eq_false_iff_eq.mpr c7
        clear c7
        by_cases c8 : t136 = 33282
        · rw [if_pos c8] at H
          have c8b0 : (t136 == 33282) = true := beq_iff_eq.mpr c8
          have c8b1 : (t136 != 33282) = false := bne_eq_false_iff_eq.mpr c8
          clear c8
          by_cases c9 : t137 = 0
          · rw [if_pos c9] at H
            have c9b0 : (t137 == 0) = true := beq_iff_eq.mpr c9
            have c9b1 : (t137 != 0) = false := bne_eq_false_iff_eq.mpr c9
            clear c9
            by_cases c10 : t139 = 2
            · rw [if_pos c10] at H
              have c10b0 : (t139 == 2) = true := beq_iff_eq.mpr c10
              have c10b1 : (t139 != 2) = false := bne_eq_false_iff_eq.mpr c10
              clear c10
              obtain rfl := Option.some.inj H
              go_enter Try.func11, Try.ntmps11
              go_wp2_with (first | ((with_reducible refine gate_callee (f := 7) rfl ?_); refine goesL_ (some 11) rfl rfl Try.func7 (by kernel_rfl) rfl #[.int .u16 33282] rfl (by (try simp only [List.map_toArray, List.map_cons, List.map_nil]); first | done | rfl | (simp only [List.length_drop, List.length_take]; rfl)) ?_; (with_reducible refine (pool_Split.calls 33282 true t134 t135 _ A1.out).mono ?_); rintro e w' ⟨rfl, ⟨nd, rfl⟩⟩; refine ⟨_, rfl, ?_⟩) | ((with_reducible refine gate_callee (f := 9) rfl ?_); refine goesL_ (some 16) rfl rfl Try.func9 (by kernel_rfl) rfl #[.bool true, .int .i64 2, .int .i64 2] rfl (by (try simp only [List.map_toArray, List.map_cons, List.map_nil]); first | done | rfl | (simp only [List.length_drop, List.length_take]; rfl)) ?_; (with_reducible refine (pool_Ref.calls true 2 2 t136 t137 _ A2.out).mono ?_); rintro e w' ⟨rfl, ⟨nd, rfl⟩⟩; refine ⟨_, rfl, ?_⟩) | ((with_reducible refine gate_callee (f := 9) rfl ?_); refine goesL_ (some 20) rfl rfl Try.func9 (by kernel_rfl) rfl #[.bool false, .int .i64 32768, .int .i64 0] rfl (by (try simp only [List.map_toArray, List.map_cons, List.map_nil]); first | done | rfl | (simp only [List.length_drop, List.length_take]; rfl)) ?_; (with_reducible refine (pool_Ref.calls false 32768 0 t138 t139 _ A3.out).mono ?_); rintro e w' ⟨rfl, ⟨nd, rfl⟩⟩; refine ⟨_, rfl, ?_⟩) | ((with_reducible refine gate_dst (N := 24) rfl ?_); refine Kd.R_lit (Kd.int .u8) _ 5 ?hg (N := 24) ?hd (xs := ([0, 1, 7, 0, 0, 0] : List Int)) (inner := [.int .u8 0, .int .u8 1, .int .u8 7, .int .u8 0, .int .u8 0, .int .u8 0]) (ok := fun _ => True) (okp := fun _ => True) ?hr ?hp (fun _ hk => hk) trivial (Below.refl _ _) (Nat.le_refl _) (by simp) ?_; (case hd => rfl); (case hg => rfl); (case hr => first | (go_simp; done) | (go_simp; rfl)); (case hp => exact (Reps.one (show Kd.M (Kd.int .u8) _ _ _ 0 [.int .u8 0] from rfl) (Reps.one (show Kd.M (Kd.int .u8) _ _ _ 1 [.int .u8 1] from rfl) (Reps.one (show Kd.M (Kd.int .u8) _ _ _ 7 [.int .u8 7] from rfl) (Reps.one (show Kd.M (Kd.int .u8) _ _ _ 0 [.int .u8 0] from rfl) (Reps.one (show Kd.M (Kd.int .u8) _ _ _ 0 [.int .u8 0] from rfl) (Reps.one (show Kd.M (Kd.int .u8) _ _ _ 0 [.int .u8 0] from rfl) (Reps.none _ _)))))))); intro v141 w11 ho12 hb hg_ hnew_; clear hg_ hnew_; (first | rw [← Ny140.out] at ho12 | (simp only [Int.reduceToNat] at ho12; rw [← Ny140.out] at ho12)); have n0_ := Aside0.mk (Kd.R_lower ho12 (below_size (by repeat (first | (with_reducible first | exact HB.out | apply below_alloc | apply pw_below_drewN | apply below_drew1) | exact HB.out)))); have n1_ := Aside0.mk (below_step (by repeat (first | (with_reducible first | exact HB.out | apply below_alloc | apply pw_below_drewN | apply below_drew1) | exact HB.out)) hb); clear HB; have HO142 := n0_; have HB := n1_; clear n0_ n1_; clear hb ho12; obtain ⟨Ao13, co13, eo13⟩ := Kd.R_slice HO142.out; subst eo13) | ((with_reducible refine gate_callee (f := 15) rfl ?_); refine goesL_ (some 25) rfl rfl Try.func15 (by kernel_rfl) rfl #[.slice Ao13 y140.length co13] rfl (by (try simp only [List.map_toArray, List.map_cons, List.map_nil]); first | done | rfl | (simp only [List.length_drop, List.length_take]; rfl)) ?_; (with_reducible refine (pool_Get.calls k _ _ y140 t143 t144 _ ?side1 ?side2 A4.out).mono ?_); (case side1 => repeat (first | exact (Kd.R_reads' HO142.out).2.2 | (with_reducible refine Kd.C_alloc ?_ _) | (with_reducible refine Kd.C_drewN ?_ _) | (with_reducible refine Kd.C_drew ?_))); (case side2 => exact (Kd.R_reads' HO142.out).2.1); rintro e w14 ⟨v145, rfl, ho0, hb⟩; refine ⟨_, rfl, ?_⟩; have n0_ := Aside0.mk (Kd.R_below (by (with_reducible repeat (first | apply Kd.R_alloc | apply Kd.R_drewN | apply Kd.R_drew)); exact HO142.out) hb); have n1_ := Aside0.mk (Kd.R_lower ho0 (below_size (by repeat (first | (with_reducible first | exact HB.out | apply below_alloc | apply pw_below_drewN | apply below_drew1) | exact HB.out)))); have n2_ := Aside0.mk (below_step (by repeat (first | (with_reducible first | exact HB.out | apply below_alloc | apply pw_below_drewN | apply below_drew1) | exact HB.out)) hb); clear HO142; clear HB; have HO142 := n0_; have HO146 := n1_; have HB := n2_; clear n0_ n1_ n2_; (try clear hb); (try clear hb2); (try clear hk); (try clear hi); (try clear ho0)))
              go_ret
              exact ⟨by first | rfl | (simp [errW_none, errW_some] <;> rfl) | (simp [*, errW_none, errW_some] <;> rfl), by repeat (first | (with_reducible first | exact HB.out | apply below_alloc | apply pw_below_drewN | apply below_drew1) | exact HB.out)⟩
            · rw [if_neg c10] at H
              exact absurd H (by simp)
          · rw [if_neg c9] at H
            exact absurd H (by simp)
        · rw [if_neg c8] at H
          exact absurd H (by simp)
      · rw [if_neg c7] at H
        exact absurd H (by simp)
    · rw [if_neg c6] at H
      exact absurd H (by simp)
  · replace c5 := Bool.eq_false_iff.mpr c5
    subst c5
    have H1 : (none) = some r := by rw [if_neg (show ¬ (false = true) by decide)] at H; exact H
    clear H
    have H := H1
    clear H1
    exact absurd H (by simp)

-- NOT PRINTED: function 17 (pool_bytes)

end Go.Proofs.Ytechlmlokgjlnaa.PPoolOne
