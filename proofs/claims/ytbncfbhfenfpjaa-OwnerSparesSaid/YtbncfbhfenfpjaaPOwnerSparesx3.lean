-- PRINTED BY print.sh 35421559b90ae4d0a3588c463048766b98c2df88dd9212a6774a882060cdf62d: not written by this session
import Derived.Test.YtbncfbhfenfpjaaPOwnerSparesx0
import Derived.Test.YtbncfbhfenfpjaaPOwnerSparesx1
import Derived.Test.YtbncfbhfenfpjaaPOwnerSparesx2
namespace Go.Proofs.Ytbncfbhfenfpjaa.POwnerSpares
open Go.RowKit Go.Proofs.YtbncfbhfenfpjaaW.PrintWords Go.Proofs.YtbncfbhfenfpjaaW.PrintLast Go.Proofs.YtbncfbhfenfpjaaW.PrintMore
attribute [local go_sem] max2_int min2_int max_two min_two max_three min_three max_four min_four   -- for this text's walks alone
set_option linter.unusedVariables false
set_option linter.unusedSimpArgs false

/-! ### garderoberef19_Spares: function 13 -/
def garderoberef19_Spares.j0 : Nat → Int → Int → Bool → Option (Bool)
  | 0, _, _, _ => none
  | k + 1, x0, x5, x6 => if x6 = true then ((garderoberef19_family.f k x0).bind fun t122 => (some (decide (t122 > 0)))) else (if x5 = 3 then ((garderoberef19_family.f k x0).bind fun t123 => (some (t123 == 1))) else (if x5 = 4 then ((garderoberef19_family.f k x0).bind fun t124 => (some (t124 == 3))) else (some false)))
def garderoberef19_Spares.f (k : Nat) (a0 : Int) (a1 : Int) : Option (Bool) := if a1 = 1 then (garderoberef19_Spares.j0 k a0 a1 (a1 == 1)) else (garderoberef19_Spares.j0 k a0 a1 (a1 == 2))
theorem garderoberef19_Spares.mono_l : ∀ k, (∀ y0 y1 y2, LeO (garderoberef19_Spares.j0 k y0 y1 y2) (garderoberef19_Spares.j0 (k + 1) y0 y1 y2))
  | 0 => fun _ _ _ r h => by simp [garderoberef19_Spares.j0] at h
  | k + 1 => by
    have ih0 := garderoberef19_Spares.mono_l k
    · intro y0 y1 y2
      unfold garderoberef19_Spares.j0
      repeat' first
      | (with_reducible exact ih0 _ _ _)
      | (with_reducible exact garderoberef19_family.mono _ _)
      | (with_reducible exact LeO.refl _)
      | (with_reducible exact LeO.none _)
      | (with_reducible refine LeO.ite ?_ ?_)
      | (with_reducible refine LeO.bind ?_ (fun _ => ?_))
      | exact ih0 _ _ _
      | exact garderoberef19_family.mono _ _
      | exact LeO.none _
      | refine LeO.ite ?_ ?_
      | refine LeO.bind ?_ (fun _ => ?_)
theorem garderoberef19_Spares.mono : ∀ a0 a1 k, LeO (garderoberef19_Spares.f k a0 a1) (garderoberef19_Spares.f (k + 1) a0 a1) := by
  intro a0 a1 k
  have ih0 := garderoberef19_Spares.mono_l k
  unfold garderoberef19_Spares.f
  repeat' first
      | (with_reducible exact ih0 _ _ _)
      | (with_reducible exact garderoberef19_family.mono _ _)
      | (with_reducible exact LeO.refl _)
      | (with_reducible exact LeO.none _)
      | (with_reducible refine LeO.ite ?_ ?_)
      | (with_reducible refine LeO.bind ?_ (fun _ => ?_))
      | exact ih0 _ _ _
      | exact garderoberef19_family.mono _ _
      | exact LeO.none _
      | refine LeO.ite ?_ ?_
      | refine LeO.bind ?_ (fun _ => ?_)
set_option maxHeartbeats 8000000 in
set_option maxRecDepth 100000 in
theorem garderoberef19_Spares.calls (k : Nat) (a0 : Int) (a1 : Int) (r : Bool) (w : World) (h : garderoberef19_Spares.f k a0 a1 = some r) :
    Calls Try.prog 13 #[.int .u8 a0, .int .u8 a1] w fun e w' => e = .returned (.bool r) ∧ Drawn0 w w' := by
  have H : (if a1 = 1 then (garderoberef19_Spares.j0 k a0 a1 (a1 == 1)) else (garderoberef19_Spares.j0 k a0 a1 (a1 == 2))) = some r := h
  clear h
  have HC3 := Aside0.mk H
  clear H
  go_enter Try.func13, Try.ntmps13
  go_upto_if 6 with (fail)
  go_cut [6] (fun v6 wc => ∃ (kq : Nat) (x6_2 : Bool), v6 = .bool x6_2 ∧ Aside0 (garderoberef19_Spares.j0 kq a0 a1 x6_2 = some r) ∧ Aside0 (kq ≤ k) ∧ Drawn0 w wc)
  case first =>
    have H := HC3.out
    clear HC3
    by_cases c4 : a1 = 1
    · rw [if_pos c4] at H
      have c4b0 : (a1 == 1) = true := beq_iff_eq.mpr c4
      have c4b1 : (a1 != 1) = false := bne_eq_false_iff_eq.mpr c4
      clear c4
      (first | rw [c4b0] | (simp only [i64_w, i32_w]; rw [c4b0]) | skip)
      have H' := Aside0.mk H
      clear H
      go_wp2
      go_meet
      case rel => exact ⟨_, ((a1 == 1)), (by first | rfl | (simp; done) | (simp [*]; done)), H', ⟨by first | omega | exact Nat.le_refl _⟩, by repeat (first | exact Drawn0.refl _ | apply Drawn0.step)⟩
    · rw [if_neg c4] at H
      have c4b0 : (a1 == 1) = false := beq_eq_false_iff_ne.mpr c4
      have c4b1 : (a1 != 1) = true := bne_iff_ne.mpr c4
      (first | rw [c4b0] | (simp only [i64_w, i32_w]; rw [c4b0]) | skip)
      have H' := Aside0.mk H
      clear H
      go_wp2
      go_meet
      case rel => exact ⟨_, ((a1 == 2)), (by first | rfl | (simp; done) | (simp [*]; done)), H', ⟨by first | omega | exact Nat.le_refl _⟩, by repeat (first | exact Drawn0.refl _ | apply Drawn0.step)⟩
  case rest =>
    clear HC3
    try clear c1
    try clear p2
    try clear c4
    try clear c4b0
    try clear c4b1
    obtain ⟨kq, x6_2, rfl, HA, HJ2, ⟨mc2, rfl⟩⟩ := hcut
    cases kq with
    | zero => exact absurd HA.out (by simp [garderoberef19_Spares.j0])
    | succ kj2 =>
      have H := HA.out
      clear HA
      simp only [garderoberef19_Spares.j0] at H
      by_cases c5 : x6_2 = true
      · subst c5
        have H1 : ((garderoberef19_family.f kj2 a0).bind fun t122 => (some (decide (t122 > 0)))) = some r := by rw [if_pos rfl] at H; exact H
        clear H
        have H := H1
        clear H1
        replace H := Option.bind_eq_some_iff.mp H
        obtain ⟨t122, A60, H⟩ := H
        replace H : (some (decide (t122 > 0))) = some r := H
        have A6 := Aside0.mk A60
        clear A60
        obtain rfl := Option.some.inj H
        go_wp2_with (first | ((with_reducible refine gate_callee (f := 22) rfl ?_); refine goesL_ (some 10) rfl rfl Try.func22 (by kernel_rfl) rfl #[.int .u8 a0] rfl (by (try simp only [List.map_toArray, List.map_cons, List.map_nil]); first | done | rfl | (simp only [List.length_drop, List.length_take]; rfl)) ?_; (with_reducible refine (garderoberef19_family.calls kj2 a0 t122 _ A6.out).mono ?_); rintro e w' ⟨rfl, ⟨nd, rfl⟩⟩; refine ⟨_, rfl, ?_⟩))
        go_ret
        exact ⟨by first | rfl | (simp; done) | (simp [*]; done), by repeat (first | exact Drawn0.refl _ | apply Drawn0.step)⟩
      · replace c5 := Bool.eq_false_iff.mpr c5
        subst c5
        have H1 : (if a1 = 3 then ((garderoberef19_family.f kj2 a0).bind fun t123 => (some (t123 == 1))) else (if a1 = 4 then ((garderoberef19_family.f kj2 a0).bind fun t124 => (some (t124 == 3))) else (some false))) = some r := by rw [if_neg (show ¬ (false = true) by decide)] at H; exact H
        clear H
        have H := H1
        clear H1
        by_cases c7 : a1 = 3
        · rw [if_pos c7] at H
          have c7b0 : (a1 == 3) = true := beq_iff_eq.mpr c7
          have c7b1 : (a1 != 3) = false := bne_eq_false_iff_eq.mpr c7
          clear c7
          replace H := Option.bind_eq_some_iff.mp H
          obtain ⟨t123, A80, H⟩ := H
          replace H : (some (t123 == 1)) = some r := H
          have A8 := Aside0.mk A80
          clear A80
          obtain rfl := Option.some.inj H
          go_wp2_with (first | ((with_reducible refine gate_callee (f := 22) rfl ?_); refine goesL_ (some 15) rfl rfl Try.func22 (by kernel_rfl) rfl #[.int .u8 a0] rfl (by (try simp only [List.map_toArray, List.map_cons, List.map_nil]); first | done | rfl | (simp only [List.length_drop, List.length_take]; rfl)) ?_; (with_reducible refine (garderoberef19_family.calls kj2 a0 t123 _ A8.out).mono ?_); rintro e w' ⟨rfl, ⟨nd, rfl⟩⟩; refine ⟨_, rfl, ?_⟩))
          go_ret
          exact ⟨by first | rfl | (simp; done) | (simp [*]; done), by repeat (first | exact Drawn0.refl _ | apply Drawn0.step)⟩
        · rw [if_neg c7] at H
          have c7b0 : (a1 == 3) = false := beq_eq_false_iff_ne.mpr c7
          have c7b1 : (a1 != 3) = true := bne_iff_ne.mpr c7
          by_cases c9 : a1 = 4
          · rw [if_pos c9] at H
            have c9b0 : (a1 == 4) = true := beq_iff_eq.mpr c9
            have c9b1 : (a1 != 4) = false := bne_eq_false_iff_eq.mpr c9
            clear c9
            replace H := Option.bind_eq_some_iff.mp H
            obtain ⟨t124, A100, H⟩ := H
            replace H : (some (t124 == 3)) = some r := H
            have A10 := Aside0.mk A100
            clear A100
            obtain rfl := Option.some.inj H
            go_wp2_with (first | ((with_reducible refine gate_callee (f := 22) rfl ?_); refine goesL_ (some 20) rfl rfl Try.func22 (by kernel_rfl) rfl #[.int .u8 a0] rfl (by (try simp only [List.map_toArray, List.map_cons, List.map_nil]); first | done | rfl | (simp only [List.length_drop, List.length_take]; rfl)) ?_; (with_reducible refine (garderoberef19_family.calls kj2 a0 t124 _ A10.out).mono ?_); rintro e w' ⟨rfl, ⟨nd, rfl⟩⟩; refine ⟨_, rfl, ?_⟩))
            go_ret
            exact ⟨by first | rfl | (simp; done) | (simp [*]; done), by repeat (first | exact Drawn0.refl _ | apply Drawn0.step)⟩
          · rw [if_neg c9] at H
            have c9b0 : (a1 == 4) = false := beq_eq_false_iff_ne.mpr c9
            have c9b1 : (a1 != 4) = true := bne_iff_ne.mpr c9
            obtain rfl := Option.some.inj H
            go_wp2
            go_ret
            exact ⟨by first | rfl | (simp; done) | (simp [*]; done), by repeat (first | exact Drawn0.refl _ | apply Drawn0.step)⟩

/-! ### owner_Stored: function 14 -/
def owner_Stored.f (a0 : Int) : Option (Bool) := if a0 = 55 then (some true) else (if a0 = 127 then (some true) else (some (a0 == 135)))
set_option maxHeartbeats 8000000 in
set_option maxRecDepth 100000 in
theorem owner_Stored.calls (a0 : Int) (r : Bool) (w : World) (h : owner_Stored.f a0 = some r) :
    Calls Try.prog 14 #[.int .u8 a0] w fun e w' => e = .returned (.bool r) ∧ Drawn0 w w' := by
  have H : (if a0 = 55 then (some true) else (if a0 = 127 then (some true) else (some (a0 == 135)))) = some r := h
  clear h
  by_cases c2 : a0 = 55
  · rw [if_pos c2] at H
    have c2b0 : (a0 == 55) = true := beq_iff_eq.mpr c2
    have c2b1 : (a0 != 55) = false := bne_eq_false_iff_eq.mpr c2
    clear c2
    obtain rfl := Option.some.inj H
    go_enter Try.func14, Try.ntmps14
    go_wp2
    go_ret
    exact ⟨by first | rfl | (simp; done) | (simp [*]; done), by repeat (first | exact Drawn0.refl _ | apply Drawn0.step)⟩
  · rw [if_neg c2] at H
    have c2b0 : (a0 == 55) = false := beq_eq_false_iff_ne.mpr c2
    have c2b1 : (a0 != 55) = true := bne_iff_ne.mpr c2
    by_cases c3 : a0 = 127
    · rw [if_pos c3] at H
      have c3b0 : (a0 == 127) = true := beq_iff_eq.mpr c3
      have c3b1 : (a0 != 127) = false := bne_eq_false_iff_eq.mpr c3
      clear c3
      obtain rfl := Option.some.inj H
      go_enter Try.func14, Try.ntmps14
      go_wp2
      go_ret
      exact ⟨by first | rfl | (simp; done) | (simp [*]; done), by repeat (first | exact Drawn0.refl _ | apply Drawn0.step)⟩
    · rw [if_neg c3] at H
      have c3b0 : (a0 == 127) = false := beq_eq_false_iff_ne.mpr c3
      have c3b1 : (a0 != 127) = true := bne_iff_ne.mpr c3
      obtain rfl := Option.some.inj H
      go_enter Try.func14, Try.ntmps14
      go_wp2
      go_ret
      exact ⟨by first | rfl | (simp; done) | (simp [*]; done), by repeat (first | exact Drawn0.refl _ | apply Drawn0.step)⟩

/-! ### garderoberef19_Stored: function 15 -/
def garderoberef19_Stored.f (a0 : Int) : Option (Bool) := if a0 = 55 then (some true) else (if a0 = 127 then (some true) else (some (a0 == 135)))
set_option maxHeartbeats 8000000 in
set_option maxRecDepth 100000 in
theorem garderoberef19_Stored.calls (a0 : Int) (r : Bool) (w : World) (h : garderoberef19_Stored.f a0 = some r) :
    Calls Try.prog 15 #[.int .u8 a0] w fun e w' => e = .returned (.bool r) ∧ Drawn0 w w' := by
  have H : (if a0 = 55 then (some true) else (if a0 = 127 then (some true) else (some (a0 == 135)))) = some r := h
  clear h
  by_cases c2 : a0 = 55
  · rw [if_pos c2] at H
    have c2b0 : (a0 == 55) = true := beq_iff_eq.mpr c2
    have c2b1 : (a0 != 55) = false := bne_eq_false_iff_eq.mpr c2
    clear c2
    obtain rfl := Option.some.inj H
    go_enter Try.func15, Try.ntmps15
    go_wp2
    go_ret
    exact ⟨by first | rfl | (simp; done) | (simp [*]; done), by repeat (first | exact Drawn0.refl _ | apply Drawn0.step)⟩
  · rw [if_neg c2] at H
    have c2b0 : (a0 == 55) = false := beq_eq_false_iff_ne.mpr c2
    have c2b1 : (a0 != 55) = true := bne_iff_ne.mpr c2
    by_cases c3 : a0 = 127
    · rw [if_pos c3] at H
      have c3b0 : (a0 == 127) = true := beq_iff_eq.mpr c3
      have c3b1 : (a0 != 127) = false := bne_eq_false_iff_eq.mpr c3
      clear c3
      obtain rfl := Option.some.inj H
      go_enter Try.func15, Try.ntmps15
      go_wp2
      go_ret
      exact ⟨by first | rfl | (simp; done) | (simp [*]; done), by repeat (first | exact Drawn0.refl _ | apply Drawn0.step)⟩
    · rw [if_neg c3] at H
      have c3b0 : (a0 == 127) = false := beq_eq_false_iff_ne.mpr c3
      have c3b1 : (a0 != 127) = true := bne_iff_ne.mpr c3
      obtain rfl := Option.some.inj H
      go_enter Try.func15, Try.ntmps15
      go_wp2
      go_ret
      exact ⟨by first | rfl | (simp; done) | (simp [*]; done), by repeat (first | exact Drawn0.refl _ | apply Drawn0.step)⟩

/-! ### garderoberef19_Below: function 18 -/
def garderoberef19_Below.j0 : Nat → Int → Int → Bool → Option (Bool)
  | 0, _, _, _ => none
  | k + 1, x0, x1, x18 => if x18 = true then (some (x1 == 5)) else (if x0 = 3 then (if x1 = 4 then (some false) else (if x0 = 4 then (if x1 = 3 then (some false) else (some (decide (x0 ≤ x1)))) else (some (decide (x0 ≤ x1))))) else (if x0 = 4 then (if x1 = 3 then (some false) else (some (decide (x0 ≤ x1)))) else (some (decide (x0 ≤ x1)))))
def garderoberef19_Below.f (k : Nat) (a0 : Int) (a1 : Int) : Option (Bool) := if a0 < 1 then (garderoberef19_Below.j0 k a0 a1 true) else (if a0 > 5 then (garderoberef19_Below.j0 k a0 a1 true) else (if a1 < 1 then (garderoberef19_Below.j0 k a0 a1 true) else (garderoberef19_Below.j0 k a0 a1 (decide (a1 > 5)))))
theorem garderoberef19_Below.mono_l : ∀ k, (∀ y0 y1 y2, LeO (garderoberef19_Below.j0 k y0 y1 y2) (garderoberef19_Below.j0 (k + 1) y0 y1 y2))
  | 0 => fun _ _ _ r h => by simp [garderoberef19_Below.j0] at h
  | k + 1 => by
    have ih0 := garderoberef19_Below.mono_l k
    · intro y0 y1 y2
      unfold garderoberef19_Below.j0
      repeat' first
      | (with_reducible exact ih0 _ _ _)
      | (with_reducible exact LeO.refl _)
      | (with_reducible exact LeO.none _)
      | (with_reducible refine LeO.ite ?_ ?_)
      | (with_reducible refine LeO.bind ?_ (fun _ => ?_))
      | exact ih0 _ _ _
      | exact LeO.none _
      | refine LeO.ite ?_ ?_
      | refine LeO.bind ?_ (fun _ => ?_)
theorem garderoberef19_Below.mono : ∀ a0 a1 k, LeO (garderoberef19_Below.f k a0 a1) (garderoberef19_Below.f (k + 1) a0 a1) := by
  intro a0 a1 k
  have ih0 := garderoberef19_Below.mono_l k
  unfold garderoberef19_Below.f
  repeat' first
      | (with_reducible exact ih0 _ _ _)
      | (with_reducible exact LeO.refl _)
      | (with_reducible exact LeO.none _)
      | (with_reducible refine LeO.ite ?_ ?_)
      | (with_reducible refine LeO.bind ?_ (fun _ => ?_))
      | exact ih0 _ _ _
      | exact LeO.none _
      | refine LeO.ite ?_ ?_
      | refine LeO.bind ?_ (fun _ => ?_)
set_option maxHeartbeats 8000000 in
set_option maxRecDepth 100000 in
theorem garderoberef19_Below.calls (k : Nat) (a0 : Int) (a1 : Int) (r : Bool) (w : World) (h : garderoberef19_Below.f k a0 a1 = some r) :
    Calls Try.prog 18 #[.int .u8 a0, .int .u8 a1] w fun e w' => e = .returned (.bool r) ∧ Drawn0 w w' := by
  have H : (if a0 < 1 then (garderoberef19_Below.j0 k a0 a1 true) else (if a0 > 5 then (garderoberef19_Below.j0 k a0 a1 true) else (if a1 < 1 then (garderoberef19_Below.j0 k a0 a1 true) else (garderoberef19_Below.j0 k a0 a1 (decide (a1 > 5)))))) = some r := h
  clear h
  have HC3 := Aside0.mk H
  clear H
  go_enter Try.func18, Try.ntmps18
  go_upto_region 1 with (fail)
  go_cut [18] (fun v18 wc => ∃ (kq : Nat) (x18_2 : Bool), v18 = .bool x18_2 ∧ Aside0 (garderoberef19_Below.j0 kq a0 a1 x18_2 = some r) ∧ Aside0 (kq ≤ k) ∧ Drawn0 w wc)
  case first =>
    have H := HC3.out
    clear HC3
    by_cases c4 : a0 < 1
    · rw [if_pos c4] at H
      have c4b0 : decide (a0 < 1) = true := decide_eq_true c4
      clear c4
      (first | rw [c4b0] | (simp only [i64_w, i32_w]; rw [c4b0]) | skip)
      have H' := Aside0.mk H
      clear H
      go_wp2
      go_meet
      case rel => exact ⟨_, (true), (by first | rfl | (simp; done) | (simp [*]; done)), H', ⟨by first | omega | exact Nat.le_refl _⟩, by repeat (first | exact Drawn0.refl _ | apply Drawn0.step)⟩
    · rw [if_neg c4] at H
      have c4b0 : decide (a0 < 1) = false := decide_eq_false c4
      clear c4
      (first | rw [c4b0] | (simp only [i64_w, i32_w]; rw [c4b0]) | skip)
      by_cases c5 : a0 > 5
      · rw [if_pos c5] at H
        have c5b0 : decide (5 < a0) = true := decide_eq_true c5
        clear c5
        have H' := Aside0.mk H
        clear H
        go_wp2
        go_meet
        case rel => exact ⟨_, (true), (by first | rfl | (simp; done) | (simp [*]; done)), H', ⟨by first | omega | exact Nat.le_refl _⟩, by repeat (first | exact Drawn0.refl _ | apply Drawn0.step)⟩
      · rw [if_neg c5] at H
        have c5b0 : decide (5 < a0) = false := decide_eq_false c5
        clear c5
        by_cases c6 : a1 < 1
        · rw [if_pos c6] at H
          have c6b0 : decide (a1 < 1) = true := decide_eq_true c6
          clear c6
          have H' := Aside0.mk H
          clear H
          go_wp2
          go_meet
          case rel => exact ⟨_, (true), (by first | rfl | (simp; done) | (simp [*]; done)), H', ⟨by first | omega | exact Nat.le_refl _⟩, by repeat (first | exact Drawn0.refl _ | apply Drawn0.step)⟩
        · rw [if_neg c6] at H
          have c6b0 : decide (a1 < 1) = false := decide_eq_false c6
          clear c6
          have H' := Aside0.mk H
          clear H
          go_wp2
          go_meet
          case rel => exact ⟨_, (decide (a1 > 5)), (by first | rfl | (simp; done) | (simp [*]; done)), H', ⟨by first | omega | exact Nat.le_refl _⟩, by repeat (first | exact Drawn0.refl _ | apply Drawn0.step)⟩
  case rest =>
    clear HC3
    try clear c1
    try clear p2
    try clear c4
    try clear c4b0
    try clear c5
    try clear c5b0
    try clear c6
    try clear c6b0
    obtain ⟨kq, x18_2, rfl, HA, HJ2, ⟨mc2, rfl⟩⟩ := hcut
    cases kq with
    | zero => exact absurd HA.out (by simp [garderoberef19_Below.j0])
    | succ kj2 =>
      have H := HA.out
      clear HA
      simp only [garderoberef19_Below.j0] at H
      by_cases c7 : x18_2 = true
      · subst c7
        have H1 : (some (a1 == 5)) = some r := by rw [if_pos rfl] at H; exact H
        clear H
        have H := H1
        clear H1
        obtain rfl := Option.some.inj H
        go_wp2
        go_ret
        exact ⟨by first | rfl | (simp; done) | (simp [*]; done), by repeat (first | exact Drawn0.refl _ | apply Drawn0.step)⟩
      · replace c7 := Bool.eq_false_iff.mpr c7
        subst c7
        have H1 : (if a0 = 3 then (if a1 = 4 then (some false) else (if a0 = 4 then (if a1 = 3 then (some false) else (some (decide (a0 ≤ a1)))) else (some (decide (a0 ≤ a1))))) else (if a0 = 4 then (if a1 = 3 then (some false) else (some (decide (a0 ≤ a1)))) else (some (decide (a0 ≤ a1))))) = some r := by rw [if_neg (show ¬ (false = true) by decide)] at H; exact H
        clear H
        have H := H1
        clear H1
        by_cases c8 : a0 = 3
        · rw [if_pos c8] at H
          have c8b0 : (a0 == 3) = true := beq_iff_eq.mpr c8
          have c8b1 : (a0 != 3) = false := bne_eq_false_iff_eq.mpr c8
          clear c8
          by_cases c9 : a1 = 4
          · rw [if_pos c9] at H
            have c9b0 : (a1 == 4) = true := beq_iff_eq.mpr c9
            have c9b1 : (a1 != 4) = false := bne_eq_false_iff_eq.mpr c9
            clear c9
            obtain rfl := Option.some.inj H
            go_wp2
            go_ret
            exact ⟨by first | rfl | (simp; done) | (simp [*]; done), by repeat (first | exact Drawn0.refl _ | apply Drawn0.step)⟩
          · rw [if_neg c9] at H
            have c9b0 : (a1 == 4) = false := beq_eq_false_iff_ne.mpr c9
            have c9b1 : (a1 != 4) = true := bne_iff_ne.mpr c9
            by_cases c10 : a0 = 4
            · rw [if_pos c10] at H
              have c10b0 : (a0 == 4) = true := beq_iff_eq.mpr c10
              have c10b1 : (a0 != 4) = false := bne_eq_false_iff_eq.mpr c10
              clear c10
              by_cases c11 : a1 = 3
              · rw [if_pos c11] at H
                have c11b0 : (a1 == 3) = true := beq_iff_eq.mpr c11
                have c11b1 : (a1 != 3) = false := bne_eq_false_iff_eq.mpr c11
                clear c11
                obtain rfl := Option.some.inj H
                go_wp2
                go_ret
                exact ⟨by first | rfl | (simp; done) | (simp [*]; done), by repeat (first | exact Drawn0.refl _ | apply Drawn0.step)⟩
              · rw [if_neg c11] at H
                have c11b0 : (a1 == 3) = false := beq_eq_false_iff_ne.mpr c11
                have c11b1 : (a1 != 3) = true := bne_iff_ne.mpr c11
                obtain rfl := Option.some.inj H
                go_wp2
                go_ret
                exact ⟨by first | rfl | (simp; done) | (simp [*]; done), by repeat (first | exact Drawn0.refl _ | apply Drawn0.step)⟩
            · rw [if_neg c10] at H
              have c10b0 : (a0 == 4) = false := beq_eq_false_iff_ne.mpr c10
              have c10b1 : (a0 != 4) = true := bne_iff_ne.mpr c10
              obtain rfl := Option.some.inj H
              go_wp2
              go_ret
              exact ⟨by first | rfl | (simp; done) | (simp [*]; done), by repeat (first | exact Drawn0.refl _ | apply Drawn0.step)⟩
        · rw [if_neg c8] at H
          have c8b0 : (a0 == 3) = false := beq_eq_false_iff_ne.mpr c8
          have c8b1 : (a0 != 3) = true := bne_iff_ne.mpr c8
          by_cases c12 : a0 = 4
          · rw [if_pos c12] at H
            have c12b0 : (a0 == 4) = true := beq_iff_eq.mpr c12
            have c12b1 : (a0 != 4) = false := bne_eq_false_iff_eq.mpr c12
            clear c12
            by_cases c13 : a1 = 3
            · rw [if_pos c13] at H
              have c13b0 : (a1 == 3) = true := beq_iff_eq.mpr c13
              have c13b1 : (a1 != 3) = false := bne_eq_false_iff_eq.mpr c13
              clear c13
              obtain rfl := Option.some.inj H
              go_wp2
              go_ret
              exact ⟨by first | rfl | (simp; done) | (simp [*]; done), by repeat (first | exact Drawn0.refl _ | apply Drawn0.step)⟩
            · rw [if_neg c13] at H
              have c13b0 : (a1 == 3) = false := beq_eq_false_iff_ne.mpr c13
              have c13b1 : (a1 != 3) = true := bne_iff_ne.mpr c13
              obtain rfl := Option.some.inj H
              go_wp2
              go_ret
              exact ⟨by first | rfl | (simp; done) | (simp [*]; done), by repeat (first | exact Drawn0.refl _ | apply Drawn0.step)⟩
          · rw [if_neg c12] at H
            have c12b0 : (a0 == 4) = false := beq_eq_false_iff_ne.mpr c12
            have c12b1 : (a0 != 4) = true := bne_iff_ne.mpr c12
            obtain rfl := Option.some.inj H
            go_wp2
            go_ret
            exact ⟨by first | rfl | (simp; done) | (simp [*]; done), by repeat (first | exact Drawn0.refl _ | apply Drawn0.step)⟩

/-! ### garderoberef19_Passed: function 16 -/
mutual
def garderoberef19_Passed.j0 : Nat → Int → Int → Option (Int)
  | 0, _, _ => none
  | k + 1, x1, x5 => if x1 < 1 then (garderoberef19_Passed.j1 k x1 x5 true) else (garderoberef19_Passed.j1 k x1 x5 (decide (x1 > 5)))
def garderoberef19_Passed.j1 : Nat → Int → Int → Bool → Option (Int)
  | 0, _, _, _ => none
  | k + 1, x1, x5, x21 => if x21 = true then (some x1) else (garderoberef19_Passed.l0 k x1 x5 5)
def garderoberef19_Passed.l0 : Nat → Int → Int → Int → Option (Int)
  | 0, _, _, _ => none
  | k + 1, x1, x5, x6 => if x6 > 1 then ((garderoberef19_Below.f k x6 x1).bind fun t126 => (if t126 = true then ((garderoberef19_Below.f k x6 x5).bind fun t127 => (if t127 = true then (some x6) else (garderoberef19_Passed.l0 k x1 x5 ((x6 - 1) % 256)))) else (garderoberef19_Passed.l0 k x1 x5 ((x6 - 1) % 256)))) else (some 1)
end
def garderoberef19_Passed.f (k : Nat) (a0 : Int) (a1 : Int) : Option (Int) := (garderoberef19_family.f k a0).bind fun t125 => (if t125 = 1 then (garderoberef19_Passed.j0 k a1 3) else (if t125 = 2 then (garderoberef19_Passed.j0 k a1 2) else (if t125 = 3 then (garderoberef19_Passed.j0 k a1 4) else (garderoberef19_Passed.j0 k a1 a1))))
theorem garderoberef19_Passed.mono_l : ∀ k, (∀ y0 y1, LeO (garderoberef19_Passed.j0 k y0 y1) (garderoberef19_Passed.j0 (k + 1) y0 y1)) ∧ (∀ y0 y1 y2, LeO (garderoberef19_Passed.j1 k y0 y1 y2) (garderoberef19_Passed.j1 (k + 1) y0 y1 y2)) ∧ (∀ y0 y1 y2, LeO (garderoberef19_Passed.l0 k y0 y1 y2) (garderoberef19_Passed.l0 (k + 1) y0 y1 y2))
  | 0 => ⟨fun _ _ r h => by simp [garderoberef19_Passed.j0] at h, fun _ _ _ r h => by simp [garderoberef19_Passed.j1] at h, fun _ _ _ r h => by simp [garderoberef19_Passed.l0] at h⟩
  | k + 1 => by
    obtain ⟨ih0, ih1, ih2⟩ := garderoberef19_Passed.mono_l k
    refine ⟨?_, ?_, ?_⟩
    · intro y0 y1
      unfold garderoberef19_Passed.j0
      repeat' first
      | (with_reducible exact ih0 _ _)
      | (with_reducible exact ih1 _ _ _)
      | (with_reducible exact ih2 _ _ _)
      | (with_reducible exact garderoberef19_Below.mono _ _ _)
      | (with_reducible exact garderoberef19_family.mono _ _)
      | (with_reducible exact LeO.refl _)
      | (with_reducible exact LeO.none _)
      | (with_reducible refine LeO.ite ?_ ?_)
      | (with_reducible refine LeO.bind ?_ (fun _ => ?_))
      | exact ih0 _ _
      | exact ih1 _ _ _
      | exact ih2 _ _ _
      | exact garderoberef19_Below.mono _ _ _
      | exact garderoberef19_family.mono _ _
      | exact LeO.none _
      | refine LeO.ite ?_ ?_
      | refine LeO.bind ?_ (fun _ => ?_)
    · intro y0 y1 y2
      unfold garderoberef19_Passed.j1
      repeat' first
      | (with_reducible exact ih0 _ _)
      | (with_reducible exact ih1 _ _ _)
      | (with_reducible exact ih2 _ _ _)
      | (with_reducible exact garderoberef19_Below.mono _ _ _)
      | (with_reducible exact garderoberef19_family.mono _ _)
      | (with_reducible exact LeO.refl _)
      | (with_reducible exact LeO.none _)
      | (with_reducible refine LeO.ite ?_ ?_)
      | (with_reducible refine LeO.bind ?_ (fun _ => ?_))
      | exact ih0 _ _
      | exact ih1 _ _ _
      | exact ih2 _ _ _
      | exact garderoberef19_Below.mono _ _ _
      | exact garderoberef19_family.mono _ _
      | exact LeO.none _
      | refine LeO.ite ?_ ?_
      | refine LeO.bind ?_ (fun _ => ?_)
    · intro y0 y1 y2
      unfold garderoberef19_Passed.l0
      repeat' first
      | (with_reducible exact ih0 _ _)
      | (with_reducible exact ih1 _ _ _)
      | (with_reducible exact ih2 _ _ _)
      | (with_reducible exact garderoberef19_Below.mono _ _ _)
      | (with_reducible exact garderoberef19_family.mono _ _)
      | (with_reducible exact LeO.refl _)
      | (with_reducible exact LeO.none _)
      | (with_reducible refine LeO.ite ?_ ?_)
      | (with_reducible refine LeO.bind ?_ (fun _ => ?_))
      | exact ih0 _ _
      | exact ih1 _ _ _
      | exact ih2 _ _ _
      | exact garderoberef19_Below.mono _ _ _
      | exact garderoberef19_family.mono _ _
      | exact LeO.none _
      | refine LeO.ite ?_ ?_
      | refine LeO.bind ?_ (fun _ => ?_)
theorem garderoberef19_Passed.mono : ∀ a0 a1 k, LeO (garderoberef19_Passed.f k a0 a1) (garderoberef19_Passed.f (k + 1) a0 a1) := by
  intro a0 a1 k
  obtain ⟨ih0, ih1, ih2⟩ := garderoberef19_Passed.mono_l k
  unfold garderoberef19_Passed.f
  repeat' first
      | (with_reducible exact ih0 _ _)
      | (with_reducible exact ih1 _ _ _)
      | (with_reducible exact ih2 _ _ _)
      | (with_reducible exact garderoberef19_Below.mono _ _ _)
      | (with_reducible exact garderoberef19_family.mono _ _)
      | (with_reducible exact LeO.refl _)
      | (with_reducible exact LeO.none _)
      | (with_reducible refine LeO.ite ?_ ?_)
      | (with_reducible refine LeO.bind ?_ (fun _ => ?_))
      | exact ih0 _ _
      | exact ih1 _ _ _
      | exact ih2 _ _ _
      | exact garderoberef19_Below.mono _ _ _
      | exact garderoberef19_family.mono _ _
      | exact LeO.none _
      | refine LeO.ite ?_ ?_
      | refine LeO.bind ?_ (fun _ => ?_)
set_option maxHeartbeats 8000000 in
set_option maxRecDepth 100000 in
theorem garderoberef19_Passed.calls (k : Nat) (a0 : Int) (a1 : Int) (r : Int) (w : World) (h : garderoberef19_Passed.f k a0 a1 = some r) :
    Calls Try.prog 16 #[.int .u8 a0, .int .u8 a1] w fun e w' => e = .returned (.int .u8 r) ∧ Drawn0 w w' := by
  have H : ((garderoberef19_family.f k a0).bind fun t125 => (if t125 = 1 then (garderoberef19_Passed.j0 k a1 3) else (if t125 = 2 then (garderoberef19_Passed.j0 k a1 2) else (if t125 = 3 then (garderoberef19_Passed.j0 k a1 4) else (garderoberef19_Passed.j0 k a1 a1))))) = some r := h
  clear h
  replace H := Option.bind_eq_some_iff.mp H
  obtain ⟨t125, A30, H⟩ := H
  replace H : (if t125 = 1 then (garderoberef19_Passed.j0 k a1 3) else (if t125 = 2 then (garderoberef19_Passed.j0 k a1 2) else (if t125 = 3 then (garderoberef19_Passed.j0 k a1 4) else (garderoberef19_Passed.j0 k a1 a1)))) = some r := H
  have A3 := Aside0.mk A30
  clear A30
  have HC4 := Aside0.mk H
  clear H
  go_enter Try.func16, Try.ntmps16
  go_upto_block 0 with (first | ((with_reducible refine gate_callee (f := 22) rfl ?_); refine goesL_ (some 9) rfl rfl Try.func22 (by kernel_rfl) rfl #[.int .u8 a0] rfl (by (try simp only [List.map_toArray, List.map_cons, List.map_nil]); first | done | rfl | (simp only [List.length_drop, List.length_take]; rfl)) ?_; (with_reducible refine (garderoberef19_family.calls k a0 t125 _ A3.out).mono ?_); rintro e w' ⟨rfl, ⟨nd, rfl⟩⟩; refine ⟨_, rfl, ?_⟩))
  (try simp only [Act.put, List.setIfInBounds_toArray, List.set_cons_zero, List.set_cons_succ])
  go_cut [5] (fun v5 wc => ∃ (kq : Nat) (x5_3 : Int), v5 = .int .u8 x5_3 ∧ Aside0 (garderoberef19_Passed.j0 kq a1 x5_3 = some r) ∧ Aside0 (kq ≤ k) ∧ Drawn0 w wc)
  case first =>
    have H := HC4.out
    clear HC4
    by_cases c5 : t125 = 1
    · rw [if_pos c5] at H
      have c5b0 : (t125 == 1) = true := beq_iff_eq.mpr c5
      have c5b1 : (t125 != 1) = false := bne_eq_false_iff_eq.mpr c5
      clear c5
      (first | rw [c5b0] | (simp only [i64_w, i32_w]; rw [c5b0]) | skip)
      have H' := Aside0.mk H
      clear H
      go_wp2
      go_meet
      case rel => exact ⟨_, (3), (by first | rfl | (simp; done) | (simp [*]; done)), H', ⟨by first | omega | exact Nat.le_refl _⟩, by repeat (first | exact Drawn0.refl _ | apply Drawn0.step)⟩
    · rw [if_neg c5] at H
      have c5b0 : (t125 == 1) = false := beq_eq_false_iff_ne.mpr c5
      have c5b1 : (t125 != 1) = true := bne_iff_ne.mpr c5
      (first | rw [c5b0] | (simp only [i64_w, i32_w]; rw [c5b0]) | skip)
      by_cases c6 : t125 = 2
      · rw [if_pos c6] at H
        have c6b0 : (t125 == 2) = true := beq_iff_eq.mpr c6
        have c6b1 : (t125 != 2) = false := bne_eq_false_iff_eq.mpr c6
        clear c6
        have H' := Aside0.mk H
        clear H
        go_wp2
        go_meet
        case rel => exact ⟨_, (2), (by first | rfl | (simp; done) | (simp [*]; done)), H', ⟨by first | omega | exact Nat.le_refl _⟩, by repeat (first | exact Drawn0.refl _ | apply Drawn0.step)⟩
      · rw [if_neg c6] at H
        have c6b0 : (t125 == 2) = false := beq_eq_false_iff_ne.mpr c6
        have c6b1 : (t125 != 2) = true := bne_iff_ne.mpr c6
        by_cases c7 : t125 = 3
        · rw [if_pos c7] at H
          have c7b0 : (t125 == 3) = true := beq_iff_eq.mpr c7
          have c7b1 : (t125 != 3) = false := bne_eq_false_iff_eq.mpr c7
          clear c7
          have H' := Aside0.mk H
          clear H
          go_wp2
          go_meet
          case rel => exact ⟨_, (4), (by first | rfl | (simp; done) | (simp [*]; done)), H', ⟨by first | omega | exact Nat.le_refl _⟩, by repeat (first | exact Drawn0.refl _ | apply Drawn0.step)⟩
        · rw [if_neg c7] at H
          have c7b0 : (t125 == 3) = false := beq_eq_false_iff_ne.mpr c7
          have c7b1 : (t125 != 3) = true := bne_iff_ne.mpr c7
          have H' := Aside0.mk H
          clear H
          go_wp2
          go_meet
          case rel => exact ⟨_, (a1), (by first | rfl | (simp; done) | (simp [*]; done)), H', ⟨by first | omega | exact Nat.le_refl _⟩, by repeat (first | exact Drawn0.refl _ | apply Drawn0.step)⟩
  case rest =>
    clear HC4
    try clear c1
    try clear c2
    try clear p2
    try clear c5
    try clear c5b0
    try clear c5b1
    try clear c6
    try clear c6b0
    try clear c6b1
    try clear c7
    try clear c7b0
    try clear c7b1
    obtain ⟨kq, x5_3, rfl, HA, HJ3, ⟨mc3, rfl⟩⟩ := hcut
    cases kq with
    | zero => exact absurd HA.out (by simp [garderoberef19_Passed.j0])
    | succ kj3 =>
      have H := HA.out
      clear HA
      simp only [garderoberef19_Passed.j0] at H
      have HC8 := Aside0.mk H
      clear H
      go_upto_region 9 with (fail)
      go_cut [21] (fun v21 wc => ∃ (kq : Nat) (x21_7 : Bool), v21 = .bool x21_7 ∧ Aside0 (garderoberef19_Passed.j1 kq a1 x5_3 x21_7 = some r) ∧ Aside0 (kq ≤ kj3) ∧ Drawn0 w wc)
      case first =>
        have H := HC8.out
        clear HC8
        by_cases c9 : a1 < 1
        · rw [if_pos c9] at H
          have c9b0 : decide (a1 < 1) = true := decide_eq_true c9
          clear c9
          (first | rw [c9b0] | (simp only [i64_w, i32_w]; rw [c9b0]) | skip)
          have H' := Aside0.mk H
          clear H
          go_wp2
          go_meet
          case rel => exact ⟨_, (true), (by first | rfl | (simp; done) | (simp [*]; done)), H', ⟨by have := HJ3.out; first | omega | exact Nat.le_refl _⟩, by repeat (first | exact Drawn0.refl _ | apply Drawn0.step)⟩
        · rw [if_neg c9] at H
          have c9b0 : decide (a1 < 1) = false := decide_eq_false c9
          clear c9
          (first | rw [c9b0] | (simp only [i64_w, i32_w]; rw [c9b0]) | skip)
          have H' := Aside0.mk H
          clear H
          go_wp2
          go_meet
          case rel => exact ⟨_, (decide (a1 > 5)), (by first | rfl | (simp; done) | (simp [*]; done)), H', ⟨by have := HJ3.out; first | omega | exact Nat.le_refl _⟩, by repeat (first | exact Drawn0.refl _ | apply Drawn0.step)⟩
      case rest =>
        clear HC8
        try clear c1
        try clear c2
        try clear p2
        try clear c3
        try clear c5
        try clear c5b0
        try clear c5b1
        try clear c6
        try clear c6b0
        try clear c6b1
        try clear c7
        try clear c7b0
        try clear c7b1
        try clear c9
        try clear c9b0
        try clear p2
        obtain ⟨kq, x21_7, rfl, HA, HJ7, ⟨mc7, rfl⟩⟩ := hcut
        cases kq with
        | zero => exact absurd HA.out (by simp [garderoberef19_Passed.j1])
        | succ kj7 =>
          have H := HA.out
          clear HA
          simp only [garderoberef19_Passed.j1] at H
          by_cases c10 : x21_7 = true
          · subst c10
            have H1 : (some a1) = some r := by rw [if_pos rfl] at H; exact H
            clear H
            have H := H1
            clear H1
            obtain rfl := Option.some.inj H
            go_wp2
            go_ret
            exact ⟨by first | rfl | (simp; done) | (simp [*]; done), by repeat (first | exact Drawn0.refl _ | apply Drawn0.step)⟩
          · replace c10 := Bool.eq_false_iff.mpr c10
            subst c10
            have H1 : (garderoberef19_Passed.l0 kj7 a1 x5_3 5) = some r := by rw [if_neg (show ¬ (false = true) by decide)] at H; exact H
            clear H
            have H := H1
            clear H1
            have H' := Aside0.mk H
            clear H
            go_wp2
            go_loopg [6] kj7 (fun kq v6 w' => ∃ (x6_3 : Int), v6 = .int .u8 x6_3 ∧ Aside0 (garderoberef19_Passed.l0 kq a1 x5_3 x6_3 = some r) ∧ Aside0 (kq ≤ kj7) ∧ Drawn0 w w')
            case atStart => exact ⟨(5), (by first | rfl | (simp; done) | (simp [*]; done)), H', ⟨Nat.le_refl _⟩, by repeat (first | exact Drawn0.refl _ | apply Drawn0.step)⟩
            case round =>
              clear H'
              try clear c1
              try clear c2
              try clear p2
              try clear c3
              try clear c5
              try clear c5b0
              try clear c5b1
              try clear c6
              try clear c6b0
              try clear c6b1
              try clear c7
              try clear c7b0
              try clear c7b1
              try clear c9
              try clear c9b0
              try clear c10
              try clear p2
              obtain ⟨x6_3, rfl, HA, HK3, ⟨m3, rfl⟩⟩ := hrel
              cases gk with
              | zero => exact absurd HA.out (by simp [garderoberef19_Passed.l0])
              | succ k3 =>
                have H := HA.out
                clear HA
                simp only [garderoberef19_Passed.l0] at H
                by_cases c11 : x6_3 > 1
                · rw [if_pos c11] at H
                  have c11b0 : decide (1 < x6_3) = true := decide_eq_true c11
                  clear c11
                  replace H := Option.bind_eq_some_iff.mp H
                  obtain ⟨t126, A120, H⟩ := H
                  replace H : (if t126 = true then ((garderoberef19_Below.f k3 x6_3 x5_3).bind fun t127 => (if t127 = true then (some x6_3) else (garderoberef19_Passed.l0 k3 a1 x5_3 ((x6_3 - 1) % 256)))) else (garderoberef19_Passed.l0 k3 a1 x5_3 ((x6_3 - 1) % 256))) = some r := H
                  have A12 := Aside0.mk A120
                  clear A120
                  by_cases c13 : t126 = true
                  · subst c13
                    have H1 : ((garderoberef19_Below.f k3 x6_3 x5_3).bind fun t127 => (if t127 = true then (some x6_3) else (garderoberef19_Passed.l0 k3 a1 x5_3 ((x6_3 - 1) % 256)))) = some r := by rw [if_pos rfl] at H; exact H
                    clear H
                    have H := H1
                    clear H1
                    replace H := Option.bind_eq_some_iff.mp H
                    obtain ⟨t127, A140, H⟩ := H
                    replace H : (if t127 = true then (some x6_3) else (garderoberef19_Passed.l0 k3 a1 x5_3 ((x6_3 - 1) % 256))) = some r := H
                    have A14 := Aside0.mk A140
                    clear A140
                    by_cases c15 : t127 = true
                    · subst c15
                      have H1 : (some x6_3) = some r := by rw [if_pos rfl] at H; exact H
                      clear H
                      have H := H1
                      clear H1
                      obtain rfl := Option.some.inj H
                      go_wp2_with (first | ((with_reducible refine gate_callee (f := 18) rfl ?_); refine goesL_ (some 29) rfl rfl Try.func18 (by kernel_rfl) rfl #[.int .u8 x6_3, .int .u8 a1] rfl (by (try simp only [List.map_toArray, List.map_cons, List.map_nil]); first | done | rfl | (simp only [List.length_drop, List.length_take]; rfl)) ?_; (with_reducible refine (garderoberef19_Below.calls k3 x6_3 a1 true _ A12.out).mono ?_); rintro e w' ⟨rfl, ⟨nd, rfl⟩⟩; refine ⟨_, rfl, ?_⟩) | (go_at_call 18; (with_reducible refine (garderoberef19_Below.calls k3 x6_3 x5_3 true _ A14.out).mono ?_); rintro e w' ⟨rfl, ⟨nd, rfl⟩⟩))
                      go_ret
                      exact ⟨by first | rfl | (simp; done) | (simp [*]; done), by repeat (first | exact Drawn0.refl _ | apply Drawn0.step)⟩
                    · replace c15 := Bool.eq_false_iff.mpr c15
                      subst c15
                      have H1 : (garderoberef19_Passed.l0 k3 a1 x5_3 ((x6_3 - 1) % 256)) = some r := by rw [if_neg (show ¬ (false = true) by decide)] at H; exact H
                      clear H
                      have H := H1
                      clear H1
                      have H' := Aside0.mk H
                      clear H
                      go_wp2_with (first | ((with_reducible refine gate_callee (f := 18) rfl ?_); refine goesL_ (some 29) rfl rfl Try.func18 (by kernel_rfl) rfl #[.int .u8 x6_3, .int .u8 a1] rfl (by (try simp only [List.map_toArray, List.map_cons, List.map_nil]); first | done | rfl | (simp only [List.length_drop, List.length_take]; rfl)) ?_; (with_reducible refine (garderoberef19_Below.calls k3 x6_3 a1 true _ A12.out).mono ?_); rintro e w' ⟨rfl, ⟨nd, rfl⟩⟩; refine ⟨_, rfl, ?_⟩) | (go_at_call 18; (with_reducible refine (garderoberef19_Below.calls k3 x6_3 x5_3 false _ A14.out).mono ?_); rintro e w' ⟨rfl, ⟨nd, rfl⟩⟩))
                      go_roundg k3
                      case measure => have := HJ3.out; have := HJ7.out; have := HK3.out; omega
                      case rel => exact ⟨((x6_3 - 1) % 256), (by first | rfl | (simp; done) | (simp [*]; done)), H', ⟨by have := HJ3.out; have := HJ7.out; have := HK3.out; omega⟩, by repeat (first | exact Drawn0.refl _ | apply Drawn0.step)⟩
                  · replace c13 := Bool.eq_false_iff.mpr c13
                    subst c13
                    have H1 : (garderoberef19_Passed.l0 k3 a1 x5_3 ((x6_3 - 1) % 256)) = some r := by rw [if_neg (show ¬ (false = true) by decide)] at H; exact H
                    clear H
                    have H := H1
                    clear H1
                    have H' := Aside0.mk H
                    clear H
                    go_wp2_with (first | ((with_reducible refine gate_callee (f := 18) rfl ?_); refine goesL_ (some 29) rfl rfl Try.func18 (by kernel_rfl) rfl #[.int .u8 x6_3, .int .u8 a1] rfl (by (try simp only [List.map_toArray, List.map_cons, List.map_nil]); first | done | rfl | (simp only [List.length_drop, List.length_take]; rfl)) ?_; (with_reducible refine (garderoberef19_Below.calls k3 x6_3 a1 false _ A12.out).mono ?_); rintro e w' ⟨rfl, ⟨nd, rfl⟩⟩; refine ⟨_, rfl, ?_⟩))
                    go_roundg k3
                    case measure => have := HJ3.out; have := HJ7.out; have := HK3.out; omega
                    case rel => exact ⟨((x6_3 - 1) % 256), (by first | rfl | (simp; done) | (simp [*]; done)), H', ⟨by have := HJ3.out; have := HJ7.out; have := HK3.out; omega⟩, by repeat (first | exact Drawn0.refl _ | apply Drawn0.step)⟩
                · rw [if_neg c11] at H
                  have c11b0 : decide (1 < x6_3) = false := decide_eq_false c11
                  clear c11
                  obtain rfl := Option.some.inj H
                  go_wp2
                  go_ret
                  exact ⟨by first | rfl | (simp; done) | (simp [*]; done), by repeat (first | exact Drawn0.refl _ | apply Drawn0.step)⟩

/-! ### garderobelaw19_OwnerSpares: function 6 -/
def garderobelaw19_OwnerSpares.f (k : Nat) (a0 : Int) (a1 : Int) : Option (Bool) := (owner_Spares.f a0 a1).bind fun t128 => ((garderoberef19_Spares.f k a0 a1).bind fun t129 => (if (t128 == t129) = true then ((owner_Stored.f a0).bind fun t130 => ((garderoberef19_Stored.f a0).bind fun t131 => (if (t130 == t131) = true then ((owner_Passed.f k a0 a1).bind fun t132 => ((garderoberef19_Passed.f k a0 a1).bind fun t133 => (if t132 = t133 then ((garderobelaw19_lives.f k).bind fun t134 => (some t134)) else (some false)))) else (some false)))) else (some false)))
theorem garderobelaw19_OwnerSpares.mono : ∀ a0 a1 k, LeO (garderobelaw19_OwnerSpares.f k a0 a1) (garderobelaw19_OwnerSpares.f (k + 1) a0 a1) := by
  intro a0 a1 k
  unfold garderobelaw19_OwnerSpares.f
  repeat' first
      | (with_reducible exact garderobelaw19_lives.mono _)
      | (with_reducible exact garderoberef19_Passed.mono _ _ _)
      | (with_reducible exact garderoberef19_Spares.mono _ _ _)
      | (with_reducible exact owner_Passed.mono _ _ _)
      | (with_reducible exact LeO.refl _)
      | (with_reducible exact LeO.none _)
      | (with_reducible refine LeO.ite ?_ ?_)
      | (with_reducible refine LeO.bind ?_ (fun _ => ?_))
      | exact garderobelaw19_lives.mono _
      | exact garderoberef19_Passed.mono _ _ _
      | exact garderoberef19_Spares.mono _ _ _
      | exact owner_Passed.mono _ _ _
      | exact LeO.none _
      | refine LeO.ite ?_ ?_
      | refine LeO.bind ?_ (fun _ => ?_)
set_option maxHeartbeats 8000000 in
set_option maxRecDepth 100000 in
theorem garderobelaw19_OwnerSpares.calls (k : Nat) (a0 : Int) (a1 : Int) (r : Bool) (w : World) (h : garderobelaw19_OwnerSpares.f k a0 a1 = some r) :
    Calls Try.prog 6 #[.int .u8 a0, .int .u8 a1] w fun e w' => e = .returned (.bool r) ∧ Below w.heap.size w w' := by
  have HB := Aside0.mk (Below.refl w.heap.size w)
  have H : ((owner_Spares.f a0 a1).bind fun t128 => ((garderoberef19_Spares.f k a0 a1).bind fun t129 => (if (t128 == t129) = true then ((owner_Stored.f a0).bind fun t130 => ((garderoberef19_Stored.f a0).bind fun t131 => (if (t130 == t131) = true then ((owner_Passed.f k a0 a1).bind fun t132 => ((garderoberef19_Passed.f k a0 a1).bind fun t133 => (if t132 = t133 then ((garderobelaw19_lives.f k).bind fun t134 => (some t134)) else (some false)))) else (some false)))) else (some false)))) = some r := h
  clear h
  replace H := Option.bind_eq_some_iff.mp H
  obtain ⟨t128, A30, H⟩ := H
  replace H : ((garderoberef19_Spares.f k a0 a1).bind fun t129 => (if (t128 == t129) = true then ((owner_Stored.f a0).bind fun t130 => ((garderoberef19_Stored.f a0).bind fun t131 => (if (t130 == t131) = true then ((owner_Passed.f k a0 a1).bind fun t132 => ((garderoberef19_Passed.f k a0 a1).bind fun t133 => (if t132 = t133 then ((garderobelaw19_lives.f k).bind fun t134 => (some t134)) else (some false)))) else (some false)))) else (some false))) = some r := H
  have A3 := Aside0.mk A30
  clear A30
  replace H := Option.bind_eq_some_iff.mp H
  obtain ⟨t129, A40, H⟩ := H
  replace H : (if (t128 == t129) = true then ((owner_Stored.f a0).bind fun t130 => ((garderoberef19_Stored.f a0).bind fun t131 => (if (t130 == t131) = true then ((owner_Passed.f k a0 a1).bind fun t132 => ((garderoberef19_Passed.f k a0 a1).bind fun t133 => (if t132 = t133 then ((garderobelaw19_lives.f k).bind fun t134 => (some t134)) else (some false)))) else (some false)))) else (some false)) = some r := H
  have A4 := Aside0.mk A40
  clear A40
  by_cases c5 : (t128 == t129) = true
  · rw [if_pos c5] at H
    have c5b0 : (t128 == t129) = true := c5
    (try (have c5b1 : decide (t128 = t129) = true := by simpa using c5))
    (try (have c5b2 : (t128 == t129) = true := by simpa using c5))
    clear c5
    replace H := Option.bind_eq_some_iff.mp H
    obtain ⟨t130, A60, H⟩ := H
    replace H : ((garderoberef19_Stored.f a0).bind fun t131 => (if (t130 == t131) = true then ((owner_Passed.f k a0 a1).bind fun t132 => ((garderoberef19_Passed.f k a0 a1).bind fun t133 => (if t132 = t133 then ((garderobelaw19_lives.f k).bind fun t134 => (some t134)) else (some false)))) else (some false))) = some r := H
    have A6 := Aside0.mk A60
    clear A60
    replace H := Option.bind_eq_some_iff.mp H
    obtain ⟨t131, A70, H⟩ := H
    replace H : (if (t130 == t131) = true then ((owner_Passed.f k a0 a1).bind fun t132 => ((garderoberef19_Passed.f k a0 a1).bind fun t133 => (if t132 = t133 then ((garderobelaw19_lives.f k).bind fun t134 => (some t134)) else (some false)))) else (some false)) = some r := H
    have A7 := Aside0.mk A70
    clear A70
    by_cases c8 : (t130 == t131) = true
    · rw [if_pos c8] at H
      have c8b0 : (t130 == t131) = true := c8
      (try (have c8b1 : decide (t130 = t131) = true := by simpa using c8))
      (try (have c8b2 : (t130 == t131) = true := by simpa using c8))
      clear c8
      replace H := Option.bind_eq_some_iff.mp H
      obtain ⟨t132, A90, H⟩ := H
      replace H : ((garderoberef19_Passed.f k a0 a1).bind fun t133 => (if t132 = t133 then ((garderobelaw19_lives.f k).bind fun t134 => (some t134)) else (some false))) = some r := H
      have A9 := Aside0.mk A90
      clear A90
      replace H := Option.bind_eq_some_iff.mp H
      obtain ⟨t133, A100, H⟩ := H
      replace H : (if t132 = t133 then ((garderobelaw19_lives.f k).bind fun t134 => (some t134)) else (some false)) = some r := H
      have A10 := Aside0.mk A100
      clear A100
      by_cases c11 : t132 = t133
      · rw [if_pos c11] at H
        have c11b0 : (t132 == t133) = true := beq_iff_eq.mpr c11
        have c11b1 : (t132 != t133) = false := bne_eq_false_iff_eq.mpr c11
        clear c11
        replace H := Option.bind_eq_some_iff.mp H
        obtain ⟨t134, A120, H⟩ := H
        replace H : (some t134) = some r := H
        have A12 := Aside0.mk A120
        clear A120
        obtain rfl := Option.some.inj H
        go_enter Try.func6, Try.ntmps6
        go_wp2_with (first | ((with_reducible refine gate_callee (f := 11) rfl ?_); refine goesL_ (some 7) rfl rfl Try.func11 (by kernel_rfl) rfl #[.int .u8 a0, .int .u8 a1] rfl (by (try simp only [List.map_toArray, List.map_cons, List.map_nil]); first | done | rfl | (simp only [List.length_drop, List.length_take]; rfl)) ?_; (with_reducible refine (owner_Spares.calls a0 a1 t128 _ A3.out).mono ?_); rintro e w' ⟨rfl, ⟨nd, rfl⟩⟩; refine ⟨_, rfl, ?_⟩) | ((with_reducible refine gate_callee (f := 13) rfl ?_); refine goesL_ (some 10) rfl rfl Try.func13 (by kernel_rfl) rfl #[.int .u8 a0, .int .u8 a1] rfl (by (try simp only [List.map_toArray, List.map_cons, List.map_nil]); first | done | rfl | (simp only [List.length_drop, List.length_take]; rfl)) ?_; (with_reducible refine (garderoberef19_Spares.calls k a0 a1 t129 _ A4.out).mono ?_); rintro e w' ⟨rfl, ⟨nd, rfl⟩⟩; refine ⟨_, rfl, ?_⟩) | (go_at_call 14; (with_reducible refine (owner_Stored.calls a0 t130 _ A6.out).mono ?_); rintro e w' ⟨rfl, ⟨nd, rfl⟩⟩) | (go_at_call 15; (with_reducible refine (garderoberef19_Stored.calls a0 t131 _ A7.out).mono ?_); rintro e w' ⟨rfl, ⟨nd, rfl⟩⟩) | (go_at_call 12; (with_reducible refine (owner_Passed.calls k a0 a1 t132 _ A9.out).mono ?_); rintro e w13 ⟨rfl, hb⟩; have n0_ := Aside0.mk (below_step (by repeat (first | (with_reducible first | exact HB.out | apply below_alloc | apply pw_below_drewN | apply below_drew1) | exact HB.out)) hb); clear HB; have HB := n0_; clear n0_; (try clear hb); (try clear hb2); (try clear hk); (try clear hi)) | (go_at_call 16; (with_reducible refine (garderoberef19_Passed.calls k a0 a1 t133 _ A10.out).mono ?_); rintro e w' ⟨rfl, ⟨nd, rfl⟩⟩) | (go_at_call 10; (with_reducible refine (garderobelaw19_lives.calls k  t134 _ A12.out).mono ?_); rintro e w14 ⟨rfl, hb⟩; have n0_ := Aside0.mk (below_step (by repeat (first | (with_reducible first | exact HB.out | apply below_alloc | apply pw_below_drewN | apply below_drew1) | exact HB.out)) hb); clear HB; have HB := n0_; clear n0_; (try clear hb); (try clear hb2); (try clear hk); (try clear hi)))
        go_ret
        exact ⟨by first | rfl | (simp [errW_none, errW_some] <;> rfl) | (simp [*, errW_none, errW_some] <;> rfl), by repeat (first | (with_reducible first | exact HB.out | apply below_alloc | apply pw_below_drewN | apply below_drew1) | exact HB.out)⟩
      · rw [if_neg c11] at H
        have c11b0 : (t132 == t133) = false := beq_eq_false_iff_ne.mpr c11
        have c11b1 : (t132 != t133) = true := bne_iff_ne.mpr c11
        obtain rfl := Option.some.inj H
        go_enter Try.func6, Try.ntmps6
        go_wp2_with (first | ((with_reducible refine gate_callee (f := 11) rfl ?_); refine goesL_ (some 7) rfl rfl Try.func11 (by kernel_rfl) rfl #[.int .u8 a0, .int .u8 a1] rfl (by (try simp only [List.map_toArray, List.map_cons, List.map_nil]); first | done | rfl | (simp only [List.length_drop, List.length_take]; rfl)) ?_; (with_reducible refine (owner_Spares.calls a0 a1 t128 _ A3.out).mono ?_); rintro e w' ⟨rfl, ⟨nd, rfl⟩⟩; refine ⟨_, rfl, ?_⟩) | ((with_reducible refine gate_callee (f := 13) rfl ?_); refine goesL_ (some 10) rfl rfl Try.func13 (by kernel_rfl) rfl #[.int .u8 a0, .int .u8 a1] rfl (by (try simp only [List.map_toArray, List.map_cons, List.map_nil]); first | done | rfl | (simp only [List.length_drop, List.length_take]; rfl)) ?_; (with_reducible refine (garderoberef19_Spares.calls k a0 a1 t129 _ A4.out).mono ?_); rintro e w' ⟨rfl, ⟨nd, rfl⟩⟩; refine ⟨_, rfl, ?_⟩) | (go_at_call 14; (with_reducible refine (owner_Stored.calls a0 t130 _ A6.out).mono ?_); rintro e w' ⟨rfl, ⟨nd, rfl⟩⟩) | (go_at_call 15; (with_reducible refine (garderoberef19_Stored.calls a0 t131 _ A7.out).mono ?_); rintro e w' ⟨rfl, ⟨nd, rfl⟩⟩) | (go_at_call 12; (with_reducible refine (owner_Passed.calls k a0 a1 t132 _ A9.out).mono ?_); rintro e w15 ⟨rfl, hb⟩; have n0_ := Aside0.mk (below_step (by repeat (first | (with_reducible first | exact HB.out | apply below_alloc | apply pw_below_drewN | apply below_drew1) | exact HB.out)) hb); clear HB; have HB := n0_; clear n0_; (try clear hb); (try clear hb2); (try clear hk); (try clear hi)) | (go_at_call 16; (with_reducible refine (garderoberef19_Passed.calls k a0 a1 t133 _ A10.out).mono ?_); rintro e w' ⟨rfl, ⟨nd, rfl⟩⟩))
        go_ret
        exact ⟨by first | rfl | (simp [errW_none, errW_some] <;> rfl) | (simp [*, errW_none, errW_some] <;> rfl), by repeat (first | (with_reducible first | exact HB.out | apply below_alloc | apply pw_below_drewN | apply below_drew1) | exact HB.out)⟩
    · rw [if_neg c8] at H
      have c8b0 : (t130 == t131) = false := by simpa using c8
      (try (have c8b1 : decide (t130 = t131) = false := by simpa using c8))
      (try (have c8b2 : (t130 == t131) = false := by simpa using c8))
      (try (have c8b3 : ¬ (t130 = t131) := by simpa using c8))
      clear c8
      obtain rfl := Option.some.inj H
      go_enter Try.func6, Try.ntmps6
      go_wp2_with (first | ((with_reducible refine gate_callee (f := 11) rfl ?_); refine goesL_ (some 7) rfl rfl Try.func11 (by kernel_rfl) rfl #[.int .u8 a0, .int .u8 a1] rfl (by (try simp only [List.map_toArray, List.map_cons, List.map_nil]); first | done | rfl | (simp only [List.length_drop, List.length_take]; rfl)) ?_; (with_reducible refine (owner_Spares.calls a0 a1 t128 _ A3.out).mono ?_); rintro e w' ⟨rfl, ⟨nd, rfl⟩⟩; refine ⟨_, rfl, ?_⟩) | ((with_reducible refine gate_callee (f := 13) rfl ?_); refine goesL_ (some 10) rfl rfl Try.func13 (by kernel_rfl) rfl #[.int .u8 a0, .int .u8 a1] rfl (by (try simp only [List.map_toArray, List.map_cons, List.map_nil]); first | done | rfl | (simp only [List.length_drop, List.length_take]; rfl)) ?_; (with_reducible refine (garderoberef19_Spares.calls k a0 a1 t129 _ A4.out).mono ?_); rintro e w' ⟨rfl, ⟨nd, rfl⟩⟩; refine ⟨_, rfl, ?_⟩) | (go_at_call 14; (with_reducible refine (owner_Stored.calls a0 t130 _ A6.out).mono ?_); rintro e w' ⟨rfl, ⟨nd, rfl⟩⟩) | (go_at_call 15; (with_reducible refine (garderoberef19_Stored.calls a0 t131 _ A7.out).mono ?_); rintro e w' ⟨rfl, ⟨nd, rfl⟩⟩))
      go_ret
      exact ⟨by first | rfl | (simp [errW_none, errW_some] <;> rfl) | (simp [*, errW_none, errW_some] <;> rfl), by repeat (first | (with_reducible first | exact HB.out | apply below_alloc | apply pw_below_drewN | apply below_drew1) | exact HB.out)⟩
  · rw [if_neg c5] at H
    have c5b0 : (t128 == t129) = false := by simpa using c5
    (try (have c5b1 : decide (t128 = t129) = false := by simpa using c5))
    (try (have c5b2 : (t128 == t129) = false := by simpa using c5))
    (try (have c5b3 : ¬ (t128 = t129) := by simpa using c5))
    clear c5
    obtain rfl := Option.some.inj H
    go_enter Try.func6, Try.ntmps6
    go_wp2_with (first | ((with_reducible refine gate_callee (f := 11) rfl ?_); refine goesL_ (some 7) rfl rfl Try.func11 (by kernel_rfl) rfl #[.int .u8 a0, .int .u8 a1] rfl (by (try simp only [List.map_toArray, List.map_cons, List.map_nil]); first | done | rfl | (simp only [List.length_drop, List.length_take]; rfl)) ?_; (with_reducible refine (owner_Spares.calls a0 a1 t128 _ A3.out).mono ?_); rintro e w' ⟨rfl, ⟨nd, rfl⟩⟩; refine ⟨_, rfl, ?_⟩) | ((with_reducible refine gate_callee (f := 13) rfl ?_); refine goesL_ (some 10) rfl rfl Try.func13 (by kernel_rfl) rfl #[.int .u8 a0, .int .u8 a1] rfl (by (try simp only [List.map_toArray, List.map_cons, List.map_nil]); first | done | rfl | (simp only [List.length_drop, List.length_take]; rfl)) ?_; (with_reducible refine (garderoberef19_Spares.calls k a0 a1 t129 _ A4.out).mono ?_); rintro e w' ⟨rfl, ⟨nd, rfl⟩⟩; refine ⟨_, rfl, ?_⟩))
    go_ret
    exact ⟨by first | rfl | (simp [errW_none, errW_some] <;> rfl) | (simp [*, errW_none, errW_some] <;> rfl), by repeat (first | (with_reducible first | exact HB.out | apply below_alloc | apply pw_below_drewN | apply below_drew1) | exact HB.out)⟩

/-- THE ONE PURE STATEMENT of garderobelaw19_OwnerSpares: yours. -/
def garderobelaw19_OwnerSpares.Pure : Prop := ∀ (a0 : Int) (a1 : Int), (Lit.int .u8 a0).wf = true → (Lit.int .u8 a1).wf = true → ∃ k, garderobelaw19_OwnerSpares.f k a0 a1 = some true
theorem garderobelaw19_OwnerSpares.walk (P : garderobelaw19_OwnerSpares.Pure) (a0 : Int) (a1 : Int) (w : World) (w0 : (Lit.int .u8 a0).wf = true) (w1 : (Lit.int .u8 a1).wf = true) :
    Calls Try.prog 6 #[.int .u8 a0, .int .u8 a1] w fun e w' => e = .returned (.bool true) ∧ Below w.heap.size w w' := by
  obtain ⟨k, h⟩ := P a0 a1 w0 w1
  refine (garderobelaw19_OwnerSpares.calls k a0 a1 true w h).mono ?_
  rintro e w' ⟨rfl, hd⟩
  exact ⟨rfl, hd⟩

end Go.Proofs.Ytbncfbhfenfpjaa.POwnerSpares
