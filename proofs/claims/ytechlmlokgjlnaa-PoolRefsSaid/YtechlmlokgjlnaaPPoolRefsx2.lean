-- laid by fake.py, a program of this session's, over the kit's print
import Derived.Test.YtechlmlokgjlnaaPPoolRefsx0
import Derived.Test.YtechlmlokgjlnaaPPoolRefsx1
namespace Go.Proofs.Ytechlmlokgjlnaa.PPoolRefs
open Go.RowKit Go.Proofs.YtechlmlokgjlnaaW.PrintWords Go.Proofs.YtechlmlokgjlnaaW.PrintLast Go.Proofs.YtechlmlokgjlnaaW.PrintMore
attribute [local go_sem] Go.Proofs.YtechlmlokgjlnaaW.Mine.isSome_set max2_int min2_int max_two min_two max_three min_three max_four min_four   -- for this text's walks alone
set_option linter.unusedVariables false
set_option linter.unusedSimpArgs false

/-! ### ends_Get: function 21 -/
def ends_Get.l0 : Nat → Int → Int → List Int → Int → Int → Option (Int × Int)
  | 0, _, _, _, _, _ => none
  | k + 1, x9, x10, x23, x24, x25 => if x25 < x24 then (if 0 ≤ x25 then (if x25 < (x23.length : Int) then (ends_Get.l0 k x9 (Go.bits .or .u32 ((x10 * 256) % 4294967296) ((rd x23 x25) % 4294967296)) x23 x24 (wrap64 (x25 + 1))) else (none)) else (none)) else (some (x10, x9))
def ends_Get.f (k : Nat) (l0 : List Int) (a1 : Int) (a2 : Int) : Option (Int × Int) := (ends_may.f a2).bind fun t117 => (if t117 = true then ((ends_Part.f k l0 a1 a2).bind fun bt118 => (ends_Get.l0 k bt118.2 0 bt118.1 (bt118.1.length : Int) 0)) else (some (0, 2)))
theorem ends_Get.mono_l : ∀ k, (∀ y0 y1 y2 y3 y4, LeO (ends_Get.l0 k y0 y1 y2 y3 y4) (ends_Get.l0 (k + 1) y0 y1 y2 y3 y4))
  | 0 => fun _ _ _ _ _ r h => by simp [ends_Get.l0] at h
  | k + 1 => by
    have ih0 := ends_Get.mono_l k
    · intro y0 y1 y2 y3 y4
      unfold ends_Get.l0
      repeat' first
      | (with_reducible exact ih0 _ _ _ _ _)
      | (with_reducible exact ends_Part.mono _ _ _ _)
      | (with_reducible exact LeO.refl _)
      | (with_reducible exact LeO.none _)
      | (with_reducible refine LeO.ite ?_ ?_)
      | (with_reducible refine LeO.bind ?_ (fun _ => ?_))
      | exact ih0 _ _ _ _ _
      | exact ends_Part.mono _ _ _ _
      | exact LeO.none _
      | refine LeO.ite ?_ ?_
      | refine LeO.bind ?_ (fun _ => ?_)
theorem ends_Get.mono : ∀ a0 a1 a2 k, LeO (ends_Get.f k a0 a1 a2) (ends_Get.f (k + 1) a0 a1 a2) := by
  intro a0 a1 a2 k
  have ih0 := ends_Get.mono_l k
  unfold ends_Get.f
  repeat' first
      | (with_reducible exact ih0 _ _ _ _ _)
      | (with_reducible exact ends_Part.mono _ _ _ _)
      | (with_reducible exact LeO.refl _)
      | (with_reducible exact LeO.none _)
      | (with_reducible refine LeO.ite ?_ ?_)
      | (with_reducible refine LeO.bind ?_ (fun _ => ?_))
      | exact ih0 _ _ _ _ _
      | exact ends_Part.mono _ _ _ _
      | exact LeO.none _
      | refine LeO.ite ?_ ?_
      | refine LeO.bind ?_ (fun _ => ?_)
set_option maxHeartbeats 8000000 in
set_option maxRecDepth 100000 in
theorem ends_Get.calls (k : Nat) (A0 : Option Addr) (c0 : Nat) (l0 : List Int) (a1 : Int) (a2 : Int) (r1 : Int) (r2 : Int) (w : World) (hr0 : Kd.C (Kd.int .u8) w A0 l0.length l0) (hc0 : l0.length ≤ c0) (h : ends_Get.f k l0 a1 a2 = some (r1, r2)) :
    Calls Try.prog 21 #[.slice A0 l0.length c0, .int .i64 a1, .int .i64 a2] w fun e w' => e = .returned (.tuple #[.int .u32 r1, .int .i64 r2]) ∧ Below w.heap.size w w' := by
  have HR0 := Aside0.mk hr0
  have HC0 := Aside0.mk hc0
  clear hr0 hc0
  have HB := Aside0.mk (Below.refl w.heap.size w)
  have H : ((ends_may.f a2).bind fun t117 => (if t117 = true then ((ends_Part.f k l0 a1 a2).bind fun bt118 => (ends_Get.l0 k bt118.2 0 bt118.1 (bt118.1.length : Int) 0)) else (some (0, 2)))) = some (r1, r2) := h
  clear h
  replace H := Option.bind_eq_some_iff.mp H
  obtain ⟨t117, A40, H⟩ := H
  replace H : (if t117 = true then ((ends_Part.f k l0 a1 a2).bind fun bt118 => (ends_Get.l0 k bt118.2 0 bt118.1 (bt118.1.length : Int) 0)) else (some (0, 2))) = some (r1, r2) := H
  have A4 := Aside0.mk A40
  clear A40
  by_cases c5 : t117 = true
  · subst c5
    have H1 : ((ends_Part.f k l0 a1 a2).bind fun bt118 => (ends_Get.l0 k bt118.2 0 bt118.1 (bt118.1.length : Int) 0)) = some (r1, r2) := by rw [if_pos rfl] at H; exact H
    clear H
    have H := H1
    clear H1
    replace H := Option.bind_eq_some_iff.mp H
    obtain ⟨⟨t118, t119⟩, A60, H⟩ := H
    replace H : (ends_Get.l0 k t119 0 t118 (t118.length : Int) 0) = some (r1, r2) := H
    have A6 := Aside0.mk A60
    clear A60
    have H' := Aside0.mk H
    clear H
    go_enter Try.func21, Try.ntmps21
    go_wp2_with (first | ((with_reducible refine gate_callee (f := 25) rfl ?_); refine goesL_ (some 14) rfl rfl Try.func25 (by kernel_rfl) rfl #[.int .i64 a2] rfl (by (try simp only [List.map_toArray, List.map_cons, List.map_nil]); first | done | rfl | (simp only [List.length_drop, List.length_take]; rfl)) ?_; (with_reducible refine (ends_may.calls a2 true _ A4.out).mono ?_); rintro e w' ⟨rfl, ⟨nd, rfl⟩⟩; refine ⟨_, rfl, ?_⟩) | ((with_reducible refine gate_callee (f := 22) rfl ?_); refine goesL_ (some 20) rfl rfl Try.func22 (by kernel_rfl) rfl #[.slice A0 l0.length c0, .int .i64 a1, .int .i64 a2] rfl (by (try simp only [List.map_toArray, List.map_cons, List.map_nil]); first | done | rfl | (simp only [List.length_drop, List.length_take]; rfl)) ?_; (with_reducible refine (ends_Part.calls k _ _ l0 a1 a2 t118 t119 _ ?side1 ?side2 A6.out).mono ?_); (case side1 => repeat (first | exact HR0.out | (with_reducible refine Kd.C_alloc ?_ _) | (with_reducible refine Kd.C_drewN ?_ _) | (with_reducible refine Kd.C_drew ?_))); (case side2 => exact HC0.out); rintro e w7 ⟨v120, rfl, ho0, hb⟩; refine ⟨_, rfl, ?_⟩; have n0_ := Aside0.mk (Kd.R_lower ho0 (below_size (by repeat (first | (with_reducible first | exact HB.out | apply below_alloc | apply pw_below_drewN | apply below_drew1) | exact HB.out)))); have n1_ := Aside0.mk (below_step (by repeat (first | (with_reducible first | exact HB.out | apply below_alloc | apply pw_below_drewN | apply below_drew1) | exact HB.out)) hb); clear HB; have HO121 := n0_; have HB := n1_; clear n0_ n1_; (try clear hb); (try clear hb2); (try clear hk); (try clear hi); (try clear ho0); obtain ⟨Ao8, co8, eo8⟩ := Kd.R_slice HO121.out; subst eo8))
    go_loopg [10, 25] k (fun kq v10 v25 w' => ∃ (x10_1 : Int) (x25_1 : Int), v10 = .int .u32 x10_1 ∧ v25 = .int .i64 x25_1 ∧ Aside0 (ends_Get.l0 kq t119 x10_1 t118 (t118.length : Int) x25_1 = some (r1, r2)) ∧ Aside0 (kq ≤ k) ∧ Aside0 (Kd.R (Kd.int .u8) 5 w' w.heap.size (fun _ => True) (.slice Ao8 t118.length co8) t118) ∧ Aside0 (Below w.heap.size w w'))
    case atStart => exact ⟨(0), (0), (by first | rfl | (simp; done) | (simp [*]; done)), (by first | rfl | (simp; done) | (simp [*]; done)), H', ⟨Nat.le_refl _⟩, ⟨by (with_reducible repeat (first | apply Kd.R_alloc | apply Kd.R_drewN | apply Kd.R_drew)); exact HO121.out⟩, ⟨by repeat (first | (with_reducible first | exact HB.out | apply below_alloc | apply pw_below_drewN | apply below_drew1) | exact HB.out)⟩⟩
    case round =>
      clear H'
      try clear c2
      try clear p2
      try clear c5
      obtain ⟨x10_1, x25_1, rfl, rfl, HA, HK1, HO_23, HB⟩ := hrel
      cases gk with
      | zero => exact absurd HA.out (by simp [ends_Get.l0])
      | succ k1 =>
        have H := HA.out
        clear HA
        simp only [ends_Get.l0] at H
        by_cases c9 : x25_1 < (t118.length : Int)
        · rw [if_pos c9] at H
          have c9b0 : decide (x25_1 < (t118.length : Int)) = true := decide_eq_true c9
          clear c9
          by_cases c10 : 0 ≤ x25_1
          · rw [if_pos c10] at H
            have c10b0 : decide (0 ≤ x25_1) = true := decide_eq_true c10
            clear c10
            by_cases c11 : x25_1 < (t118.length : Int)
            · rw [if_pos c11] at H
              have c11b0 : decide (x25_1 < (t118.length : Int)) = true := decide_eq_true c11
              clear c11
              have H' := Aside0.mk H
              clear H
              have p122 : 0 ≤ (x25_1 : Int) := of_decide_eq_true (by first | (with_reducible assumption) | assumption)
              have q122 : x25_1 < (t118.length : Int) := of_decide_eq_true (by first | (with_reducible assumption) | assumption)
              obtain ⟨ad122, e122, hx122_0⟩ := Kd.at_int (Kd.R_reads' HO_23.out).2.2 x25_1 p122 q122
              cases e122
              replace p122 := eq_true p122
              replace q122 := eq_true q122
              go_wp2
              go_roundg k1
              case measure => have := HK1.out; omega
              case rel => exact ⟨(Go.bits .or .u32 ((x10_1 * 256) % 4294967296) ((rd t118 x25_1) % 4294967296)), (wrap64 (x25_1 + 1)), (by first | rfl | (simp; done) | (simp [*]; done)), (by first | rfl | (simp; done) | (simp [*]; done)), H', ⟨by have := HK1.out; omega⟩, ⟨by (with_reducible repeat (first | apply Kd.R_alloc | apply Kd.R_drewN | apply Kd.R_drew)); exact HO_23.out⟩, ⟨by repeat (first | (with_reducible first | exact HB.out | apply below_alloc | apply pw_below_drewN | apply below_drew1) | exact HB.out)⟩⟩
            · rw [if_neg c11] at H
              exact absurd H (by simp)
          · rw [if_neg c10] at H
            exact absurd H (by simp)
        · rw [if_neg c9] at H
          have c9b0 : decide (x25_1 < (t118.length : Int)) = false := decide_eq_false c9
          clear c9
          simp only [Option.some.injEq, Prod.mk.injEq] at H
          obtain ⟨rfl, rfl⟩ := H
          go_wp2
          go_ret2
          exact ⟨by first | rfl | (simp [errW_none, errW_some] <;> rfl) | (simp [*, errW_none, errW_some] <;> rfl), by repeat (first | (with_reducible first | exact HB.out | apply below_alloc | apply pw_below_drewN | apply below_drew1) | exact HB.out)⟩
  · replace c5 := Bool.eq_false_iff.mpr c5
    subst c5
    have H1 : (some (0, 2)) = some (r1, r2) := by rw [if_neg (show ¬ (false = true) by decide)] at H; exact H
    clear H
    have H := H1
    clear H1
    simp only [Option.some.injEq, Prod.mk.injEq] at H
    obtain ⟨rfl, rfl⟩ := H
    go_enter Try.func21, Try.ntmps21
    go_wp2_with (first | ((with_reducible refine gate_callee (f := 25) rfl ?_); refine goesL_ (some 14) rfl rfl Try.func25 (by kernel_rfl) rfl #[.int .i64 a2] rfl (by (try simp only [List.map_toArray, List.map_cons, List.map_nil]); first | done | rfl | (simp only [List.length_drop, List.length_take]; rfl)) ?_; (with_reducible refine (ends_may.calls a2 false _ A4.out).mono ?_); rintro e w' ⟨rfl, ⟨nd, rfl⟩⟩; refine ⟨_, rfl, ?_⟩))
    go_ret2
    exact ⟨by first | rfl | (simp [errW_none, errW_some] <;> rfl) | (simp [*, errW_none, errW_some] <;> rfl), by repeat (first | (with_reducible first | exact HB.out | apply below_alloc | apply pw_below_drewN | apply below_drew1) | exact HB.out)⟩

/-! ### pool_Get: function 15 -/
def pool_Get.loop (b : List Int) : Nat → Int → List (S43) → Option ((List (S43)) × Int)
  | 0, at_, acc => if at_ < (b.length : Int) then some ([], 5) else some (acc, 0)
  | n + 1, at_, acc => (ends_Part.f 10 b at_ 4).bind fun p => (if p.2 = 0 then (if p.1.length = 4 then (if (pool_dec (rd p.1 0) (rd p.1 1) (rd p.1 2) (rd p.1 3)).2 = true then pool_Get.loop b n (at_ + 4) (acc ++ [(pool_dec (rd p.1 0) (rd p.1 1) (rd p.1 2) (rd p.1 3)).1]) else some ([], 5)) else none) else some ([], 4))
def pool_Get.f (_k : Nat) (l0 : List Int) : Option ((List (S43)) × Int) := (ends_Get.f 20 l0 0 2).bind fun t => (if t.2 = 0 then (if t.1 > 255 then some ([], 3) else if 0 ≤ t.1 then pool_Get.loop l0 t.1.toNat 2 [] else none) else some ([], t.2))
theorem pool_Get.mono : ∀ a0 k, LeO (pool_Get.f k a0) (pool_Get.f (k + 1) a0) := by
  intro a0 k
  unfold pool_Get.f
  repeat' first
      | (with_reducible exact ends_Get.mono _ _ _ _)
      | (with_reducible exact ends_Part.mono _ _ _ _)
      | (with_reducible exact pool_laid.mono _ _)
      | (with_reducible exact LeO.refl _)
      | (with_reducible exact LeO.none _)
      | (with_reducible refine LeO.ite ?_ ?_)
      | (with_reducible refine LeO.bind ?_ (fun _ => ?_))
      | exact ends_Get.mono _ _ _ _
      | exact ends_Part.mono _ _ _ _
      | exact pool_laid.mono _ _
      | exact LeO.none _
      | refine LeO.ite ?_ ?_
      | refine LeO.bind ?_ (fun _ => ?_)
set_option maxHeartbeats 8000000 in
set_option maxRecDepth 100000 in
theorem pool_Get.calls (k : Nat) (A0 : Option Addr) (c0 : Nat) (l0 : List Int) (r1 : List (S43)) (r2 : Int) (w : World) (hr0 : Kd.C (Kd.int .u8) w A0 l0.length l0) (hc0 : l0.length ≤ c0) (h : pool_Get.f k l0 = some (r1, r2)) :
    Calls Try.prog 15 #[.slice A0 l0.length c0] w fun e w' => ∃ v0_ : Value, e = .returned (.tuple #[v0_, .int .i64 r2]) ∧ Kd.R k43 43 w' w.heap.size (fun _ => True) v0_ r1 ∧ Below w.heap.size w w' := by
  have HR0 := Aside0.mk hr0
  have HC0 := Aside0.mk hc0
  clear hr0 hc0
  have HB := Aside0.mk (Below.refl w.heap.size w)
  have hu44 := Try.underlying44
  have hu43 := Try.underlying43
  have hu30 := Try.underlying30
  unfold pool_Get.f at h
  obtain ⟨⟨t0, t1⟩, A1, h⟩ := Option.bind_eq_some_iff.mp h
  replace h : (if t1 = 0 then (if t0 > 255 then some ([], 3) else if 0 ≤ t0 then pool_Get.loop l0 t0.toNat 2 [] else none) else some ([], t1)) = some (r1, r2) := h
  have A1_ := Aside0.mk A1
  clear A1
  by_cases c1 : t1 = 0
  · rw [if_pos c1] at h
    subst c1
    by_cases c2 : t0 > 255
    · rw [if_pos c2] at h
      simp only [Option.some.injEq, Prod.mk.injEq] at h
      obtain ⟨rfl, rfl⟩ := h
      have c2b0 : decide (255 < t0) = true := decide_eq_true c2
      clear c2
      go_enter Try.func15, Try.ntmps15
      go_wp2_with (first | (go_at_call 21; (with_reducible refine (ends_Get.calls 20 _ _ l0 0 2 t0 _ _ ?side1 ?side2 A1_.out).mono ?_); (case side1 => repeat (first | exact HR0.out | exact (Kd.C_below HR0.out HB.out) | (with_reducible refine Kd.C_alloc ?_ _) | (with_reducible refine Kd.C_drewN ?_ _) | (with_reducible refine Kd.C_drew ?_))); (case side2 => exact HC0.out); rintro e w8 ⟨rfl, hb⟩; have n1_ := Aside0.mk (below_step (by repeat (first | (with_reducible first | exact HB.out | apply below_alloc | apply pw_below_drewN | apply below_drew1) | exact HB.out)) hb); clear HB; have HB := n1_; clear n1_; clear hb))
      go_ret2
      exact ⟨_, rfl, Kd.R_nil _ _ _ _ _, HB.out⟩
    · rw [if_neg c2] at h
      by_cases c3 : 0 ≤ t0
      · rw [if_pos c3] at h
        have c2b0 : decide (255 < t0) = false := decide_eq_false c2
        have C23 := Aside0.mk (And.intro c3 (Int.not_lt.1 c2))
        have H0 := Aside0.mk h
        clear h c2 c3
        go_enter Try.func15, Try.ntmps15
        go_wp2_with (first | (go_at_call 21; (with_reducible refine (ends_Get.calls 20 _ _ l0 0 2 t0 _ _ ?side1 ?side2 A1_.out).mono ?_); (case side1 => repeat (first | exact HR0.out | exact (Kd.C_below HR0.out HB.out) | (with_reducible refine Kd.C_alloc ?_ _) | (with_reducible refine Kd.C_drewN ?_ _) | (with_reducible refine Kd.C_drew ?_))); (case side2 => exact HC0.out); rintro e w8 ⟨rfl, hb⟩; have n1_ := Aside0.mk (below_step (by repeat (first | (with_reducible first | exact HB.out | apply below_alloc | apply pw_below_drewN | apply below_drew1) | exact HB.out)) hb); clear HB; have HB := n1_; clear n1_; clear hb))
        clear c2b0
        go_loopg [6, 7, 25] t0.toNat (fun kq v6 v7 v25 w' => ∃ (acc : List S43) (at_ : Int), v7 = .int .i64 at_ ∧ v25 = .int .u32 (t0 - (kq : Int)) ∧ Aside0 ((kq : Int) ≤ t0 ∧ 2 ≤ at_ ∧ at_ + 4 * (kq : Int) ≤ 2000 ∧ acc.length + kq ≤ 255) ∧ Aside0 (pool_Get.loop l0 kq at_ acc = some (r1, r2)) ∧ Aside0 (Kd.R k43 43 w' w.heap.size (fun _ => True) v6 acc) ∧ Aside0 (Below w.heap.size w w'))
        case atStart => exact ⟨[], 2, rfl, (by have := C23.out; rw [Int.toNat_of_nonneg this.1, Int.sub_self]), ⟨by have := C23.out; simp; omega⟩, H0, ⟨Kd.R_nil _ _ _ _ _⟩, ⟨by repeat (first | (with_reducible first | exact HB.out | apply below_alloc | apply pw_below_drewN | apply below_drew1) | exact HB.out)⟩⟩
        case round =>
          clear HB H0 A1_
          obtain ⟨acc, at_, rfl, rfl, HN, HA, HO6, HB⟩ := hrel
          cases gk with
          | zero =>
            have h := HA.out
            clear HA
            unfold pool_Get.loop at h
            have c4b0 : decide (t0 - ((0 : Nat) : Int) < t0) = false := decide_eq_false (by omega)
            have c4b1 : decide (t0 < t0) = false := decide_eq_false (by omega)
            by_cases c5 : at_ < (l0.length : Int)
            · rw [if_pos c5] at h
              simp only [Option.some.injEq, Prod.mk.injEq] at h
              obtain ⟨rfl, rfl⟩ := h
              have c5b0 : decide (at_ < (l0.length : Int)) = true := decide_eq_true c5
              clear c5
              go_wp2
              go_ret2
              exact ⟨_, rfl, Kd.R_nil _ _ _ _ _, HB.out⟩
            · rw [if_neg c5] at h
              simp only [Option.some.injEq, Prod.mk.injEq] at h
              obtain ⟨rfl, rfl⟩ := h
              have c5b0 : decide (at_ < (l0.length : Int)) = false := decide_eq_false c5
              clear c5
              go_wp2
              go_ret2
              exact ⟨_, rfl, HO6.out, HB.out⟩
          | succ k1 =>
            have h := HA.out
            clear HA
            unfold pool_Get.loop at h
            obtain ⟨⟨p0, p1⟩, A2, h⟩ := Option.bind_eq_some_iff.mp h
            replace h : (if p1 = 0 then (if p0.length = 4 then (if (pool_dec (rd p0 0) (rd p0 1) (rd p0 2) (rd p0 3)).2 = true then pool_Get.loop l0 k1 (at_ + 4) (acc ++ [(pool_dec (rd p0 0) (rd p0 1) (rd p0 2) (rd p0 3)).1]) else some ([], 5)) else none) else some ([], 4)) = some (r1, r2) := h
            have A2_ := Aside0.mk A2
            clear A2
            obtain ⟨i25, hi25⟩ : ∃ i_ : Int, i_ = t0 - ((k1 + 1 : Nat) : Int) := ⟨_, rfl⟩
            rw [← hi25]
            have HI := Aside0.mk hi25
            have c4b0 : decide (i25 < t0) = true := decide_eq_true (by omega)
            clear hi25
            by_cases c5 : p1 = 0
            · rw [if_pos c5] at h
              have c5b0 : (p1 == 0) = true := beq_iff_eq.mpr c5
              have c5b1 : (p1 != 0) = false := bne_eq_false_iff_eq.mpr c5
              clear c5
              by_cases c6 : p0.length = 4
              · rw [if_pos c6] at h
                obtain ⟨⟨d, db⟩, hd⟩ : ∃ d_ : S43 × Bool, d_ = pool_dec (rd p0 0) (rd p0 1) (rd p0 2) (rd p0 3) := ⟨_, rfl⟩
                rw [← hd] at h
                replace h : (if db = true then pool_Get.loop l0 k1 (at_ + 4) (acc ++ [d]) else some ([], 5)) = some (r1, r2) := h
                have HD := Aside0.mk hd
                have C6 := Aside0.mk c6
                have H' := Aside0.mk h
                clear hd h c6
                go_upto_region 13 with (first | (go_at_call 22; (with_reducible refine (ends_Part.calls 10 _ _ l0 at_ 4 p0 _ _ ?side1 ?side2 A2_.out).mono ?_); (case side1 => repeat (first | exact HR0.out | exact (Kd.C_below HR0.out HB.out) | (with_reducible refine Kd.C_alloc ?_ _) | (with_reducible refine Kd.C_drewN ?_ _) | (with_reducible refine Kd.C_drew ?_))); (case side2 => exact HC0.out); rintro e w30 ⟨v30, rfl, ho0, hb⟩; have n0_ := Aside0.mk (Kd.R_below (by (with_reducible repeat (first | apply Kd.R_alloc | apply Kd.R_drewN | apply Kd.R_drew)); exact HO6.out) hb); have n2_ := Aside0.mk (Kd.R_lower ho0 (below_size (by repeat (first | (with_reducible first | exact HB.out | apply below_alloc | apply pw_below_drewN | apply below_drew1) | exact HB.out)))); have n1_ := Aside0.mk (below_step (by repeat (first | (with_reducible first | exact HB.out | apply below_alloc | apply pw_below_drewN | apply below_drew1) | exact HB.out)) hb); clear HB; have HB := n1_; clear n1_; clear HO6; have HO6 := n0_; have HOP := n2_; clear n0_ n2_ hb ho0))
                obtain ⟨gp, cp, e_, hpb, hpl, cellsp, hpc⟩ := Kd.R_form HOP.out (by rw [C6.out]; omega)
                rw [C6.out] at e_
                subst e_
                have HOP2 := HOP.out
                obtain ⟨hx0, _⟩ := Kd.R_celln 0 HOP2 (0 : Int) (by omega) (by omega)
                obtain ⟨hx1, _⟩ := Kd.R_celln 0 HOP2 (1 : Int) (by omega) (by omega)
                obtain ⟨hx2, _⟩ := Kd.R_celln 0 HOP2 (2 : Int) (by omega) (by omega)
                obtain ⟨hx3, _⟩ := Kd.R_celln 0 HOP2 (3 : Int) (by omega) (by omega)
                simp only [Int.reduceToNat, Int.toNat_zero, Int.toNat_one] at hx0 hx1 hx2 hx3
                replace hx0 : w30.cell? ⟨gp, 0, none⟩ = some (.int .u8 (rd p0 0)) := hx0
                replace hx1 : w30.cell? ⟨gp, 1, none⟩ = some (.int .u8 (rd p0 1)) := hx1
                replace hx2 : w30.cell? ⟨gp, 2, none⟩ = some (.int .u8 (rd p0 2)) := hx2
                replace hx3 : w30.cell? ⟨gp, 3, none⟩ = some (.int .u8 (rd p0 3)) := hx3
                clear HOP2 hpb hpl hpc
                have harr : ∀ W : World, (Instr.arrayAt 44 (.slice (some ⟨gp, 0, none⟩) 4 cp)).run Try.prog W = .ok (.pointer (some ⟨gp, 0, none⟩)) W := fun W => run_arrayAt W 44 5 4 (some ⟨gp, 0, none⟩) 4 cp Try.underlying44 (Nat.le_refl _)
                go_upto_region 14 with (first | (go_at_call 18; (with_reducible refine (pool_entry.calls (rd p0 0) (rd p0 1) (rd p0 2) (rd p0 3) _).mono ?_); rintro e w31 ⟨rfl, hb⟩; rw [← HD.out]; have n0_ := Aside0.mk (Kd.R_below (by (with_reducible repeat (first | apply Kd.R_alloc | apply Kd.R_drewN | apply Kd.R_drew)); exact HO6.out) hb); have n1_ := Aside0.mk (below_step (by repeat (first | (with_reducible first | exact HB.out | apply below_alloc | apply pw_below_drewN | apply below_drew1) | exact HB.out)) hb); clear HB; have HB := n1_; clear n1_; clear HO6; have HO6 := n0_; clear n0_ hb))
                obtain ⟨w32, hw32⟩ : ∃ w_ : World, w_ = w31.alloc (.cells #[.int .u8 d.f0, .int .u16 d.f1, .int .u8 d.f2, .bool d.f3, .int .u16 d.f4, .int .u8 d.f5, .int .u8 d.f6] 43) := ⟨_, rfl⟩
                obtain ⟨gx, hgx⟩ : ∃ g_ : Nat, g_ = w31.heap.size := ⟨_, rfl⟩
                rw [← hw32, ← hgx]
                have hbx : w32.heap[gx]? = some (.cells #[.int .u8 d.f0, .int .u16 d.f1, .int .u8 d.f2, .bool d.f3, .int .u16 d.f4, .int .u8 d.f5, .int .u8 d.f6] 43 (0, 0)) := by rw [hw32, hgx]; exact blk_new _ _
                have n0_ := Aside0.mk (show Kd.R k43 43 w32 w.heap.size (fun _ => True) _ acc by rw [hw32]; exact Kd.R_alloc HO6.out _)
                have n1_ := Aside0.mk (show Below w.heap.size w w32 by rw [hw32]; exact below_alloc HB.out _)
                clear HO6 HB hw32 hgx HOP hx0 hx1 hx2 hx3
                have HO6 := n0_
                have HB := n1_
                clear n0_ n1_
                have hz0 : w32.cell? ⟨gx, 0, none⟩ = some (.int .u8 d.f0) := (blk_cell hbx 0).trans rfl
                have hz1 : w32.cell? ⟨gx, 1, none⟩ = some (.int .u16 d.f1) := (blk_cell hbx 1).trans rfl
                have hz2 : w32.cell? ⟨gx, 2, none⟩ = some (.int .u8 d.f2) := (blk_cell hbx 2).trans rfl
                have hz3 : w32.cell? ⟨gx, 3, none⟩ = some (.bool d.f3) := (blk_cell hbx 3).trans rfl
                have hz4 : w32.cell? ⟨gx, 4, none⟩ = some (.int .u16 d.f4) := (blk_cell hbx 4).trans rfl
                have hz5 : w32.cell? ⟨gx, 5, none⟩ = some (.int .u8 d.f5) := (blk_cell hbx 5).trans rfl
                have hz6 : w32.cell? ⟨gx, 6, none⟩ = some (.int .u8 d.f6) := (blk_cell hbx 6).trans rfl
                clear hbx
                have hwr : wrap64 (at_ + 4) = at_ + 4 := by have := HN.out; unfold wrap64; omega
                have HWR := Aside0.mk hwr
                clear hwr
                cases db with
                | false =>
                  have h := H'.out
                  rw [if_neg (by decide)] at h
                  simp only [Option.some.injEq, Prod.mk.injEq] at h
                  obtain ⟨rfl, rfl⟩ := h
                  go_wp2
                  go_ret2
                  exact ⟨_, rfl, Kd.R_nil _ _ _ _ _, HB.out⟩
                | true =>
                  have h := H'.out
                  rw [if_pos rfl] at h
                  have H2 := Aside0.mk h
                  clear h H'
                  go_wp2_with (first | ((with_reducible refine gate_builtin (b := .append) (xs := #[.tmp 44, .tmp 46]) rfl ?_); at_builtin; refine Kd.R_append k43 (w0 := w) w.heap.size rfl (.tmp 44) (.tmp 46) 30 43 (.agg #[.int .u8 0, .int .u16 0, .int .u8 0, .bool false, .int .u16 0, .int .u8 0, .int .u8 0]) 10 rfl Try.underlying30 pool_info43 rfl (by decide) (by omega) _ acc d [.int .u8 d.f0, .int .u16 d.f1, .int .u8 d.f2, .bool d.f3, .int .u16 d.f4, .int .u8 d.f5, .int .u8 d.f6] (fun _ => True) (fun _ => False) rfl (by first | (go_simp; done) | (go_simp; rfl)) ?aP (fun _ hk => hk.elim) ?aF ?aO ?aB ?aS ?aL ?_; (case aP => exact k43_mkM _ _ _ d); (case aF => exact (fun _ _ => trivial)); (case aB => exact HB.out); (case aO => exact HO6.out); (case aS => exact (below_size HB.out)); (case aL => have := HN.out; omega); intro v47 w47 ho hb hg hat; have n0_ := Aside0.mk ho; have n1_ := Aside0.mk hb; clear HO6 HB; have HO6 := n0_; have HB := n1_; clear n0_ n1_ ho hb hg hat))
                  go_roundg k1
                  case measure => omega
                  case rel =>
                    refine ⟨acc ++ [d], at_ + 4, ?_, ?_, ⟨?_⟩, H2, ⟨by (with_reducible repeat (first | apply Kd.R_alloc | apply Kd.R_drewN | apply Kd.R_drew)); exact HO6.out⟩, ⟨by repeat (first | (with_reducible first | exact HB.out | apply below_alloc | apply pw_below_drewN | apply below_drew1) | exact HB.out)⟩⟩
                    · first | (rw [HWR.out]; done) | (simp only [HWR.out]; done) | (simp [HWR.out]; done)
                    · have h1_ := HI.out
                      have h2_ := C23.out
                      have h3_ := HN.out
                      first | (rw [show (i25 + 1) % 4294967296 = t0 - (k1 : Int) from by omega]; done) | (simp only [Value.int.injEq, true_and]; omega)
                    · have := HN.out
                      simp only [List.length_append, List.length_singleton]
                      omega
              · rw [if_neg c6] at h
                cases h
            · rw [if_neg c5] at h
              simp only [Option.some.injEq, Prod.mk.injEq] at h
              obtain ⟨rfl, rfl⟩ := h
              have c5b0 : (p1 == 0) = false := beq_eq_false_iff_ne.mpr c5
              have c5b1 : (p1 != 0) = true := bne_iff_ne.mpr c5
              clear c5
              go_wp2_with (first | (go_at_call 22; (with_reducible refine (ends_Part.calls 10 _ _ l0 at_ 4 p0 _ _ ?side1 ?side2 A2_.out).mono ?_); (case side1 => repeat (first | exact HR0.out | exact (Kd.C_below HR0.out HB.out) | (with_reducible refine Kd.C_alloc ?_ _) | (with_reducible refine Kd.C_drewN ?_ _) | (with_reducible refine Kd.C_drew ?_))); (case side2 => exact HC0.out); rintro e w30 ⟨v30, rfl, ho0, hb⟩; have n0_ := Aside0.mk (Kd.R_below (by (with_reducible repeat (first | apply Kd.R_alloc | apply Kd.R_drewN | apply Kd.R_drew)); exact HO6.out) hb); have n2_ := Aside0.mk (Kd.R_lower ho0 (below_size (by repeat (first | (with_reducible first | exact HB.out | apply below_alloc | apply pw_below_drewN | apply below_drew1) | exact HB.out)))); have n1_ := Aside0.mk (below_step (by repeat (first | (with_reducible first | exact HB.out | apply below_alloc | apply pw_below_drewN | apply below_drew1) | exact HB.out)) hb); clear HB; have HB := n1_; clear n1_; clear HO6; have HO6 := n0_; have HOP := n2_; clear n0_ n2_ hb ho0))
              go_ret2
              exact ⟨_, rfl, Kd.R_nil _ _ _ _ _, HB.out⟩
      · rw [if_neg c3] at h
        cases h
  · rw [if_neg c1] at h
    simp only [Option.some.injEq, Prod.mk.injEq] at h
    obtain ⟨rfl, rfl⟩ := h
    have c1b0 : (t1 == 0) = false := beq_eq_false_iff_ne.mpr c1
    have c1b1 : (t1 != 0) = true := bne_iff_ne.mpr c1
    clear c1
    go_enter Try.func15, Try.ntmps15
    go_wp2_with (first | (go_at_call 21; (with_reducible refine (ends_Get.calls 20 _ _ l0 0 2 t0 _ _ ?side1 ?side2 A1_.out).mono ?_); (case side1 => repeat (first | exact HR0.out | exact (Kd.C_below HR0.out HB.out) | (with_reducible refine Kd.C_alloc ?_ _) | (with_reducible refine Kd.C_drewN ?_ _) | (with_reducible refine Kd.C_drew ?_))); (case side2 => exact HC0.out); rintro e w8 ⟨rfl, hb⟩; have n1_ := Aside0.mk (below_step (by repeat (first | (with_reducible first | exact HB.out | apply below_alloc | apply pw_below_drewN | apply below_drew1) | exact HB.out)) hb); clear HB; have HB := n1_; clear n1_; clear hb))
    go_ret2
    exact ⟨_, rfl, Kd.R_nil _ _ _ _ _, HB.out⟩

/-! ### garderobelaw07_works: function 11 -/
def garderobelaw07_works.f (k : Nat)  : Option (Bool) := (pool_Split.f 33282).bind fun bt133 => ((pool_Ref.f true 2 2).bind fun bt136 => ((pool_Ref.f false 32768 0).bind fun bt138 => ((pool_Get.f k (([0, 1, 7, 0, 0, 0] : List Int))).bind fun bt143 => (if bt133.1 = true then (if bt133.2.1 = 2 then (if bt133.2.2 = 2 then (if bt136.1 = 33282 then (if bt136.2 = 0 then (if bt138.2 = 2 then (some (bt143.2 == 5)) else (none)) else (none)) else (none)) else (none)) else (none)) else (none)))))
theorem garderobelaw07_works.mono : ∀ k, LeO (garderobelaw07_works.f k ) (garderobelaw07_works.f (k + 1) ) := by
  intro  k
  unfold garderobelaw07_works.f
  repeat' first
      | (with_reducible exact pool_Get.mono _ _)
      | (with_reducible exact LeO.refl _)
      | (with_reducible exact LeO.none _)
      | (with_reducible refine LeO.ite ?_ ?_)
      | (with_reducible refine LeO.bind ?_ (fun _ => ?_))
      | exact pool_Get.mono _ _
      | exact LeO.none _
      | refine LeO.ite ?_ ?_
      | refine LeO.bind ?_ (fun _ => ?_)
set_option maxHeartbeats 8000000 in
set_option maxRecDepth 100000 in
theorem garderobelaw07_works.calls (k : Nat)  (r : Bool) (w : World) (h : garderobelaw07_works.f k  = some r) :
    Calls Try.prog 11 #[] w fun e w' => e = .returned (.bool r) ∧ Below w.heap.size w w' := by
  have HB := Aside0.mk (Below.refl w.heap.size w)
  have H : ((pool_Split.f 33282).bind fun bt133 => ((pool_Ref.f true 2 2).bind fun bt136 => ((pool_Ref.f false 32768 0).bind fun bt138 => ((pool_Get.f k (([0, 1, 7, 0, 0, 0] : List Int))).bind fun bt143 => (if bt133.1 = true then (if bt133.2.1 = 2 then (if bt133.2.2 = 2 then (if bt136.1 = 33282 then (if bt136.2 = 0 then (if bt138.2 = 2 then (some (bt143.2 == 5)) else (none)) else (none)) else (none)) else (none)) else (none)) else (none)))))) = some r := h
  clear h
  replace H := Option.bind_eq_some_iff.mp H
  obtain ⟨⟨t133, t134, t135⟩, A10, H⟩ := H
  replace H : ((pool_Ref.f true 2 2).bind fun bt136 => ((pool_Ref.f false 32768 0).bind fun bt138 => ((pool_Get.f k (([0, 1, 7, 0, 0, 0] : List Int))).bind fun bt143 => (if t133 = true then (if t134 = 2 then (if t135 = 2 then (if bt136.1 = 33282 then (if bt136.2 = 0 then (if bt138.2 = 2 then (some (bt143.2 == 5)) else (none)) else (none)) else (none)) else (none)) else (none)) else (none))))) = some r := H
  have A1 := Aside0.mk A10
  clear A10
  replace H := Option.bind_eq_some_iff.mp H
  obtain ⟨⟨t136, t137⟩, A20, H⟩ := H
  replace H : ((pool_Ref.f false 32768 0).bind fun bt138 => ((pool_Get.f k (([0, 1, 7, 0, 0, 0] : List Int))).bind fun bt143 => (if t133 = true then (if t134 = 2 then (if t135 = 2 then (if t136 = 33282 then (if t137 = 0 then (if bt138.2 = 2 then (some (bt143.2 == 5)) else (none)) else (none)) else (none)) else (none)) else (none)) else (none)))) = some r := H
  have A2 := Aside0.mk A20
  clear A20
  replace H := Option.bind_eq_some_iff.mp H
  obtain ⟨⟨t138, t139⟩, A30, H⟩ := H
  replace H : ((pool_Get.f k (([0, 1, 7, 0, 0, 0] : List Int))).bind fun bt143 => (if t133 = true then (if t134 = 2 then (if t135 = 2 then (if t136 = 33282 then (if t137 = 0 then (if t139 = 2 then (some (bt143.2 == 5)) else (none)) else (none)) else (none)) else (none)) else (none)) else (none))) = some r := H
  have A3 := Aside0.mk A30
  clear A30
  obtain ⟨y140, hy140⟩ : ∃ y_ : List Int, y_ = (([0, 1, 7, 0, 0, 0] : List Int)) := ⟨_, rfl⟩
  replace H : ((pool_Get.f k y140).bind fun bt143 => (if t133 = true then (if t134 = 2 then (if t135 = 2 then (if t136 = 33282 then (if t137 = 0 then (if t139 = 2 then (some (bt143.2 == 5)) else (none)) else (none)) else (none)) else (none)) else (none)) else (none))) = some r := by first | (rw [hy140]; with_reducible exact H) | (have H2_ := (Option.bind_some _ _).symm.trans H; rw [hy140]; with_reducible exact H2_) | (have H2_ := (Option.bind_some _ _).symm.trans H; with_reducible exact H2_) | with_reducible exact H | (rw [hy140]; exact H) | exact H
  have Ny140 := Aside0.mk hy140
  clear hy140
  replace H := Option.bind_eq_some_iff.mp H
  obtain ⟨⟨t143, t144⟩, A40, H⟩ := H
  replace H : (if t133 = true then (if t134 = 2 then (if t135 = 2 then (if t136 = 33282 then (if t137 = 0 then (if t139 = 2 then (some (t144 == 5)) else (none)) else (none)) else (none)) else (none)) else (none)) else (none)) = some r := H
  have A4 := Aside0.mk A40
  clear A40
  by_cases c5 : t133 = true
  · subst c5
    have H1 : (if t134 = 2 then (if t135 = 2 then (if t136 = 33282 then (if t137 = 0 then (if t139 = 2 then (some (t144 == 5)) else (none)) else (none)) else (none)) else (none)) else (none)) = some r := by rw [if_pos rfl] at H; exact H
    clear H
    have H := H1
    clear H1
    by_cases c6 : t134 = 2
    · rw [if_pos c6] at H
      have c6b0 : (t134 == 2) = true := beq_iff_eq.mpr c6
      have c6b1 : (t134 != 2) = false := bne_eq_false_iff_eq.mpr c6
      clear c6
      by_cases c7 : t135 = 2
      · rw [if_pos c7] at H
        have c7b0 : (t135 == 2) = true := beq_iff_eq.mpr c7
        have c7b1 : (t135 != 2) = false := bne_eq_false_iff_eq.mpr c7
        clear c7
        by_cases c8 : t136 = 33282
        · rw [if_pos c8] at H
          have c8b0 : (t136 == 33282) = true := beq_iff_eq.mpr c8
          have c8b1 : (t136 != 33282) = false := bne_eq_false_iff_eq.mpr c8
          clear c8
          by_cases c9 : t137 = 0
          · rw [if_pos c9] at H
            have c9b0 : (t137 == 0) = true := beq_iff_eq.mpr c9
            have c9b1 : (t137 != 0) = false := bne_eq_false_iff_eq.mpr c9
            clear c9
            by_cases c10 : t139 = 2
            · rw [if_pos c10] at H
              have c10b0 : (t139 == 2) = true := beq_iff_eq.mpr c10
              have c10b1 : (t139 != 2) = false := bne_eq_false_iff_eq.mpr c10
              clear c10
              obtain rfl := Option.some.inj H
              go_enter Try.func11, Try.ntmps11
              go_wp2_with (first | ((with_reducible refine gate_callee (f := 7) rfl ?_); refine goesL_ (some 11) rfl rfl Try.func7 (by kernel_rfl) rfl #[.int .u16 33282] rfl (by (try simp only [List.map_toArray, List.map_cons, List.map_nil]); first | done | rfl | (simp only [List.length_drop, List.length_take]; rfl)) ?_; (with_reducible refine (pool_Split.calls 33282 true t134 t135 _ A1.out).mono ?_); rintro e w' ⟨rfl, ⟨nd, rfl⟩⟩; refine ⟨_, rfl, ?_⟩) | ((with_reducible refine gate_callee (f := 9) rfl ?_); refine goesL_ (some 16) rfl rfl Try.func9 (by kernel_rfl) rfl #[.bool true, .int .i64 2, .int .i64 2] rfl (by (try simp only [List.map_toArray, List.map_cons, List.map_nil]); first | done | rfl | (simp only [List.length_drop, List.length_take]; rfl)) ?_; (with_reducible refine (pool_Ref.calls true 2 2 t136 t137 _ A2.out).mono ?_); rintro e w' ⟨rfl, ⟨nd, rfl⟩⟩; refine ⟨_, rfl, ?_⟩) | ((with_reducible refine gate_callee (f := 9) rfl ?_); refine goesL_ (some 20) rfl rfl Try.func9 (by kernel_rfl) rfl #[.bool false, .int .i64 32768, .int .i64 0] rfl (by (try simp only [List.map_toArray, List.map_cons, List.map_nil]); first | done | rfl | (simp only [List.length_drop, List.length_take]; rfl)) ?_; (with_reducible refine (pool_Ref.calls false 32768 0 t138 t139 _ A3.out).mono ?_); rintro e w' ⟨rfl, ⟨nd, rfl⟩⟩; refine ⟨_, rfl, ?_⟩) | ((with_reducible refine gate_dst (N := 24) rfl ?_); refine Kd.R_lit (Kd.int .u8) _ 5 ?hg (N := 24) ?hd (xs := ([0, 1, 7, 0, 0, 0] : List Int)) (inner := [.int .u8 0, .int .u8 1, .int .u8 7, .int .u8 0, .int .u8 0, .int .u8 0]) (ok := fun _ => True) (okp := fun _ => True) ?hr ?hp (fun _ hk => hk) trivial (Below.refl _ _) (Nat.le_refl _) (by simp) ?_; (case hd => rfl); (case hg => rfl); (case hr => first | (go_simp; done) | (go_simp; rfl)); (case hp => exact (Reps.one (show Kd.M (Kd.int .u8) _ _ _ 0 [.int .u8 0] from rfl) (Reps.one (show Kd.M (Kd.int .u8) _ _ _ 1 [.int .u8 1] from rfl) (Reps.one (show Kd.M (Kd.int .u8) _ _ _ 7 [.int .u8 7] from rfl) (Reps.one (show Kd.M (Kd.int .u8) _ _ _ 0 [.int .u8 0] from rfl) (Reps.one (show Kd.M (Kd.int .u8) _ _ _ 0 [.int .u8 0] from rfl) (Reps.one (show Kd.M (Kd.int .u8) _ _ _ 0 [.int .u8 0] from rfl) (Reps.none _ _)))))))); intro v141 w11 ho12 hb hg_ hnew_; clear hg_ hnew_; (first | rw [← Ny140.out] at ho12 | (simp only [Int.reduceToNat] at ho12; rw [← Ny140.out] at ho12)); have n0_ := Aside0.mk (Kd.R_lower ho12 (below_size (by repeat (first | (with_reducible first | exact HB.out | apply below_alloc | apply pw_below_drewN | apply below_drew1) | exact HB.out)))); have n1_ := Aside0.mk (below_step (by repeat (first | (with_reducible first | exact HB.out | apply below_alloc | apply pw_below_drewN | apply below_drew1) | exact HB.out)) hb); clear HB; have HO142 := n0_; have HB := n1_; clear n0_ n1_; clear hb ho12; obtain ⟨Ao13, co13, eo13⟩ := Kd.R_slice HO142.out; subst eo13) | ((with_reducible refine gate_callee (f := 15) rfl ?_); refine goesL_ (some 25) rfl rfl Try.func15 (by kernel_rfl) rfl #[.slice Ao13 y140.length co13] rfl (by (try simp only [List.map_toArray, List.map_cons, List.map_nil]); first | done | rfl | (simp only [List.length_drop, List.length_take]; rfl)) ?_; (with_reducible refine (pool_Get.calls k _ _ y140 t143 t144 _ ?side1 ?side2 A4.out).mono ?_); (case side1 => repeat (first | exact (Kd.R_reads' HO142.out).2.2 | (with_reducible refine Kd.C_alloc ?_ _) | (with_reducible refine Kd.C_drewN ?_ _) | (with_reducible refine Kd.C_drew ?_))); (case side2 => exact (Kd.R_reads' HO142.out).2.1); rintro e w14 ⟨v145, rfl, ho0, hb⟩; refine ⟨_, rfl, ?_⟩; have n0_ := Aside0.mk (Kd.R_below (by (with_reducible repeat (first | apply Kd.R_alloc | apply Kd.R_drewN | apply Kd.R_drew)); exact HO142.out) hb); have n1_ := Aside0.mk (Kd.R_lower ho0 (below_size (by repeat (first | (with_reducible first | exact HB.out | apply below_alloc | apply pw_below_drewN | apply below_drew1) | exact HB.out)))); have n2_ := Aside0.mk (below_step (by repeat (first | (with_reducible first | exact HB.out | apply below_alloc | apply pw_below_drewN | apply below_drew1) | exact HB.out)) hb); clear HO142; clear HB; have HO142 := n0_; have HO146 := n1_; have HB := n2_; clear n0_ n1_ n2_; (try clear hb); (try clear hb2); (try clear hk); (try clear hi); (try clear ho0)))
              go_ret
              exact ⟨by first | rfl | (simp [errW_none, errW_some] <;> rfl) | (simp [*, errW_none, errW_some] <;> rfl), by repeat (first | (with_reducible first | exact HB.out | apply below_alloc | apply pw_below_drewN | apply below_drew1) | exact HB.out)⟩
            · rw [if_neg c10] at H
              exact absurd H (by simp)
          · rw [if_neg c9] at H
            exact absurd H (by simp)
        · rw [if_neg c8] at H
          exact absurd H (by simp)
      · rw [if_neg c7] at H
        exact absurd H (by simp)
    · rw [if_neg c6] at H
      exact absurd H (by simp)
  · replace c5 := Bool.eq_false_iff.mpr c5
    subst c5
    have H1 : (none) = some r := by rw [if_neg (show ¬ (false = true) by decide)] at H; exact H
    clear H
    have H := H1
    clear H1
    exact absurd H (by simp)

/-! ### garderobelaw07_PoolRefs: function 3 -/
def garderobelaw07_PoolRefs.f (k : Nat) (a0 : Int) (a1 : Bool) (a2 : Int) (a3 : Int) : Option (Bool) := (pool_Split.f a0).bind fun bt147 => ((garderoberef07_Split.f a0).bind fun bt150 => ((pool_Ref.f a1 a2 a3).bind fun bt153 => ((garderoberef07_Ref.f k a1 a2 a3).bind fun bt155 => (if (bt147.1 == bt150.1) = true then (if bt147.2.1 = bt150.2.1 then (if bt147.2.2 = bt150.2.2 then (if bt153.1 = bt155.1 then (if bt153.2 = bt155.2 then ((garderobelaw07_works.f k).bind fun t157 => (some t157)) else (none)) else (none)) else (none)) else (none)) else (none)))))
theorem garderobelaw07_PoolRefs.mono : ∀ a0 a1 a2 a3 k, LeO (garderobelaw07_PoolRefs.f k a0 a1 a2 a3) (garderobelaw07_PoolRefs.f (k + 1) a0 a1 a2 a3) := by
  intro a0 a1 a2 a3 k
  unfold garderobelaw07_PoolRefs.f
  repeat' first
      | (with_reducible exact garderobelaw07_works.mono _)
      | (with_reducible exact garderoberef07_Ref.mono _ _ _ _)
      | (with_reducible exact LeO.refl _)
      | (with_reducible exact LeO.none _)
      | (with_reducible refine LeO.ite ?_ ?_)
      | (with_reducible refine LeO.bind ?_ (fun _ => ?_))
      | exact garderobelaw07_works.mono _
      | exact garderoberef07_Ref.mono _ _ _ _
      | exact LeO.none _
      | refine LeO.ite ?_ ?_
      | refine LeO.bind ?_ (fun _ => ?_)
set_option maxHeartbeats 8000000 in
set_option maxRecDepth 100000 in
theorem garderobelaw07_PoolRefs.calls (k : Nat) (a0 : Int) (a1 : Bool) (a2 : Int) (a3 : Int) (r : Bool) (w : World) (h : garderobelaw07_PoolRefs.f k a0 a1 a2 a3 = some r) :
    Calls Try.prog 3 #[.int .u16 a0, .bool a1, .int .i64 a2, .int .i64 a3] w fun e w' => e = .returned (.bool r) ∧ Below w.heap.size w w' := by
  have HB := Aside0.mk (Below.refl w.heap.size w)
  have H : ((pool_Split.f a0).bind fun bt147 => ((garderoberef07_Split.f a0).bind fun bt150 => ((pool_Ref.f a1 a2 a3).bind fun bt153 => ((garderoberef07_Ref.f k a1 a2 a3).bind fun bt155 => (if (bt147.1 == bt150.1) = true then (if bt147.2.1 = bt150.2.1 then (if bt147.2.2 = bt150.2.2 then (if bt153.1 = bt155.1 then (if bt153.2 = bt155.2 then ((garderobelaw07_works.f k).bind fun t157 => (some t157)) else (none)) else (none)) else (none)) else (none)) else (none)))))) = some r := h
  clear h
  replace H := Option.bind_eq_some_iff.mp H
  obtain ⟨⟨t147, t148, t149⟩, A50, H⟩ := H
  replace H : ((garderoberef07_Split.f a0).bind fun bt150 => ((pool_Ref.f a1 a2 a3).bind fun bt153 => ((garderoberef07_Ref.f k a1 a2 a3).bind fun bt155 => (if (t147 == bt150.1) = true then (if t148 = bt150.2.1 then (if t149 = bt150.2.2 then (if bt153.1 = bt155.1 then (if bt153.2 = bt155.2 then ((garderobelaw07_works.f k).bind fun t157 => (some t157)) else (none)) else (none)) else (none)) else (none)) else (none))))) = some r := H
  have A5 := Aside0.mk A50
  clear A50
  replace H := Option.bind_eq_some_iff.mp H
  obtain ⟨⟨t150, t151, t152⟩, A60, H⟩ := H
  replace H : ((pool_Ref.f a1 a2 a3).bind fun bt153 => ((garderoberef07_Ref.f k a1 a2 a3).bind fun bt155 => (if (t147 == t150) = true then (if t148 = t151 then (if t149 = t152 then (if bt153.1 = bt155.1 then (if bt153.2 = bt155.2 then ((garderobelaw07_works.f k).bind fun t157 => (some t157)) else (none)) else (none)) else (none)) else (none)) else (none)))) = some r := H
  have A6 := Aside0.mk A60
  clear A60
  replace H := Option.bind_eq_some_iff.mp H
  obtain ⟨⟨t153, t154⟩, A70, H⟩ := H
  replace H : ((garderoberef07_Ref.f k a1 a2 a3).bind fun bt155 => (if (t147 == t150) = true then (if t148 = t151 then (if t149 = t152 then (if t153 = bt155.1 then (if t154 = bt155.2 then ((garderobelaw07_works.f k).bind fun t157 => (some t157)) else (none)) else (none)) else (none)) else (none)) else (none))) = some r := H
  have A7 := Aside0.mk A70
  clear A70
  replace H := Option.bind_eq_some_iff.mp H
  obtain ⟨⟨t155, t156⟩, A80, H⟩ := H
  replace H : (if (t147 == t150) = true then (if t148 = t151 then (if t149 = t152 then (if t153 = t155 then (if t154 = t156 then ((garderobelaw07_works.f k).bind fun t157 => (some t157)) else (none)) else (none)) else (none)) else (none)) else (none)) = some r := H
  have A8 := Aside0.mk A80
  clear A80
  by_cases c9 : (t147 == t150) = true
  · rw [if_pos c9] at H
    have c9b0 : (t147 == t150) = true := c9
    (try (have c9b1 : decide (t147 = t150) = true := by simpa using c9))
    (try (have c9b2 : (t147 == t150) = true := by simpa using c9))
    clear c9
    by_cases c10 : t148 = t151
    · rw [if_pos c10] at H
      have c10b0 : (t148 == t151) = true := beq_iff_eq.mpr c10
      have c10b1 : (t148 != t151) = false := bne_eq_false_iff_eq.mpr c10
      clear c10
      by_cases c11 : t149 = t152
      · rw [if_pos c11] at H
        have c11b0 : (t149 == t152) = true := beq_iff_eq.mpr c11
        have c11b1 : (t149 != t152) = false := bne_eq_false_iff_eq.mpr c11
        clear c11
        by_cases c12 : t153 = t155
        · rw [if_pos c12] at H
          have c12b0 : (t153 == t155) = true := beq_iff_eq.mpr c12
          have c12b1 : (t153 != t155) = false := bne_eq_false_iff_eq.mpr c12
          clear c12
          by_cases c13 : t154 = t156
          · rw [if_pos c13] at H
            have c13b0 : (t154 == t156) = true := beq_iff_eq.mpr c13
            have c13b1 : (t154 != t156) = false := bne_eq_false_iff_eq.mpr c13
            clear c13
            replace H := Option.bind_eq_some_iff.mp H
            obtain ⟨t157, A140, H⟩ := H
            replace H : (some t157) = some r := H
            have A14 := Aside0.mk A140
            clear A140
            obtain rfl := Option.some.inj H
            go_enter Try.func3, Try.ntmps3
            go_wp2_with (first | ((with_reducible refine gate_callee (f := 7) rfl ?_); refine goesL_ (some 21) rfl rfl Try.func7 (by kernel_rfl) rfl #[.int .u16 a0] rfl (by (try simp only [List.map_toArray, List.map_cons, List.map_nil]); first | done | rfl | (simp only [List.length_drop, List.length_take]; rfl)) ?_; (with_reducible refine (pool_Split.calls a0 t147 t148 t149 _ A5.out).mono ?_); rintro e w' ⟨rfl, ⟨nd, rfl⟩⟩; refine ⟨_, rfl, ?_⟩) | ((with_reducible refine gate_callee (f := 8) rfl ?_); refine goesL_ (some 27) rfl rfl Try.func8 (by kernel_rfl) rfl #[.int .u16 a0] rfl (by (try simp only [List.map_toArray, List.map_cons, List.map_nil]); first | done | rfl | (simp only [List.length_drop, List.length_take]; rfl)) ?_; (with_reducible refine (garderoberef07_Split.calls a0 t150 t151 t152 _ A6.out).mono ?_); rintro e w' ⟨rfl, ⟨nd, rfl⟩⟩; refine ⟨_, rfl, ?_⟩) | ((with_reducible refine gate_callee (f := 9) rfl ?_); refine goesL_ (some 35) rfl rfl Try.func9 (by kernel_rfl) rfl #[.bool a1, .int .i64 a2, .int .i64 a3] rfl (by (try simp only [List.map_toArray, List.map_cons, List.map_nil]); first | done | rfl | (simp only [List.length_drop, List.length_take]; rfl)) ?_; (with_reducible refine (pool_Ref.calls a1 a2 a3 t153 t154 _ A7.out).mono ?_); rintro e w' ⟨rfl, ⟨nd, rfl⟩⟩; refine ⟨_, rfl, ?_⟩) | ((with_reducible refine gate_callee (f := 10) rfl ?_); refine goesL_ (some 42) rfl rfl Try.func10 (by kernel_rfl) rfl #[.bool a1, .int .i64 a2, .int .i64 a3] rfl (by (try simp only [List.map_toArray, List.map_cons, List.map_nil]); first | done | rfl | (simp only [List.length_drop, List.length_take]; rfl)) ?_; (with_reducible refine (garderoberef07_Ref.calls k a1 a2 a3 t155 t156 _ A8.out).mono ?_); rintro e w' ⟨rfl, ⟨nd, rfl⟩⟩; refine ⟨_, rfl, ?_⟩) | (go_at_call 11; (with_reducible refine (garderobelaw07_works.calls k  t157 _ A14.out).mono ?_); rintro e w15 ⟨rfl, hb⟩; have n0_ := Aside0.mk (below_step (by repeat (first | (with_reducible first | exact HB.out | apply below_alloc | apply pw_below_drewN | apply below_drew1) | exact HB.out)) hb); clear HB; have HB := n0_; clear n0_; (try clear hb); (try clear hb2); (try clear hk); (try clear hi)))
            go_ret
            exact ⟨by first | rfl | (simp [errW_none, errW_some] <;> rfl) | (simp [*, errW_none, errW_some] <;> rfl), by repeat (first | (with_reducible first | exact HB.out | apply below_alloc | apply pw_below_drewN | apply below_drew1) | exact HB.out)⟩
          · rw [if_neg c13] at H
            exact absurd H (by simp)
        · rw [if_neg c12] at H
          exact absurd H (by simp)
      · rw [if_neg c11] at H
        exact absurd H (by simp)
    · rw [if_neg c10] at H
      exact absurd H (by simp)
  · rw [if_neg c9] at H
    exact absurd H (by simp)

/-- THE ONE PURE STATEMENT of garderobelaw07_PoolRefs: yours. -/
def garderobelaw07_PoolRefs.Pure : Prop := ∀ (a0 : Int) (a1 : Bool) (a2 : Int) (a3 : Int), (Lit.int .u16 a0).wf = true → (Lit.int .i64 a2).wf = true → (Lit.int .i64 a3).wf = true → ∃ k, garderobelaw07_PoolRefs.f k a0 a1 a2 a3 = some true
theorem garderobelaw07_PoolRefs.walk (P : garderobelaw07_PoolRefs.Pure) (a0 : Int) (a1 : Bool) (a2 : Int) (a3 : Int) (w : World) (w0 : (Lit.int .u16 a0).wf = true) (w2 : (Lit.int .i64 a2).wf = true) (w3 : (Lit.int .i64 a3).wf = true) :
    Calls Try.prog 3 #[.int .u16 a0, .bool a1, .int .i64 a2, .int .i64 a3] w fun e w' => e = .returned (.bool true) ∧ Below w.heap.size w w' := by
  obtain ⟨k, h⟩ := P a0 a1 a2 a3 w0 w2 w3
  refine (garderobelaw07_PoolRefs.calls k a0 a1 a2 a3 true w h).mono ?_
  rintro e w' ⟨rfl, hd⟩
  exact ⟨rfl, hd⟩

end Go.Proofs.Ytechlmlokgjlnaa.PPoolRefs
