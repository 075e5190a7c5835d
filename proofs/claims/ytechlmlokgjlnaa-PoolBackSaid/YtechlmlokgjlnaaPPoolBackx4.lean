-- laid by fake.py, a program of this session's, over the kit's print
import Derived.Test.YtechlmlokgjlnaaPPoolBackx0
import Derived.Test.YtechlmlokgjlnaaPPoolBackx2
import Derived.Test.YtechlmlokgjlnaaPPoolBackx3
namespace Go.Proofs.Ytechlmlokgjlnaa.PPoolBack
open Go.RowKit Go.Proofs.YtechlmlokgjlnaaW.PrintWords Go.Proofs.YtechlmlokgjlnaaW.PrintLast Go.Proofs.YtechlmlokgjlnaaW.PrintMore
attribute [local go_sem] Go.Proofs.YtechlmlokgjlnaaW.Mine.isSome_set max2_int min2_int max_two min_two max_three min_three max_four min_four   -- for this text's walks alone
set_option linter.unusedVariables false
set_option linter.unusedSimpArgs false

/-! ### garderobelaw07_PoolBack: function 5 -/
mutual
def garderobelaw07_PoolBack.j0 : Nat → List Int → Int → Option (Bool)
  | 0, _, _ => none
  | k + 1, x1, x2 => (pool_Get.f k x1).bind fun bt173 => (if bt173.2 = 0 then ((pool_Put.f k bt173.1).bind fun bt177 => (if bt177.2 = 0 then ((garderoberef00_Same.f k bt177.1 x1).bind fun t181 => (garderobelaw07_PoolBack.j1 k x2 (!t181))) else (garderobelaw07_PoolBack.j1 k x2 true))) else ((pool_Split.f x2).bind fun bt188 => ((pool_Ref.f bt188.1 bt188.2.1 bt188.2.2).bind fun bt191 => (if bt191.1 = x2 then (if bt191.2 = 0 then ((garderobelaw07_works.f k).bind fun t193 => (some t193)) else (none)) else (none)))))
def garderobelaw07_PoolBack.j1 : Nat → Int → Bool → Option (Bool)
  | 0, _, _ => none
  | k + 1, x2, x68 => if x68 = true then (none) else ((pool_Split.f x2).bind fun bt182 => ((pool_Ref.f bt182.1 bt182.2.1 bt182.2.2).bind fun bt185 => (if bt185.1 = x2 then (if bt185.2 = 0 then ((garderobelaw07_works.f k).bind fun t187 => (some t187)) else (none)) else (none))))
end
def garderobelaw07_PoolBack.f (k : Nat) (l0 : List (S43)) (l1 : List Int) (a2 : Int) : Option (Bool) := (pool_Put.f k l0).bind fun bt164 => (if bt164.2 = 0 then ((pool_Get.f k bt164.1).bind fun bt168 => (if bt168.2 = 0 then ((garderobelaw07_same.f k l0 bt168.1).bind fun t172 => (if t172 = true then (if (bt164.1.length : Int) = (wrap64 (2 + (wrap64 (4 * (l0.length : Int))))) then (garderobelaw07_PoolBack.j0 k l1 a2) else (none)) else (none))) else (none))) else (garderobelaw07_PoolBack.j0 k l1 a2))
theorem garderobelaw07_PoolBack.mono_l : ∀ k, (∀ y0 y1, LeO (garderobelaw07_PoolBack.j0 k y0 y1) (garderobelaw07_PoolBack.j0 (k + 1) y0 y1)) ∧ (∀ y0 y1, LeO (garderobelaw07_PoolBack.j1 k y0 y1) (garderobelaw07_PoolBack.j1 (k + 1) y0 y1))
  | 0 => ⟨fun _ _ r h => by simp [garderobelaw07_PoolBack.j0] at h, fun _ _ r h => by simp [garderobelaw07_PoolBack.j1] at h⟩
  | k + 1 => by
    obtain ⟨ih0, ih1⟩ := garderobelaw07_PoolBack.mono_l k
    refine ⟨?_, ?_⟩
    · intro y0 y1
      unfold garderobelaw07_PoolBack.j0
      repeat' first
      | (with_reducible exact ih0 _ _)
      | (with_reducible exact ih1 _ _)
      | (with_reducible exact garderobelaw07_same.mono _ _ _)
      | (with_reducible exact garderobelaw07_works.mono _)
      | (with_reducible exact garderoberef00_Same.mono _ _ _)
      | (with_reducible exact pool_Get.mono _ _)
      | (with_reducible exact pool_Put.mono _ _)
      | (with_reducible exact LeO.refl _)
      | (with_reducible exact LeO.none _)
      | (with_reducible refine LeO.ite ?_ ?_)
      | (with_reducible refine LeO.bind ?_ (fun _ => ?_))
      | exact ih0 _ _
      | exact ih1 _ _
      | exact garderobelaw07_same.mono _ _ _
      | exact garderobelaw07_works.mono _
      | exact garderoberef00_Same.mono _ _ _
      | exact pool_Get.mono _ _
      | exact pool_Put.mono _ _
      | exact LeO.none _
      | refine LeO.ite ?_ ?_
      | refine LeO.bind ?_ (fun _ => ?_)
    · intro y0 y1
      unfold garderobelaw07_PoolBack.j1
      repeat' first
      | (with_reducible exact ih0 _ _)
      | (with_reducible exact ih1 _ _)
      | (with_reducible exact garderobelaw07_same.mono _ _ _)
      | (with_reducible exact garderobelaw07_works.mono _)
      | (with_reducible exact garderoberef00_Same.mono _ _ _)
      | (with_reducible exact pool_Get.mono _ _)
      | (with_reducible exact pool_Put.mono _ _)
      | (with_reducible exact LeO.refl _)
      | (with_reducible exact LeO.none _)
      | (with_reducible refine LeO.ite ?_ ?_)
      | (with_reducible refine LeO.bind ?_ (fun _ => ?_))
      | exact ih0 _ _
      | exact ih1 _ _
      | exact garderobelaw07_same.mono _ _ _
      | exact garderobelaw07_works.mono _
      | exact garderoberef00_Same.mono _ _ _
      | exact pool_Get.mono _ _
      | exact pool_Put.mono _ _
      | exact LeO.none _
      | refine LeO.ite ?_ ?_
      | refine LeO.bind ?_ (fun _ => ?_)
theorem garderobelaw07_PoolBack.mono : ∀ a0 a1 a2 k, LeO (garderobelaw07_PoolBack.f k a0 a1 a2) (garderobelaw07_PoolBack.f (k + 1) a0 a1 a2) := by
  intro a0 a1 a2 k
  obtain ⟨ih0, ih1⟩ := garderobelaw07_PoolBack.mono_l k
  unfold garderobelaw07_PoolBack.f
  repeat' first
      | (with_reducible exact ih0 _ _)
      | (with_reducible exact ih1 _ _)
      | (with_reducible exact garderobelaw07_same.mono _ _ _)
      | (with_reducible exact garderobelaw07_works.mono _)
      | (with_reducible exact garderoberef00_Same.mono _ _ _)
      | (with_reducible exact pool_Get.mono _ _)
      | (with_reducible exact pool_Put.mono _ _)
      | (with_reducible exact LeO.refl _)
      | (with_reducible exact LeO.none _)
      | (with_reducible refine LeO.ite ?_ ?_)
      | (with_reducible refine LeO.bind ?_ (fun _ => ?_))
      | exact ih0 _ _
      | exact ih1 _ _
      | exact garderobelaw07_same.mono _ _ _
      | exact garderobelaw07_works.mono _
      | exact garderoberef00_Same.mono _ _ _
      | exact pool_Get.mono _ _
      | exact pool_Put.mono _ _
      | exact LeO.none _
      | refine LeO.ite ?_ ?_
      | refine LeO.bind ?_ (fun _ => ?_)
set_option maxHeartbeats 8000000 in
set_option maxRecDepth 100000 in
theorem garderobelaw07_PoolBack.calls (k : Nat) (A0 : Option Addr) (c0 : Nat) (l0 : List (S43)) (A1 : Option Addr) (c1 : Nat) (l1 : List Int) (a2 : Int) (r : Bool) (w : World) (hr0 : Kd.C k43 w A0 l0.length l0) (hc0 : l0.length ≤ c0) (hr1 : Kd.C (Kd.int .u8) w A1 l1.length l1) (hc1 : l1.length ≤ c1) (h : garderobelaw07_PoolBack.f k l0 l1 a2 = some r) :
    Calls Try.prog 5 #[.slice A0 l0.length c0, .slice A1 l1.length c1, .int .u16 a2] w fun e w' => e = .returned (.bool r) ∧ Below w.heap.size w w' := by
  have HR0 := Aside0.mk hr0
  have HC0 := Aside0.mk hc0
  clear hr0 hc0
  have HR1 := Aside0.mk hr1
  have HC1 := Aside0.mk hc1
  clear hr1 hc1
  have HB := Aside0.mk (Below.refl w.heap.size w)
  have H : ((pool_Put.f k l0).bind fun bt164 => (if bt164.2 = 0 then ((pool_Get.f k bt164.1).bind fun bt168 => (if bt168.2 = 0 then ((garderobelaw07_same.f k l0 bt168.1).bind fun t172 => (if t172 = true then (if (bt164.1.length : Int) = (wrap64 (2 + (wrap64 (4 * (l0.length : Int))))) then (garderobelaw07_PoolBack.j0 k l1 a2) else (none)) else (none))) else (none))) else (garderobelaw07_PoolBack.j0 k l1 a2))) = some r := h
  clear h
  replace H := Option.bind_eq_some_iff.mp H
  obtain ⟨⟨t164, t165⟩, A40, H⟩ := H
  replace H : (if t165 = 0 then ((pool_Get.f k t164).bind fun bt168 => (if bt168.2 = 0 then ((garderobelaw07_same.f k l0 bt168.1).bind fun t172 => (if t172 = true then (if (t164.length : Int) = (wrap64 (2 + (wrap64 (4 * (l0.length : Int))))) then (garderobelaw07_PoolBack.j0 k l1 a2) else (none)) else (none))) else (none))) else (garderobelaw07_PoolBack.j0 k l1 a2)) = some r := H
  have A4 := Aside0.mk A40
  clear A40
  have HC5 := Aside0.mk H
  clear H
  go_enter Try.func5, Try.ntmps5
  go_upto_if 26 with (first | ((with_reducible refine gate_callee (f := 12) rfl ?_); refine goesL_ (some 22) rfl rfl Try.func12 (by kernel_rfl) rfl #[.slice A0 l0.length c0] rfl (by (try simp only [List.map_toArray, List.map_cons, List.map_nil]); first | done | rfl | (simp only [List.length_drop, List.length_take]; rfl)) ?_; (with_reducible refine (pool_Put.calls k _ _ l0 t164 t165 _ ?side1 ?side2 A4.out).mono ?_); (case side1 => repeat (first | exact HR0.out | (with_reducible refine Kd.C_alloc ?_ _) | (with_reducible refine Kd.C_drewN ?_ _) | (with_reducible refine Kd.C_drew ?_))); (case side2 => exact HC0.out); rintro e w6 ⟨v166, rfl, ho0, hb⟩; refine ⟨_, rfl, ?_⟩; have n0_ := Aside0.mk (Kd.R_lower ho0 (below_size (by repeat (first | (with_reducible first | exact HB.out | apply below_alloc | apply pw_below_drewN | apply below_drew1) | exact HB.out)))); have n1_ := Aside0.mk (below_step (by repeat (first | (with_reducible first | exact HB.out | apply below_alloc | apply pw_below_drewN | apply below_drew1) | exact HB.out)) hb); clear HB; have HO167 := n0_; have HB := n1_; clear n0_ n1_; (try clear hb); (try clear hb2); (try clear hk); (try clear hi); (try clear ho0)))
  (try simp only [Act.put, List.setIfInBounds_toArray, List.set_cons_zero, List.set_cons_succ])
  go_cut [] (fun wc => ∃ (kq : Nat), Aside0 (garderobelaw07_PoolBack.j0 kq l1 a2 = some r) ∧ Aside0 (kq ≤ k) ∧ Aside0 (Below w.heap.size w wc))
  case first =>
    have H := HC5.out
    clear HC5
    by_cases c7 : t165 = 0
    · rw [if_pos c7] at H
      have c7b0 : (t165 == 0) = true := beq_iff_eq.mpr c7
      have c7b1 : (t165 != 0) = false := bne_eq_false_iff_eq.mpr c7
      clear c7
      (first | rw [c7b0] | (simp only [i64_w, i32_w]; rw [c7b0]) | skip)
      replace H := Option.bind_eq_some_iff.mp H
      obtain ⟨⟨t168, t169⟩, A80, H⟩ := H
      replace H : (if t169 = 0 then ((garderobelaw07_same.f k l0 t168).bind fun t172 => (if t172 = true then (if (t164.length : Int) = (wrap64 (2 + (wrap64 (4 * (l0.length : Int))))) then (garderobelaw07_PoolBack.j0 k l1 a2) else (none)) else (none))) else (none)) = some r := H
      have A8 := Aside0.mk A80
      clear A80
      by_cases c9 : t169 = 0
      · rw [if_pos c9] at H
        have c9b0 : (t169 == 0) = true := beq_iff_eq.mpr c9
        have c9b1 : (t169 != 0) = false := bne_eq_false_iff_eq.mpr c9
        clear c9
        replace H := Option.bind_eq_some_iff.mp H
        obtain ⟨t172, A100, H⟩ := H
        replace H : (if t172 = true then (if (t164.length : Int) = (wrap64 (2 + (wrap64 (4 * (l0.length : Int))))) then (garderobelaw07_PoolBack.j0 k l1 a2) else (none)) else (none)) = some r := H
        have A10 := Aside0.mk A100
        clear A100
        by_cases c11 : t172 = true
        · subst c11
          have H1 : (if (t164.length : Int) = (wrap64 (2 + (wrap64 (4 * (l0.length : Int))))) then (garderobelaw07_PoolBack.j0 k l1 a2) else (none)) = some r := by rw [if_pos rfl] at H; exact H
          clear H
          have H := H1
          clear H1
          by_cases c12 : (t164.length : Int) = (wrap64 (2 + (wrap64 (4 * (l0.length : Int)))))
          · rw [if_pos c12] at H
            have c12b0 : ((t164.length : Int) == (wrap64 (2 + (wrap64 (4 * (l0.length : Int)))))) = true := beq_iff_eq.mpr c12
            have c12b1 : ((t164.length : Int) != (wrap64 (2 + (wrap64 (4 * (l0.length : Int)))))) = false := bne_eq_false_iff_eq.mpr c12
            clear c12
            have H' := Aside0.mk H
            clear H
            obtain ⟨Ao13, co13, eo13⟩ := Kd.R_slice HO167.out
            subst eo13
            go_wp2_with (first | ((with_reducible refine gate_callee (f := 15) rfl ?_); refine goesL_ (some 29) rfl rfl Try.func15 (by kernel_rfl) rfl #[.slice Ao13 t164.length co13] rfl (by (try simp only [List.map_toArray, List.map_cons, List.map_nil]); first | done | rfl | (simp only [List.length_drop, List.length_take]; rfl)) ?_; (with_reducible refine (pool_Get.calls k _ _ t164 t168 t169 _ ?side1 ?side2 A8.out).mono ?_); (case side1 => repeat (first | exact (Kd.R_reads' HO167.out).2.2 | (with_reducible refine Kd.C_alloc ?_ _) | (with_reducible refine Kd.C_drewN ?_ _) | (with_reducible refine Kd.C_drew ?_))); (case side2 => exact (Kd.R_reads' HO167.out).2.1); rintro e w14 ⟨v170, rfl, ho0, hb⟩; refine ⟨_, rfl, ?_⟩; have n0_ := Aside0.mk (Kd.R_below (by (with_reducible repeat (first | apply Kd.R_alloc | apply Kd.R_drewN | apply Kd.R_drew)); exact HO167.out) hb); have n1_ := Aside0.mk (Kd.R_lower ho0 (below_size (by repeat (first | (with_reducible first | exact HB.out | apply below_alloc | apply pw_below_drewN | apply below_drew1) | exact HB.out)))); have n2_ := Aside0.mk (below_step (by repeat (first | (with_reducible first | exact HB.out | apply below_alloc | apply pw_below_drewN | apply below_drew1) | exact HB.out)) hb); clear HO167; clear HB; have HO167 := n0_; have HO171 := n1_; have HB := n2_; clear n0_ n1_ n2_; (try clear hb); (try clear hb2); (try clear hk); (try clear hi); (try clear ho0); obtain ⟨Ao15, co15, eo15⟩ := Kd.R_slice HO171.out; subst eo15) | (go_at_call 16; (with_reducible refine (garderobelaw07_same.calls k _ _ l0 _ _ t168 true _ ?side1 ?side2 ?side3 ?side4 A10.out).mono ?_); (case side1 => repeat (first | exact (Kd.C_below HR0.out HB.out) | (with_reducible refine Kd.C_alloc ?_ _) | (with_reducible refine Kd.C_drewN ?_ _) | (with_reducible refine Kd.C_drew ?_))); (case side2 => exact HC0.out); (case side3 => repeat (first | exact (Kd.R_reads' HO171.out).2.2 | (with_reducible refine Kd.C_alloc ?_ _) | (with_reducible refine Kd.C_drewN ?_ _) | (with_reducible refine Kd.C_drew ?_))); (case side4 => exact (Kd.R_reads' HO171.out).2.1); rintro e w' ⟨rfl, ⟨nd, rfl⟩⟩))
            go_meet
            case rel => exact ⟨_, H', ⟨by first | omega | exact Nat.le_refl _⟩, ⟨by repeat (first | (with_reducible first | exact HB.out | apply below_alloc | apply pw_below_drewN | apply below_drew1) | exact HB.out)⟩⟩
          · rw [if_neg c12] at H
            exact absurd H (by simp)
        · replace c11 := Bool.eq_false_iff.mpr c11
          subst c11
          have H1 : (none) = some r := by rw [if_neg (show ¬ (false = true) by decide)] at H; exact H
          clear H
          have H := H1
          clear H1
          exact absurd H (by simp)
      · rw [if_neg c9] at H
        exact absurd H (by simp)
    · rw [if_neg c7] at H
      have c7b0 : (t165 == 0) = false := beq_eq_false_iff_ne.mpr c7
      have c7b1 : (t165 != 0) = true := bne_iff_ne.mpr c7
      (first | rw [c7b0] | (simp only [i64_w, i32_w]; rw [c7b0]) | skip)
      have H' := Aside0.mk H
      clear H
      go_wp2
      go_meet
      case rel => exact ⟨_, H', ⟨by first | omega | exact Nat.le_refl _⟩, ⟨by repeat (first | (with_reducible first | exact HB.out | apply below_alloc | apply pw_below_drewN | apply below_drew1) | exact HB.out)⟩⟩
  case rest =>
    clear HC5
    try clear c1
    try clear p2
    try clear c5
    try clear p6
    try clear c7
    try clear c7b0
    try clear c7b1
    try clear c9
    try clear c9b0
    try clear c9b1
    try clear c11
    try clear c12
    try clear c12b0
    try clear c12b1
    try clear c15
    obtain ⟨kq, HA, HJ4, HB⟩ := hcut
    cases kq with
    | zero => exact absurd HA.out (by simp [garderobelaw07_PoolBack.j0])
    | succ kj4 =>
      have H := HA.out
      clear HA
      simp only [garderobelaw07_PoolBack.j0] at H
      replace H := Option.bind_eq_some_iff.mp H
      obtain ⟨⟨t173, t174⟩, A160, H⟩ := H
      replace H : (if t174 = 0 then ((pool_Put.f kj4 t173).bind fun bt177 => (if bt177.2 = 0 then ((garderoberef00_Same.f kj4 bt177.1 l1).bind fun t181 => (garderobelaw07_PoolBack.j1 kj4 a2 (!t181))) else (garderobelaw07_PoolBack.j1 kj4 a2 true))) else ((pool_Split.f a2).bind fun bt188 => ((pool_Ref.f bt188.1 bt188.2.1 bt188.2.2).bind fun bt191 => (if bt191.1 = a2 then (if bt191.2 = 0 then ((garderobelaw07_works.f kj4).bind fun t193 => (some t193)) else (none)) else (none))))) = some r := H
      have A16 := Aside0.mk A160
      clear A160
      by_cases c17 : t174 = 0
      · rw [if_pos c17] at H
        have c17b0 : (t174 == 0) = true := beq_iff_eq.mpr c17
        have c17b1 : (t174 != 0) = false := bne_eq_false_iff_eq.mpr c17
        clear c17
        replace H := Option.bind_eq_some_iff.mp H
        obtain ⟨⟨t177, t178⟩, A180, H⟩ := H
        replace H : (if t178 = 0 then ((garderoberef00_Same.f kj4 t177 l1).bind fun t181 => (garderobelaw07_PoolBack.j1 kj4 a2 (!t181))) else (garderobelaw07_PoolBack.j1 kj4 a2 true)) = some r := H
        have A18 := Aside0.mk A180
        clear A180
        have HC19 := Aside0.mk H
        clear H
        go_upto_region 9 with (first | ((with_reducible refine gate_callee (f := 15) rfl ?_); refine goesL_ (some 51) rfl rfl Try.func15 (by kernel_rfl) rfl #[.slice A1 l1.length c1] rfl (by (try simp only [List.map_toArray, List.map_cons, List.map_nil]); first | done | rfl | (simp only [List.length_drop, List.length_take]; rfl)) ?_; (with_reducible refine (pool_Get.calls kj4 _ _ l1 t173 t174 _ ?side1 ?side2 A16.out).mono ?_); (case side1 => repeat (first | exact (Kd.C_below HR1.out HB.out) | (with_reducible refine Kd.C_alloc ?_ _) | (with_reducible refine Kd.C_drewN ?_ _) | (with_reducible refine Kd.C_drew ?_))); (case side2 => exact HC1.out); rintro e w20 ⟨v175, rfl, ho0, hb⟩; refine ⟨_, rfl, ?_⟩; have n0_ := Aside0.mk (Kd.R_lower ho0 (below_size (by repeat (first | (with_reducible first | exact HB.out | apply below_alloc | apply pw_below_drewN | apply below_drew1) | exact HB.out)))); have n1_ := Aside0.mk (below_step (by repeat (first | (with_reducible first | exact HB.out | apply below_alloc | apply pw_below_drewN | apply below_drew1) | exact HB.out)) hb); clear HB; have HO176 := n0_; have HB := n1_; clear n0_ n1_; (try clear hb); (try clear hb2); (try clear hk); (try clear hi); (try clear ho0); obtain ⟨Ao21, co21, eo21⟩ := Kd.R_slice HO176.out; subst eo21) | ((with_reducible refine gate_callee (f := 12) rfl ?_); refine goesL_ (some 58) rfl rfl Try.func12 (by kernel_rfl) rfl #[.slice Ao21 t173.length co21] rfl (by (try simp only [List.map_toArray, List.map_cons, List.map_nil]); first | done | rfl | (simp only [List.length_drop, List.length_take]; rfl)) ?_; (with_reducible refine (pool_Put.calls kj4 _ _ t173 t177 t178 _ ?side1 ?side2 A18.out).mono ?_); (case side1 => repeat (first | exact (Kd.R_reads' HO176.out).2.2 | (with_reducible refine Kd.C_alloc ?_ _) | (with_reducible refine Kd.C_drewN ?_ _) | (with_reducible refine Kd.C_drew ?_))); (case side2 => exact (Kd.R_reads' HO176.out).2.1); rintro e w22 ⟨v179, rfl, ho0, hb⟩; refine ⟨_, rfl, ?_⟩; have n0_ := Aside0.mk (Kd.R_below (by (with_reducible repeat (first | apply Kd.R_alloc | apply Kd.R_drewN | apply Kd.R_drew)); exact HO176.out) hb); have n1_ := Aside0.mk (Kd.R_lower ho0 (below_size (by repeat (first | (with_reducible first | exact HB.out | apply below_alloc | apply pw_below_drewN | apply below_drew1) | exact HB.out)))); have n2_ := Aside0.mk (below_step (by repeat (first | (with_reducible first | exact HB.out | apply below_alloc | apply pw_below_drewN | apply below_drew1) | exact HB.out)) hb); clear HO176; clear HB; have HO176 := n0_; have HO180 := n1_; have HB := n2_; clear n0_ n1_ n2_; (try clear hb); (try clear hb2); (try clear hk); (try clear hi); (try clear ho0)))
        (try simp only [Act.put, List.setIfInBounds_toArray, List.set_cons_zero, List.set_cons_succ])
        go_cut [68] (fun v68 wc => ∃ (kq : Nat) (x68_18 : Bool), v68 = .bool x68_18 ∧ Aside0 (garderobelaw07_PoolBack.j1 kq a2 x68_18 = some r) ∧ Aside0 (kq ≤ kj4) ∧ Aside0 (Below w.heap.size w wc))
        case first =>
          have H := HC19.out
          clear HC19
          by_cases c23 : t178 = 0
          · rw [if_pos c23] at H
            have c23b0 : (t178 == 0) = true := beq_iff_eq.mpr c23
            have c23b1 : (t178 != 0) = false := bne_eq_false_iff_eq.mpr c23
            clear c23
            (first | rw [c23b0] | (simp only [i64_w, i32_w]; rw [c23b0]) | skip)
            replace H := Option.bind_eq_some_iff.mp H
            obtain ⟨t181, A240, H⟩ := H
            replace H : (garderobelaw07_PoolBack.j1 kj4 a2 (!t181)) = some r := H
            have A24 := Aside0.mk A240
            clear A240
            have H' := Aside0.mk H
            clear H
            obtain ⟨Ao25, co25, eo25⟩ := Kd.R_slice HO180.out
            subst eo25
            go_wp2_with (first | (go_at_call 14; (with_reducible refine (garderoberef00_Same.calls kj4 _ _ t177 _ _ l1 t181 _ ?side1 ?side2 ?side3 ?side4 A24.out).mono ?_); (case side1 => repeat (first | exact (Kd.R_reads' HO180.out).2.2 | (with_reducible refine Kd.C_alloc ?_ _) | (with_reducible refine Kd.C_drewN ?_ _) | (with_reducible refine Kd.C_drew ?_))); (case side2 => exact (Kd.R_reads' HO180.out).2.1); (case side3 => repeat (first | exact (Kd.C_below HR1.out HB.out) | (with_reducible refine Kd.C_alloc ?_ _) | (with_reducible refine Kd.C_drewN ?_ _) | (with_reducible refine Kd.C_drew ?_))); (case side4 => exact HC1.out); rintro e w' ⟨rfl, ⟨nd, rfl⟩⟩))
            go_meet
            case rel => exact ⟨_, (!t181), (by first | rfl | (simp; done) | (simp [*]; done)), H', ⟨by have := HJ4.out; first | omega | exact Nat.le_refl _⟩, ⟨by repeat (first | (with_reducible first | exact HB.out | apply below_alloc | apply pw_below_drewN | apply below_drew1) | exact HB.out)⟩⟩
          · rw [if_neg c23] at H
            have c23b0 : (t178 == 0) = false := beq_eq_false_iff_ne.mpr c23
            have c23b1 : (t178 != 0) = true := bne_iff_ne.mpr c23
            (first | rw [c23b0] | (simp only [i64_w, i32_w]; rw [c23b0]) | skip)
            have H' := Aside0.mk H
            clear H
            go_wp2
            go_meet
            case rel => exact ⟨_, (true), (by first | rfl | (simp; done) | (simp [*]; done)), H', ⟨by have := HJ4.out; first | omega | exact Nat.le_refl _⟩, ⟨by repeat (first | (with_reducible first | exact HB.out | apply below_alloc | apply pw_below_drewN | apply below_drew1) | exact HB.out)⟩⟩
        case rest =>
          clear HC19
          try clear c1
          try clear c2
          try clear p2
          try clear c5
          try clear p6
          try clear c7
          try clear c7b0
          try clear c7b1
          try clear c9
          try clear c9b0
          try clear c9b1
          try clear c11
          try clear c12
          try clear c12b0
          try clear c12b1
          try clear c15
          try clear c17
          try clear c17b0
          try clear c17b1
          try clear c23
          try clear c23b0
          try clear c23b1
          try clear p2
          try clear p6
          obtain ⟨kq, x68_18, rfl, HA, HJ18, HB⟩ := hcut
          cases kq with
          | zero => exact absurd HA.out (by simp [garderobelaw07_PoolBack.j1])
          | succ kj18 =>
            have H := HA.out
            clear HA
            simp only [garderobelaw07_PoolBack.j1] at H
            by_cases c26 : x68_18 = true
            · subst c26
              have H1 : (none) = some r := by rw [if_pos rfl] at H; exact H
              clear H
              have H := H1
              clear H1
              exact absurd H (by simp)
            · replace c26 := Bool.eq_false_iff.mpr c26
              subst c26
              have H1 : ((pool_Split.f a2).bind fun bt182 => ((pool_Ref.f bt182.1 bt182.2.1 bt182.2.2).bind fun bt185 => (if bt185.1 = a2 then (if bt185.2 = 0 then ((garderobelaw07_works.f kj18).bind fun t187 => (some t187)) else (none)) else (none)))) = some r := by rw [if_neg (show ¬ (false = true) by decide)] at H; exact H
              clear H
              have H := H1
              clear H1
              replace H := Option.bind_eq_some_iff.mp H
              obtain ⟨⟨t182, t183, t184⟩, A270, H⟩ := H
              replace H : ((pool_Ref.f t182 t183 t184).bind fun bt185 => (if bt185.1 = a2 then (if bt185.2 = 0 then ((garderobelaw07_works.f kj18).bind fun t187 => (some t187)) else (none)) else (none))) = some r := H
              have A27 := Aside0.mk A270
              clear A270
              replace H := Option.bind_eq_some_iff.mp H
              obtain ⟨⟨t185, t186⟩, A280, H⟩ := H
              replace H : (if t185 = a2 then (if t186 = 0 then ((garderobelaw07_works.f kj18).bind fun t187 => (some t187)) else (none)) else (none)) = some r := H
              have A28 := Aside0.mk A280
              clear A280
              by_cases c29 : t185 = a2
              · rw [if_pos c29] at H
                have c29b0 : (t185 == a2) = true := beq_iff_eq.mpr c29
                have c29b1 : (t185 != a2) = false := bne_eq_false_iff_eq.mpr c29
                clear c29
                by_cases c30 : t186 = 0
                · rw [if_pos c30] at H
                  have c30b0 : (t186 == 0) = true := beq_iff_eq.mpr c30
                  have c30b1 : (t186 != 0) = false := bne_eq_false_iff_eq.mpr c30
                  clear c30
                  replace H := Option.bind_eq_some_iff.mp H
                  obtain ⟨t187, A310, H⟩ := H
                  replace H : (some t187) = some r := H
                  have A31 := Aside0.mk A310
                  clear A310
                  obtain rfl := Option.some.inj H
                  go_wp2_with (first | ((with_reducible refine gate_callee (f := 7) rfl ?_); refine goesL_ (some 71) rfl rfl Try.func7 (by kernel_rfl) rfl #[.int .u16 a2] rfl (by (try simp only [List.map_toArray, List.map_cons, List.map_nil]); first | done | rfl | (simp only [List.length_drop, List.length_take]; rfl)) ?_; (with_reducible refine (pool_Split.calls a2 t182 t183 t184 _ A27.out).mono ?_); rintro e w' ⟨rfl, ⟨nd, rfl⟩⟩; refine ⟨_, rfl, ?_⟩) | ((with_reducible refine gate_callee (f := 9) rfl ?_); refine goesL_ (some 79) rfl rfl Try.func9 (by kernel_rfl) rfl #[.bool t182, .int .i64 t183, .int .i64 t184] rfl (by (try simp only [List.map_toArray, List.map_cons, List.map_nil]); first | done | rfl | (simp only [List.length_drop, List.length_take]; rfl)) ?_; (with_reducible refine (pool_Ref.calls t182 t183 t184 t185 t186 _ A28.out).mono ?_); rintro e w' ⟨rfl, ⟨nd, rfl⟩⟩; refine ⟨_, rfl, ?_⟩) | (go_at_call 11; (with_reducible refine (garderobelaw07_works.calls kj18  t187 _ A31.out).mono ?_); rintro e w32 ⟨rfl, hb⟩; have n0_ := Aside0.mk (below_step (by repeat (first | (with_reducible first | exact HB.out | apply below_alloc | apply pw_below_drewN | apply below_drew1) | exact HB.out)) hb); clear HB; have HB := n0_; clear n0_; (try clear hb); (try clear hb2); (try clear hk); (try clear hi)))
                  go_ret
                  exact ⟨by first | rfl | (simp [errW_none, errW_some] <;> rfl) | (simp [*, errW_none, errW_some] <;> rfl), by repeat (first | (with_reducible first | exact HB.out | apply below_alloc | apply pw_below_drewN | apply below_drew1) | exact HB.out)⟩
                · rw [if_neg c30] at H
                  exact absurd H (by simp)
              · rw [if_neg c29] at H
                exact absurd H (by simp)
      · rw [if_neg c17] at H
        have c17b0 : (t174 == 0) = false := beq_eq_false_iff_ne.mpr c17
        have c17b1 : (t174 != 0) = true := bne_iff_ne.mpr c17
        replace H := Option.bind_eq_some_iff.mp H
        obtain ⟨⟨t188, t189, t190⟩, A330, H⟩ := H
        replace H : ((pool_Ref.f t188 t189 t190).bind fun bt191 => (if bt191.1 = a2 then (if bt191.2 = 0 then ((garderobelaw07_works.f kj4).bind fun t193 => (some t193)) else (none)) else (none))) = some r := H
        have A33 := Aside0.mk A330
        clear A330
        replace H := Option.bind_eq_some_iff.mp H
        obtain ⟨⟨t191, t192⟩, A340, H⟩ := H
        replace H : (if t191 = a2 then (if t192 = 0 then ((garderobelaw07_works.f kj4).bind fun t193 => (some t193)) else (none)) else (none)) = some r := H
        have A34 := Aside0.mk A340
        clear A340
        by_cases c35 : t191 = a2
        · rw [if_pos c35] at H
          have c35b0 : (t191 == a2) = true := beq_iff_eq.mpr c35
          have c35b1 : (t191 != a2) = false := bne_eq_false_iff_eq.mpr c35
          clear c35
          by_cases c36 : t192 = 0
          · rw [if_pos c36] at H
            have c36b0 : (t192 == 0) = true := beq_iff_eq.mpr c36
            have c36b1 : (t192 != 0) = false := bne_eq_false_iff_eq.mpr c36
            clear c36
            replace H := Option.bind_eq_some_iff.mp H
            obtain ⟨t193, A370, H⟩ := H
            replace H : (some t193) = some r := H
            have A37 := Aside0.mk A370
            clear A370
            obtain rfl := Option.some.inj H
            go_wp2_with (first | ((with_reducible refine gate_callee (f := 15) rfl ?_); refine goesL_ (some 51) rfl rfl Try.func15 (by kernel_rfl) rfl #[.slice A1 l1.length c1] rfl (by (try simp only [List.map_toArray, List.map_cons, List.map_nil]); first | done | rfl | (simp only [List.length_drop, List.length_take]; rfl)) ?_; (with_reducible refine (pool_Get.calls kj4 _ _ l1 t173 t174 _ ?side1 ?side2 A16.out).mono ?_); (case side1 => repeat (first | exact (Kd.C_below HR1.out HB.out) | (with_reducible refine Kd.C_alloc ?_ _) | (with_reducible refine Kd.C_drewN ?_ _) | (with_reducible refine Kd.C_drew ?_))); (case side2 => exact HC1.out); rintro e w38 ⟨v175, rfl, ho0, hb⟩; refine ⟨_, rfl, ?_⟩; have n0_ := Aside0.mk (Kd.R_lower ho0 (below_size (by repeat (first | (with_reducible first | exact HB.out | apply below_alloc | apply pw_below_drewN | apply below_drew1) | exact HB.out)))); have n1_ := Aside0.mk (below_step (by repeat (first | (with_reducible first | exact HB.out | apply below_alloc | apply pw_below_drewN | apply below_drew1) | exact HB.out)) hb); clear HB; have HO176 := n0_; have HB := n1_; clear n0_ n1_; (try clear hb); (try clear hb2); (try clear hk); (try clear hi); (try clear ho0)) | ((with_reducible refine gate_callee (f := 7) rfl ?_); refine goesL_ (some 71) rfl rfl Try.func7 (by kernel_rfl) rfl #[.int .u16 a2] rfl (by (try simp only [List.map_toArray, List.map_cons, List.map_nil]); first | done | rfl | (simp only [List.length_drop, List.length_take]; rfl)) ?_; (with_reducible refine (pool_Split.calls a2 t188 t189 t190 _ A33.out).mono ?_); rintro e w' ⟨rfl, ⟨nd, rfl⟩⟩; refine ⟨_, rfl, ?_⟩) | ((with_reducible refine gate_callee (f := 9) rfl ?_); refine goesL_ (some 79) rfl rfl Try.func9 (by kernel_rfl) rfl #[.bool t188, .int .i64 t189, .int .i64 t190] rfl (by (try simp only [List.map_toArray, List.map_cons, List.map_nil]); first | done | rfl | (simp only [List.length_drop, List.length_take]; rfl)) ?_; (with_reducible refine (pool_Ref.calls t188 t189 t190 t191 t192 _ A34.out).mono ?_); rintro e w' ⟨rfl, ⟨nd, rfl⟩⟩; refine ⟨_, rfl, ?_⟩) | (go_at_call 11; (with_reducible refine (garderobelaw07_works.calls kj4  t193 _ A37.out).mono ?_); rintro e w39 ⟨rfl, hb⟩; have n0_ := Aside0.mk (Kd.R_below (by (with_reducible repeat (first | apply Kd.R_alloc | apply Kd.R_drewN | apply Kd.R_drew)); exact HO176.out) hb); have n1_ := Aside0.mk (below_step (by repeat (first | (with_reducible first | exact HB.out | apply below_alloc | apply pw_below_drewN | apply below_drew1) | exact HB.out)) hb); clear HO176; clear HB; have HO176 := n0_; have HB := n1_; clear n0_ n1_; (try clear hb); (try clear hb2); (try clear hk); (try clear hi)))
            go_ret
            exact ⟨by first | rfl | (simp [errW_none, errW_some] <;> rfl) | (simp [*, errW_none, errW_some] <;> rfl), by repeat (first | (with_reducible first | exact HB.out | apply below_alloc | apply pw_below_drewN | apply below_drew1) | exact HB.out)⟩
          · rw [if_neg c36] at H
            exact absurd H (by simp)
        · rw [if_neg c35] at H
          exact absurd H (by simp)

end Go.Proofs.Ytechlmlokgjlnaa.PPoolBack
