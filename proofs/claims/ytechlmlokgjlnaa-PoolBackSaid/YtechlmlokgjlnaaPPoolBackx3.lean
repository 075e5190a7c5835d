-- laid by fake.py, a program of this session's, over the kit's print
import Derived.Test.YtechlmlokgjlnaaPPoolBackx0
import Derived.Test.YtechlmlokgjlnaaPPoolBackx1
import Derived.Test.YtechlmlokgjlnaaPPoolBackx2
namespace Go.Proofs.Ytechlmlokgjlnaa.PPoolBack
open Go.RowKit Go.Proofs.YtechlmlokgjlnaaW.PrintWords Go.Proofs.YtechlmlokgjlnaaW.PrintLast Go.Proofs.YtechlmlokgjlnaaW.PrintMore
attribute [local go_sem] Go.Proofs.YtechlmlokgjlnaaW.Mine.isSome_set max2_int min2_int max_two min_two max_three min_three max_four min_four   -- for this text's walks alone
set_option linter.unusedVariables false
set_option linter.unusedSimpArgs false

attribute [local go_sem high] eqA43
/-! ### ends_Put: function 19 -/
mutual
def ends_Put.j0 : Nat → Int → Int → Bool → Option (List Int × Int)
  | 0, _, _, _ => none
  | k + 1, x0, x1, x22 => if x22 = true then (some (([] : List Int), 2)) else (if 0 ≤ x1 then (if (x1 : Int).toNat ≤ 281474976710656 then (ends_Put.l0 k x0 (List.replicate (x1 : Int).toNat 0) (wrap64 (x1 - 1))) else (none)) else (none))
def ends_Put.l0 : Nat → Int → List Int → Int → Option (List Int × Int)
  | 0, _, _, _ => none
  | k + 1, x0, x6, x7 => if x7 ≥ 0 then (if 0 ≤ x7 then (if x7 < (x6.length : Int) then (ends_Put.l0 k (x0 / 256) (x6.set (x7 : Int).toNat ((x0) % 256)) (wrap64 (x7 - 1))) else (none)) else (none)) else (some (x6, 0))
end
def ends_Put.f (k : Nat) (a0 : Int) (a1 : Int) : Option (List Int × Int) := (ends_may.f a1).bind fun t147 => (if t147 = true then (if a1 < 4 then (if 0 ≤ (IntKind.u64.wrap (8 * (IntKind.u64.wrap (a1)))) then (ends_Put.j0 k a0 a1 ((shr .u32 a0 (IntKind.u64.wrap (8 * (IntKind.u64.wrap (a1))))) != 0)) else (none)) else (ends_Put.j0 k a0 a1 false)) else (ends_Put.j0 k a0 a1 true))
theorem ends_Put.mono_l : ∀ k, (∀ y0 y1 y2, LeO (ends_Put.j0 k y0 y1 y2) (ends_Put.j0 (k + 1) y0 y1 y2)) ∧ (∀ y0 y1 y2, LeO (ends_Put.l0 k y0 y1 y2) (ends_Put.l0 (k + 1) y0 y1 y2))
  | 0 => ⟨fun _ _ _ r h => by simp [ends_Put.j0] at h, fun _ _ _ r h => by simp [ends_Put.l0] at h⟩
  | k + 1 => by
    obtain ⟨ih0, ih1⟩ := ends_Put.mono_l k
    refine ⟨?_, ?_⟩
    · intro y0 y1 y2
      unfold ends_Put.j0
      repeat' first
      | (with_reducible exact ih0 _ _ _)
      | (with_reducible exact ih1 _ _ _)
      | (with_reducible exact LeO.refl _)
      | (with_reducible exact LeO.none _)
      | (with_reducible refine LeO.ite ?_ ?_)
      | (with_reducible refine LeO.bind ?_ (fun _ => ?_))
      | exact ih0 _ _ _
      | exact ih1 _ _ _
      | exact LeO.none _
      | refine LeO.ite ?_ ?_
      | refine LeO.bind ?_ (fun _ => ?_)
    · intro y0 y1 y2
      unfold ends_Put.l0
      repeat' first
      | (with_reducible exact ih0 _ _ _)
      | (with_reducible exact ih1 _ _ _)
      | (with_reducible exact LeO.refl _)
      | (with_reducible exact LeO.none _)
      | (with_reducible refine LeO.ite ?_ ?_)
      | (with_reducible refine LeO.bind ?_ (fun _ => ?_))
      | exact ih0 _ _ _
      | exact ih1 _ _ _
      | exact LeO.none _
      | refine LeO.ite ?_ ?_
      | refine LeO.bind ?_ (fun _ => ?_)
theorem ends_Put.mono : ∀ a0 a1 k, LeO (ends_Put.f k a0 a1) (ends_Put.f (k + 1) a0 a1) := by
  intro a0 a1 k
  obtain ⟨ih0, ih1⟩ := ends_Put.mono_l k
  unfold ends_Put.f
  repeat' first
      | (with_reducible exact ih0 _ _ _)
      | (with_reducible exact ih1 _ _ _)
      | (with_reducible exact LeO.refl _)
      | (with_reducible exact LeO.none _)
      | (with_reducible refine LeO.ite ?_ ?_)
      | (with_reducible refine LeO.bind ?_ (fun _ => ?_))
      | exact ih0 _ _ _
      | exact ih1 _ _ _
      | exact LeO.none _
      | refine LeO.ite ?_ ?_
      | refine LeO.bind ?_ (fun _ => ?_)
set_option maxHeartbeats 8000000 in
set_option maxRecDepth 100000 in
theorem ends_Put.calls (k : Nat) (a0 : Int) (a1 : Int) (r1 : List Int) (r2 : Int) (w : World) (h : ends_Put.f k a0 a1 = some (r1, r2)) :
    Calls Try.prog 19 #[.int .u32 a0, .int .i64 a1] w fun e w' => ∃ v0_ : Value, e = .returned (.tuple #[v0_, .int .i64 r2]) ∧ Kd.R (Kd.int .u8) 5 w' w.heap.size (fun _ => True) v0_ r1 ∧ Below w.heap.size w w' := by
  have HB := Aside0.mk (Below.refl w.heap.size w)
  have H : ((ends_may.f a1).bind fun t147 => (if t147 = true then (if a1 < 4 then (if 0 ≤ (IntKind.u64.wrap (8 * (IntKind.u64.wrap (a1)))) then (ends_Put.j0 k a0 a1 ((shr .u32 a0 (IntKind.u64.wrap (8 * (IntKind.u64.wrap (a1))))) != 0)) else (none)) else (ends_Put.j0 k a0 a1 false)) else (ends_Put.j0 k a0 a1 true))) = some (r1, r2) := h
  clear h
  have HC3 := Aside0.mk H
  clear H
  go_enter Try.func19, Try.ntmps19
  go_upto_region 1 with (fail)
  go_cut [22] (fun v22 wc => ∃ (kq : Nat) (x22_2 : Bool), v22 = .bool x22_2 ∧ Aside0 (ends_Put.j0 kq a0 a1 x22_2 = some (r1, r2)) ∧ Aside0 (kq ≤ k) ∧ Aside0 (Below w.heap.size w wc))
  case first =>
    have H := HC3.out
    clear HC3
    replace H := Option.bind_eq_some_iff.mp H
    obtain ⟨t147, A40, H⟩ := H
    replace H : (if t147 = true then (if a1 < 4 then (if 0 ≤ (IntKind.u64.wrap (8 * (IntKind.u64.wrap (a1)))) then (ends_Put.j0 k a0 a1 ((shr .u32 a0 (IntKind.u64.wrap (8 * (IntKind.u64.wrap (a1))))) != 0)) else (none)) else (ends_Put.j0 k a0 a1 false)) else (ends_Put.j0 k a0 a1 true)) = some (r1, r2) := H
    have A4 := Aside0.mk A40
    clear A40
    by_cases c5 : t147 = true
    · subst c5
      have H1 : (if a1 < 4 then (if 0 ≤ (IntKind.u64.wrap (8 * (IntKind.u64.wrap (a1)))) then (ends_Put.j0 k a0 a1 ((shr .u32 a0 (IntKind.u64.wrap (8 * (IntKind.u64.wrap (a1))))) != 0)) else (none)) else (ends_Put.j0 k a0 a1 false)) = some (r1, r2) := by rw [if_pos rfl] at H; exact H
      clear H
      have H := H1
      clear H1
      by_cases c6 : a1 < 4
      · rw [if_pos c6] at H
        have c6b0 : decide (a1 < 4) = true := decide_eq_true c6
        clear c6
        (first | rw [c6b0] | (simp only [i64_w, i32_w]; rw [c6b0]) | skip)
        obtain ⟨ji7, hji7⟩ : ∃ j_ : Int, (IntKind.u64.wrap (8 * (IntKind.u64.wrap (a1)))) = j_ := ⟨_, rfl⟩
        replace H : (if 0 ≤ (ji7) then (ends_Put.j0 k a0 a1 ((shr .u32 a0 (ji7)) != 0)) else (none)) = some (r1, r2) := by first | (rw [hji7] at H; exact H) | (simp only [hji7] at H ⊢; exact H)
        (try rw [hji7] at A4)
        by_cases c8 : 0 ≤ (ji7)
        · rw [if_pos c8] at H
          have c8b0 := eq_true c8
          have c8b1 : decide (0 ≤ (ji7)) = true := decide_eq_true c8
          clear c8
          obtain ⟨ji9, hji9⟩ : ∃ j_ : Int, (shr .u32 a0 (ji7)) = j_ := ⟨_, rfl⟩
          replace H : (ends_Put.j0 k a0 a1 ((ji9) != 0)) = some (r1, r2) := by first | (rw [hji9] at H; exact H) | (simp only [hji9] at H ⊢; exact H)
          (try rw [hji9] at A4)
          have hji9_ : (a0 / 2 ^ min (ji7).toNat 32) = ji9 := hji9
          have hji9z : (ji7) ≤ 32 → (a0 / 2 ^ (ji7).toNat) = ji9 := shr_small hji9
          have H' := Aside0.mk H
          clear H
          go_wp2_with (first | ((with_reducible refine gate_callee (f := 25) rfl ?_); refine goesL_ (some 9) rfl rfl Try.func25 (by kernel_rfl) rfl #[.int .i64 a1] rfl (by (try simp only [List.map_toArray, List.map_cons, List.map_nil]); first | done | rfl | (simp only [List.length_drop, List.length_take]; rfl)) ?_; (with_reducible refine (ends_may.calls a1 true _ A4.out).mono ?_); rintro e w' ⟨rfl, ⟨nd, rfl⟩⟩; refine ⟨_, rfl, ?_⟩))
          go_meet
          case rel => exact ⟨_, (((ji9) != 0)), (by first | rfl | (simp; done) | (simp only [← hji9] <;> (first | rfl | simp)) | (simp [*]; done)), H', ⟨by first | omega | exact Nat.le_refl _⟩, ⟨by repeat (first | (with_reducible first | exact HB.out | apply below_alloc | apply pw_below_drewN | apply below_drew1) | exact HB.out)⟩⟩
        · rw [if_neg c8] at H
          exact absurd H (by simp)
      · rw [if_neg c6] at H
        have c6b0 : decide (a1 < 4) = false := decide_eq_false c6
        clear c6
        (first | rw [c6b0] | (simp only [i64_w, i32_w]; rw [c6b0]) | skip)
        have H' := Aside0.mk H
        clear H
        go_wp2_with (first | ((with_reducible refine gate_callee (f := 25) rfl ?_); refine goesL_ (some 9) rfl rfl Try.func25 (by kernel_rfl) rfl #[.int .i64 a1] rfl (by (try simp only [List.map_toArray, List.map_cons, List.map_nil]); first | done | rfl | (simp only [List.length_drop, List.length_take]; rfl)) ?_; (with_reducible refine (ends_may.calls a1 true _ A4.out).mono ?_); rintro e w' ⟨rfl, ⟨nd, rfl⟩⟩; refine ⟨_, rfl, ?_⟩))
        go_meet
        case rel => exact ⟨_, (false), (by first | rfl | (simp; done) | (simp [*]; done)), H', ⟨by first | omega | exact Nat.le_refl _⟩, ⟨by repeat (first | (with_reducible first | exact HB.out | apply below_alloc | apply pw_below_drewN | apply below_drew1) | exact HB.out)⟩⟩
    · replace c5 := Bool.eq_false_iff.mpr c5
      subst c5
      have H1 : (ends_Put.j0 k a0 a1 true) = some (r1, r2) := by rw [if_neg (show ¬ (false = true) by decide)] at H; exact H
      clear H
      have H := H1
      clear H1
      have H' := Aside0.mk H
      clear H
      go_wp2_with (first | ((with_reducible refine gate_callee (f := 25) rfl ?_); refine goesL_ (some 9) rfl rfl Try.func25 (by kernel_rfl) rfl #[.int .i64 a1] rfl (by (try simp only [List.map_toArray, List.map_cons, List.map_nil]); first | done | rfl | (simp only [List.length_drop, List.length_take]; rfl)) ?_; (with_reducible refine (ends_may.calls a1 false _ A4.out).mono ?_); rintro e w' ⟨rfl, ⟨nd, rfl⟩⟩; refine ⟨_, rfl, ?_⟩))
      go_meet
      case rel => exact ⟨_, (true), (by first | rfl | (simp; done) | (simp [*]; done)), H', ⟨by first | omega | exact Nat.le_refl _⟩, ⟨by repeat (first | (with_reducible first | exact HB.out | apply below_alloc | apply pw_below_drewN | apply below_drew1) | exact HB.out)⟩⟩
  case rest =>
    clear HC3
    try clear c1
    try clear c2
    try clear p2
    try clear c5
    try clear c6
    try clear c6b0
    try clear c8
    try clear c8b0
    try clear c8b1
    obtain ⟨kq, x22_2, rfl, HA, HJ2, HB⟩ := hcut
    cases kq with
    | zero => exact absurd HA.out (by simp [ends_Put.j0])
    | succ kj2 =>
      have H := HA.out
      clear HA
      simp only [ends_Put.j0] at H
      by_cases c10 : x22_2 = true
      · subst c10
        have H1 : (some (([] : List Int), 2)) = some (r1, r2) := by rw [if_pos rfl] at H; exact H
        clear H
        have H := H1
        clear H1
        simp only [Option.some.injEq, Prod.mk.injEq] at H
        obtain ⟨rfl, rfl⟩ := H
        go_wp2
        go_ret2
        exact ⟨_, by first | rfl | (simp [errW_none, errW_some] <;> rfl) | (simp [*, errW_none, errW_some] <;> rfl), by first | exact Kd.R_nil _ _ _ _ _ | exact Kd.N_nil _ _ _ _ _ | exact Kd.V_nil _ _ _ _ _ | exact Kd.Q_nil _ _ _ _ _ | exact Kd.S_nil _ _ _ _ _, by repeat (first | (with_reducible first | exact HB.out | apply below_alloc | apply pw_below_drewN | apply below_drew1) | exact HB.out)⟩
      · replace c10 := Bool.eq_false_iff.mpr c10
        subst c10
        have H1 : (if 0 ≤ a1 then (if (a1 : Int).toNat ≤ 281474976710656 then (ends_Put.l0 kj2 a0 (List.replicate (a1 : Int).toNat 0) (wrap64 (a1 - 1))) else (none)) else (none)) = some (r1, r2) := by rw [if_neg (show ¬ (false = true) by decide)] at H; exact H
        clear H
        have H := H1
        clear H1
        by_cases c11 : 0 ≤ a1
        · rw [if_pos c11] at H
          have c11b0 := eq_true c11
          have c11b1 : decide (0 ≤ a1) = true := decide_eq_true c11
          clear c11
          by_cases c12 : (a1 : Int).toNat ≤ 281474976710656
          · rw [if_pos c12] at H
            have c12b0 := eq_true c12
            have c12b1 : decide ((a1 : Int).toNat ≤ 281474976710656) = true := decide_eq_true c12
            clear c12
            obtain ⟨y148, hy148⟩ : ∃ y_ : List Int, y_ = (List.replicate (a1 : Int).toNat 0) := ⟨_, rfl⟩
            replace H : (ends_Put.l0 kj2 a0 y148 (wrap64 (a1 - 1))) = some (r1, r2) := by first | (rw [hy148]; with_reducible exact H) | (have H2_ := (Option.bind_some _ _).symm.trans H; rw [hy148]; with_reducible exact H2_) | (have H2_ := (Option.bind_some _ _).symm.trans H; with_reducible exact H2_) | with_reducible exact H | (rw [hy148]; exact H) | exact H
            have Ny148 := Aside0.mk hy148
            clear hy148
            have H' := Aside0.mk H
            clear H
            go_wp2_with (first | ((with_reducible refine gate_dst (N := 24) rfl ?_); refine Kd.R_make (Kd.int .u8) _ 5 rfl (N := 24) rfl 31 _ _ rfl a1 rfl rfl Try.underlying31 (.int .u8 0) 1 info5 rfl (by decide) (by omega) 0 (ok := fun _ => True) (okp := fun _ => True) rfl (fun _ hk => hk) trivial (of_decide_eq_true (by first | (with_reducible assumption) | assumption)) (Nat.le_trans (Nat.mul_le_mul_right _ (of_decide_eq_true (by first | (with_reducible assumption) | assumption) : a1.toNat ≤ 281474976710656)) (by omega)) (Below.refl _ _) (Nat.le_refl _) ?_; intro v149 w13 ho14 hb hg_ hnew_; clear hg_ hnew_; (first | rw [← Ny148.out] at ho14 | (simp only [Int.reduceToNat] at ho14; rw [← Ny148.out] at ho14)); have n0_ := Aside0.mk (Kd.R_lower ho14 (below_size (by repeat (first | (with_reducible first | exact HB.out | apply below_alloc | apply pw_below_drewN | apply below_drew1) | exact HB.out)))); have n1_ := Aside0.mk (below_step (by repeat (first | (with_reducible first | exact HB.out | apply below_alloc | apply pw_below_drewN | apply below_drew1) | exact HB.out)) hb); clear HB; have HO150 := n0_; have HB := n1_; clear n0_ n1_; clear hb ho14))
            go_loopg [0, 7] kj2 (fun kq v0 v7 w' => ∃ (x0_2 : Int) (x6_2 : List Int) (x7_2 : Int), v0 = .int .u32 x0_2 ∧ v7 = .int .i64 x7_2 ∧ Aside0 (ends_Put.l0 kq x0_2 x6_2 x7_2 = some (r1, r2)) ∧ Aside0 (kq ≤ kj2) ∧ Aside0 (Kd.R (Kd.int .u8) 5 w' w.heap.size (fun _ => True) v149 x6_2) ∧ Aside0 (Below w.heap.size w w'))
            case atStart => exact ⟨(a0), (y148), (wrap64 (a1 - 1)), (by first | rfl | (simp; done) | (simp [*]; done)), (by first | rfl | (simp; done) | (simp [*]; done)), H', ⟨Nat.le_refl _⟩, ⟨by (with_reducible repeat (first | apply Kd.R_alloc | apply Kd.R_drewN | apply Kd.R_drew)); exact HO150.out⟩, ⟨by repeat (first | (with_reducible first | exact HB.out | apply below_alloc | apply pw_below_drewN | apply below_drew1) | exact HB.out)⟩⟩
            case round =>
              clear H'
              try clear c1
              try clear c2
              try clear p2
              try clear c5
              try clear c6
              try clear c6b0
              try clear p6
              try clear c8
              try clear c8b0
              try clear c8b1
              try clear c10
              try clear c11
              try clear c11b0
              try clear c11b1
              try clear c12
              try clear c12b0
              try clear c12b1
              try clear p2
              obtain ⟨x0_2, x6_2, x7_2, rfl, rfl, HA, HK2, HO_6, HB⟩ := hrel
              cases gk with
              | zero => exact absurd HA.out (by simp [ends_Put.l0])
              | succ k2 =>
                have H := HA.out
                clear HA
                simp only [ends_Put.l0] at H
                by_cases c15 : x7_2 ≥ 0
                · rw [if_pos c15] at H
                  have c15b0 : decide (0 ≤ x7_2) = true := decide_eq_true c15
                  clear c15
                  by_cases c16 : 0 ≤ x7_2
                  · rw [if_pos c16] at H
                    have c16b0 : decide (0 ≤ x7_2) = true := decide_eq_true c16
                    clear c16
                    by_cases c17 : x7_2 < (x6_2.length : Int)
                    · rw [if_pos c17] at H
                      have c17b0 : decide (x7_2 < (x6_2.length : Int)) = true := decide_eq_true c17
                      clear c17
                      obtain ⟨y151, hy151⟩ : ∃ y_ : List Int, y_ = (x6_2.set (x7_2 : Int).toNat ((x0_2) % 256)) := ⟨_, rfl⟩
                      replace H : (ends_Put.l0 k2 (x0_2 / 256) y151 (wrap64 (x7_2 - 1))) = some (r1, r2) := by first | (rw [hy151]; with_reducible exact H) | (have H2_ := (Option.bind_some _ _).symm.trans H; rw [hy151]; with_reducible exact H2_) | (have H2_ := (Option.bind_some _ _).symm.trans H; with_reducible exact H2_) | with_reducible exact H | (rw [hy151]; exact H) | exact H
                      have Ny151 := Aside0.mk hy151
                      clear hy151
                      have H' := Aside0.mk H
                      clear H
                      have p18 : 0 ≤ (x7_2 : Int) := of_decide_eq_true (by first | (with_reducible assumption) | assumption)
                      have q18 : (x7_2 : Int) < ((x6_2.length : Int) : Int) := of_decide_eq_true (by first | (with_reducible assumption) | assumption)
                      obtain ⟨go18, co18, eo18, gb18, gl18, cl18, HG18⟩ := Kd.R_form HO_6.out (by omega)
                      (first | cases eo18 | (injection eo18 with ea_ en_ ec_; (first | subst ea_ | (injection ea_ with ea_; subst ea_)); subst ec_; clear en_))
                      have GB18 := Aside0.mk gb18
                      have GG18 := Aside0.mk HG18
                      clear gb18 gl18 HG18
                      obtain ⟨hx18_0, hf18_0⟩ := Kd.R_celln 0 HO_6.out (x7_2 : Int) p18 q18
                      replace p18 := eq_true p18
                      replace q18 := eq_true q18
                      have HP19 := Kd.R_putg HO_6.out (x7_2 : Int) ((x0_2) % 256)
                      go_wp2_with (first | ((with_reducible refine gate_store (t := 5) (p := 35) rfl ?_); refine store_event (t := 5) (p := 35) (v := ?vo_w20) (w1 := (wr.setCell ⟨go18, (x7_2 : Int).toNat, none⟩ (.int .u8 ((x0_2) % 256)))) ?hg ?ho ?hn ?hr ?_; (case ho => rfl); (case hg => rfl); (case hn => rfl); (case hr => first | (go_simp; done) | (go_simp; rfl)); intro w20 hw; have hg : wr.grownBy w20 (some go18) := (by rw [hw]; exact HP19.2); have hp_ : Kd.R (Kd.int .u8) 5 w20 w.heap.size (fun _ => True) (.slice (some ⟨go18, 0, none⟩) x6_2.length co18) y151 := (by rw [hw, Ny151.out]; exact HP19.1); clear HP19; have n0_ := Aside0.mk (hp_); have n1_ := Aside0.mk ((by rw [hw]; exact below_set (HB.out) GB18.out : Below w.heap.size w w20)); clear HO_6; clear HB; have HO_6 := n0_; have HB := n1_; clear n0_ n1_; clear hg hw hp_))
                      go_roundg k2
                      case measure => have := HJ2.out; have := HK2.out; omega
                      case rel => exact ⟨(x0_2 / 256), (y151), (wrap64 (x7_2 - 1)), (by first | rfl | (simp; done) | (simp [*]; done)), (by first | rfl | (simp; done) | (simp [*]; done)), H', ⟨by have := HJ2.out; have := HK2.out; omega⟩, ⟨by (with_reducible repeat (first | apply Kd.R_alloc | apply Kd.R_drewN | apply Kd.R_drew)); exact HO_6.out⟩, ⟨by repeat (first | (with_reducible first | exact HB.out | apply below_alloc | apply pw_below_drewN | apply below_drew1) | exact HB.out)⟩⟩
                    · rw [if_neg c17] at H
                      exact absurd H (by simp)
                  · rw [if_neg c16] at H
                    exact absurd H (by simp)
                · rw [if_neg c15] at H
                  have c15b0 : decide (0 ≤ x7_2) = false := decide_eq_false c15
                  clear c15
                  simp only [Option.some.injEq, Prod.mk.injEq] at H
                  obtain ⟨rfl, rfl⟩ := H
                  go_wp2
                  go_ret2
                  exact ⟨_, by first | rfl | (simp [errW_none, errW_some] <;> rfl) | (simp [*, errW_none, errW_some] <;> rfl), by (with_reducible repeat (first | apply Kd.R_alloc | apply Kd.R_drewN | apply Kd.R_drew)); exact HO_6.out, by repeat (first | (with_reducible first | exact HB.out | apply below_alloc | apply pw_below_drewN | apply below_drew1) | exact HB.out)⟩
          · rw [if_neg c12] at H
            exact absurd H (by simp)
        · rw [if_neg c11] at H
          exact absurd H (by simp)

/-! ### pool_Put: function 12 -/
def pool_same (d e : S43) : Bool := d.f0 == e.f0 && d.f1 == e.f1 && d.f2 == e.f2 && d.f3 == e.f3 && d.f4 == e.f4 && d.f5 == e.f5 && d.f6 == e.f6
def pool_Put.all : List (S43) → List Int → List Int × Int
  | [], acc => (acc, 0)
  | e :: r, acc => if (pool_dec (pool_enc e).1 (pool_enc e).2.1 (pool_enc e).2.2.1 (pool_enc e).2.2.2).2 = true ∧ pool_same (pool_dec (pool_enc e).1 (pool_enc e).2.1 (pool_enc e).2.2.1 (pool_enc e).2.2.2).1 e = true then pool_Put.all r (acc ++ [(pool_enc e).1, (pool_enc e).2.1, (pool_enc e).2.2.1, (pool_enc e).2.2.2]) else ([], 2)
def pool_Put.f (_k : Nat) (l0 : List (S43)) : Option (List Int × Int) := if l0.length ≤ 14073748835532 then (if (pool_Put.all l0 []).2 = 0 then (if l0.length > 255 then some ([], 3) else (ends_Put.f 20 ((l0.length : Int) % 4294967296) 2).bind fun t => if t.1.length ≤ 8 then some (t.1 ++ (pool_Put.all l0 []).1, 0) else none) else some ([], (pool_Put.all l0 []).2)) else none
theorem pool_Put.mono : ∀ a0 k, LeO (pool_Put.f k a0) (pool_Put.f (k + 1) a0) := by
  intro a0 k
  unfold pool_Put.f
  repeat' first
      | (with_reducible exact ends_Put.mono _ _ _)
      | (with_reducible exact pool_laid.mono _ _)
      | (with_reducible exact LeO.refl _)
      | (with_reducible exact LeO.none _)
      | (with_reducible refine LeO.ite ?_ ?_)
      | (with_reducible refine LeO.bind ?_ (fun _ => ?_))
      | exact ends_Put.mono _ _ _
      | exact pool_laid.mono _ _
      | exact LeO.none _
      | refine LeO.ite ?_ ?_
      | refine LeO.bind ?_ (fun _ => ?_)
set_option maxHeartbeats 8000000 in
set_option maxRecDepth 100000 in
theorem pool_Put.calls (k : Nat) (A0 : Option Addr) (c0 : Nat) (l0 : List (S43)) (r1 : List Int) (r2 : Int) (w : World) (hr0 : Kd.C k43 w A0 l0.length l0) (hc0 : l0.length ≤ c0) (h : pool_Put.f k l0 = some (r1, r2)) :
    Calls Try.prog 12 #[.slice A0 l0.length c0] w fun e w' => ∃ v0_ : Value, e = .returned (.tuple #[v0_, .int .i64 r2]) ∧ Kd.R (Kd.int .u8) 5 w' w.heap.size (fun _ => True) v0_ r1 ∧ Below w.heap.size w w' := by
  have HR0 := Aside0.mk hr0
  have HC0 := Aside0.mk hc0
  clear hr0 hc0
  have HB := Aside0.mk (Below.refl w.heap.size w)
  have hu44 := Try.underlying44
  have hu43 := Try.underlying43
  have hu30 := Try.underlying30
  unfold pool_Put.f at h
  by_cases hlen : l0.length ≤ 14073748835532
  · rw [if_pos hlen] at h
    have HL := Aside0.mk hlen
    clear hlen
    obtain ⟨R, hR⟩ : ∃ R_ : List Int × Int, R_ = pool_Put.all l0 [] := ⟨_, rfl⟩
    rw [← hR] at h
    have HRR := Aside0.mk hR
    have H0 := Aside0.mk h
    clear h hR
    go_enter Try.func12, Try.ntmps12
    go_wp2
    go_loopg [4, 14] l0.length (fun kq v4 v14 w' => ∃ (acc : List Int) (x14 : Int), v14 = .int .i64 x14 ∧ Aside0 (0 ≤ x14 ∧ (kq : Int) + x14 = l0.length ∧ (acc.length : Int) = 4 * x14) ∧ Aside0 (pool_Put.all (l0.drop x14.toNat) acc = R) ∧ Aside0 (Kd.R (Kd.int .u8) 5 w' w.heap.size (fun _ => True) v4 acc) ∧ Aside0 (Below w.heap.size w w'))
    case atStart => exact ⟨[], 0, rfl, ⟨by simp⟩, ⟨HRR.out.symm⟩, ⟨Kd.R_nil _ _ _ _ _⟩, ⟨by repeat (first | (with_reducible first | exact HB.out | apply below_alloc | apply pw_below_drewN | apply below_drew1) | exact HB.out)⟩⟩
    case round =>
      clear HB
      obtain ⟨acc, x14, rfl, HN, HA, HO4, HB⟩ := hrel
      by_cases c4 : x14 < (l0.length : Int)
      · have c4b0 : decide (x14 < (l0.length : Int)) = true := decide_eq_true c4
        have p4 : 0 ≤ x14 := HN.out.1
        obtain ⟨ad, e0_, hx0, hx1, hx2, hx3, hx4, hx5, hx6⟩ := at_T43 (Kd.C_below HR0.out HB.out) x14 p4 c4
        cases e0_
        have C4 := Aside0.mk c4
        have q4 := eq_true c4
        replace p4 := eq_true p4
        clear c4
        cases gk with
        | zero => exact absurd HN.out (by have := C4.out; omega)
        | succ k1 =>
        have hd_ : l0.drop x14.toNat = (rd_T43 l0 x14) :: l0.drop (x14.toNat + 1) := by
          have h1_ := C4.out
          have h2_ := HN.out
          rw [List.drop_eq_getElem_cons (by omega)]
          congr 1
          simp only [rd_T43]
          rw [List.getD_eq_getElem?_getD, List.getElem?_eq_getElem (by omega), Option.getD_some]
        have h := HA.out
        rw [hd_] at h
        unfold pool_Put.all at h
        clear HA hd_
        obtain ⟨e_, he_⟩ : ∃ s_ : S43, s_ = (rd_T43 l0 x14) := ⟨_, rfl⟩
        rw [← he_] at h hx0 hx1 hx2 hx3 hx4 hx5 hx6
        clear he_
        obtain ⟨⟨b0, b1, b2, b3⟩, hb_⟩ : ∃ q_ : Int × Int × Int × Int, q_ = pool_enc e_ := ⟨_, rfl⟩
        rw [← hb_] at h
        obtain ⟨⟨d_, db⟩, hd_⟩ : ∃ q_ : S43 × Bool, q_ = pool_dec b0 b1 b2 b3 := ⟨_, rfl⟩
        simp only [← hd_] at h
        have HBB := Aside0.mk hb_
        have HDD := Aside0.mk hd_
        have H' := Aside0.mk h
        have hw_ : wrap64 (x14 + 1) = x14 + 1 := by
          have := HL.out
          have := HN.out
          unfold wrap64
          omega
        have HWW := Aside0.mk hw_
        clear h hb_ hd_ hw_
        go_upto_region 5 with (fail)
        obtain ⟨w5, hw5⟩ : ∃ w_ : World, w_ = wr.alloc (.cells #[.int .u8 e_.f0, .int .u16 e_.f1, .int .u8 e_.f2, .bool e_.f3, .int .u16 e_.f4, .int .u8 e_.f5, .int .u8 e_.f6] 43) := ⟨_, rfl⟩
        obtain ⟨g6, hg6⟩ : ∃ g_ : Nat, g_ = wr.heap.size := ⟨_, rfl⟩
        rw [← hw5, ← hg6]
        have B6 := Aside0.mk (show w5.heap[g6]? = some (.cells #[.int .u8 e_.f0, .int .u16 e_.f1, .int .u8 e_.f2, .bool e_.f3, .int .u16 e_.f4, .int .u8 e_.f5, .int .u8 e_.f6] 43 (0, 0)) by rw [hw5, hg6]; exact blk_new _ _)
        have n0_ := Aside0.mk (show Kd.R (Kd.int .u8) 5 w5 w.heap.size (fun _ => True) _ acc by rw [hw5]; exact Kd.R_alloc HO4.out _)
        have n1_ := Aside0.mk (show Below w.heap.size w w5 by rw [hw5]; exact below_alloc HB.out _)
        clear HO4 HB hw5 hg6 hx0 hx1 hx2 hx3 hx4 hx5 hx6 p4 q4
        have HO4 := n0_
        have HB := n1_
        clear n0_ n1_
        have a0 : w5.cell? ⟨g6, 0, none⟩ = some (.int .u8 e_.f0) := (blk_cell B6.out 0).trans rfl
        have a1 : w5.cell? ⟨g6, 1, none⟩ = some (.int .u16 e_.f1) := (blk_cell B6.out 1).trans rfl
        have a2 : w5.cell? ⟨g6, 2, none⟩ = some (.int .u8 e_.f2) := (blk_cell B6.out 2).trans rfl
        have a3 : w5.cell? ⟨g6, 3, none⟩ = some (.bool e_.f3) := (blk_cell B6.out 3).trans rfl
        have a4 : w5.cell? ⟨g6, 4, none⟩ = some (.int .u16 e_.f4) := (blk_cell B6.out 4).trans rfl
        have a5 : w5.cell? ⟨g6, 5, none⟩ = some (.int .u8 e_.f5) := (blk_cell B6.out 5).trans rfl
        have a6 : w5.cell? ⟨g6, 6, none⟩ = some (.int .u8 e_.f6) := (blk_cell B6.out 6).trans rfl
        go_upto_region 6 with (first | (go_at_call 17; (with_reducible refine (pool_bytes.calls e_ _).mono ?_); rintro e w6 ⟨rfl, hb⟩; rw [← HBB.out]; have n0_ := Aside0.mk (Kd.R_below HO4.out hb); have n2_ := Aside0.mk (blk_below B6.out hb); have n1_ := Aside0.mk (below_step (by repeat (first | (with_reducible first | exact HB.out | apply below_alloc | apply pw_below_drewN | apply below_drew1) | exact HB.out)) hb); clear HB; have HB := n1_; clear n1_; clear HO4 B6 a0 a1 a2 a3 a4 a5 a6; have HO4 := n0_; have B6 := n2_; clear n0_ n2_ hb))
        obtain ⟨w7, hw7⟩ : ∃ w_ : World, w_ = w6.alloc (.cells #[.int .u8 b0, .int .u8 b1, .int .u8 b2, .int .u8 b3] 44) := ⟨_, rfl⟩
        obtain ⟨g7, hg7⟩ : ∃ g_ : Nat, g_ = w6.heap.size := ⟨_, rfl⟩
        (try simp only [])
        rw [← hw7, ← hg7]
        have B7 := Aside0.mk (show w7.heap[g7]? = some (.cells #[.int .u8 b0, .int .u8 b1, .int .u8 b2, .int .u8 b3] 44 (0, 0)) by rw [hw7, hg7]; exact blk_new _ _)
        have n2_ := Aside0.mk (show w7.heap[g6]? = some (.cells #[.int .u8 e_.f0, .int .u16 e_.f1, .int .u8 e_.f2, .bool e_.f3, .int .u16 e_.f4, .int .u8 e_.f5, .int .u8 e_.f6] 43 (0, 0)) by rw [hw7]; exact blk_alloc B6.out _)
        have n0_ := Aside0.mk (show Kd.R (Kd.int .u8) 5 w7 w.heap.size (fun _ => True) _ acc by rw [hw7]; exact Kd.R_alloc HO4.out _)
        have n1_ := Aside0.mk (show Below w.heap.size w w7 by rw [hw7]; exact below_alloc HB.out _)
        clear HO4 HB B6 hw7 hg7
        have HO4 := n0_
        have HB := n1_
        have B6 := n2_
        clear n0_ n1_ n2_
        have b_0 : w7.cell? ⟨g7, 0, none⟩ = some (.int .u8 b0) := (blk_cell B7.out 0).trans rfl
        have b_1 : w7.cell? ⟨g7, 1, none⟩ = some (.int .u8 b1) := (blk_cell B7.out 1).trans rfl
        have b_2 : w7.cell? ⟨g7, 2, none⟩ = some (.int .u8 b2) := (blk_cell B7.out 2).trans rfl
        have b_3 : w7.cell? ⟨g7, 3, none⟩ = some (.int .u8 b3) := (blk_cell B7.out 3).trans rfl
        go_upto_region 7 with (first | (go_at_call 18; (with_reducible refine (pool_entry.calls b0 b1 b2 b3 _).mono ?_); rintro e w8 ⟨rfl, hb⟩; rw [← HDD.out]; have n0_ := Aside0.mk (Kd.R_below HO4.out hb); have n2_ := Aside0.mk (blk_below B6.out hb); have n3_ := Aside0.mk (blk_below B7.out hb); have n1_ := Aside0.mk (below_step (by repeat (first | (with_reducible first | exact HB.out | apply below_alloc | apply pw_below_drewN | apply below_drew1) | exact HB.out)) hb); clear HB; have HB := n1_; clear n1_; clear HO4 B6 B7 b_0 b_1 b_2 b_3; have HO4 := n0_; have B6 := n2_; have B7 := n3_; clear n0_ n2_ n3_ hb))
        obtain ⟨w9, hw9⟩ : ∃ w_ : World, w_ = w8.alloc (.cells #[.int .u8 d_.f0, .int .u16 d_.f1, .int .u8 d_.f2, .bool d_.f3, .int .u16 d_.f4, .int .u8 d_.f5, .int .u8 d_.f6] 43) := ⟨_, rfl⟩
        obtain ⟨g8, hg8⟩ : ∃ g_ : Nat, g_ = w8.heap.size := ⟨_, rfl⟩
        (try simp only [])
        rw [← hw9, ← hg8]
        have B8 := Aside0.mk (show w9.heap[g8]? = some (.cells #[.int .u8 d_.f0, .int .u16 d_.f1, .int .u8 d_.f2, .bool d_.f3, .int .u16 d_.f4, .int .u8 d_.f5, .int .u8 d_.f6] 43 (0, 0)) by rw [hw9, hg8]; exact blk_new _ _)
        have n2_ := Aside0.mk (show w9.heap[g6]? = some (.cells #[.int .u8 e_.f0, .int .u16 e_.f1, .int .u8 e_.f2, .bool e_.f3, .int .u16 e_.f4, .int .u8 e_.f5, .int .u8 e_.f6] 43 (0, 0)) by rw [hw9]; exact blk_alloc B6.out _)
        have n3_ := Aside0.mk (show w9.heap[g7]? = some (.cells #[.int .u8 b0, .int .u8 b1, .int .u8 b2, .int .u8 b3] 44 (0, 0)) by rw [hw9]; exact blk_alloc B7.out _)
        have n0_ := Aside0.mk (show Kd.R (Kd.int .u8) 5 w9 w.heap.size (fun _ => True) _ acc by rw [hw9]; exact Kd.R_alloc HO4.out _)
        have n1_ := Aside0.mk (show Below w.heap.size w w9 by rw [hw9]; exact below_alloc HB.out _)
        clear HO4 HB B6 B7 hw9 hg8
        have HO4 := n0_
        have HB := n1_
        have B6 := n2_
        have B7 := n3_
        clear n0_ n1_ n2_ n3_
        have a0 : w9.cell? ⟨g6, 0, none⟩ = some (.int .u8 e_.f0) := (blk_cell B6.out 0).trans rfl
        have a1 : w9.cell? ⟨g6, 1, none⟩ = some (.int .u16 e_.f1) := (blk_cell B6.out 1).trans rfl
        have a2 : w9.cell? ⟨g6, 2, none⟩ = some (.int .u8 e_.f2) := (blk_cell B6.out 2).trans rfl
        have a3 : w9.cell? ⟨g6, 3, none⟩ = some (.bool e_.f3) := (blk_cell B6.out 3).trans rfl
        have a4 : w9.cell? ⟨g6, 4, none⟩ = some (.int .u16 e_.f4) := (blk_cell B6.out 4).trans rfl
        have a5 : w9.cell? ⟨g6, 5, none⟩ = some (.int .u8 e_.f5) := (blk_cell B6.out 5).trans rfl
        have a6 : w9.cell? ⟨g6, 6, none⟩ = some (.int .u8 e_.f6) := (blk_cell B6.out 6).trans rfl
        have d0 : w9.cell? ⟨g8, 0, none⟩ = some (.int .u8 d_.f0) := (blk_cell B8.out 0).trans rfl
        have d1 : w9.cell? ⟨g8, 1, none⟩ = some (.int .u16 d_.f1) := (blk_cell B8.out 1).trans rfl
        have d2 : w9.cell? ⟨g8, 2, none⟩ = some (.int .u8 d_.f2) := (blk_cell B8.out 2).trans rfl
        have d3 : w9.cell? ⟨g8, 3, none⟩ = some (.bool d_.f3) := (blk_cell B8.out 3).trans rfl
        have d4 : w9.cell? ⟨g8, 4, none⟩ = some (.int .u16 d_.f4) := (blk_cell B8.out 4).trans rfl
        have d5 : w9.cell? ⟨g8, 5, none⟩ = some (.int .u8 d_.f5) := (blk_cell B8.out 5).trans rfl
        have d6 : w9.cell? ⟨g8, 6, none⟩ = some (.int .u8 d_.f6) := (blk_cell B8.out 6).trans rfl
        cases db with
        | false =>
          have h := H'.out
          rw [if_neg (by simp)] at h
          have h2_ := H0.out
          rw [← h] at h2_
          rw [if_neg (by decide)] at h2_
          simp only [Option.some.injEq, Prod.mk.injEq] at h2_
          obtain ⟨rfl, rfl⟩ := h2_
          clear H' H0 h HRR HN
          go_wp2
          go_ret2
          exact ⟨_, rfl, Kd.R_nil _ _ _ _ _, HB.out⟩
        | true =>
          by_cases q0 : d_.f0 = e_.f0
          rotate_left
          · have q0b : (d_.f0 == e_.f0) = false := beq_eq_false_iff_ne.mpr q0
            have q0c : (d_.f0 != e_.f0) = true := bne_iff_ne.mpr q0
            have Q_ := Aside0.mk q0
            clear q0
            have h := H'.out
            rw [if_neg (by simp [pool_same, q0b])] at h
            have h2_ := H0.out
            rw [← h] at h2_
            rw [if_neg (by decide)] at h2_
            simp only [Option.some.injEq, Prod.mk.injEq] at h2_
            obtain ⟨rfl, rfl⟩ := h2_
            clear H' H0 h HRR HN
            go_wp2
            go_ret2
            exact ⟨_, rfl, Kd.R_nil _ _ _ _ _, HB.out⟩
          have Q0 := Aside0.mk q0
          clear q0
          by_cases q1 : d_.f1 = e_.f1
          rotate_left
          · have q1b : (d_.f1 == e_.f1) = false := beq_eq_false_iff_ne.mpr q1
            have q1c : (d_.f1 != e_.f1) = true := bne_iff_ne.mpr q1
            have Q_ := Aside0.mk q1
            clear q1
            rw [Q0.out] at d0
            have h := H'.out
            rw [if_neg (by simp [pool_same, q1b])] at h
            have h2_ := H0.out
            rw [← h] at h2_
            rw [if_neg (by decide)] at h2_
            simp only [Option.some.injEq, Prod.mk.injEq] at h2_
            obtain ⟨rfl, rfl⟩ := h2_
            clear H' H0 h HRR HN
            go_wp2
            go_ret2
            exact ⟨_, rfl, Kd.R_nil _ _ _ _ _, HB.out⟩
          have Q1 := Aside0.mk q1
          clear q1
          by_cases q2 : d_.f2 = e_.f2
          rotate_left
          · have q2b : (d_.f2 == e_.f2) = false := beq_eq_false_iff_ne.mpr q2
            have q2c : (d_.f2 != e_.f2) = true := bne_iff_ne.mpr q2
            have Q_ := Aside0.mk q2
            clear q2
            rw [Q0.out] at d0
            rw [Q1.out] at d1
            have h := H'.out
            rw [if_neg (by simp [pool_same, q2b])] at h
            have h2_ := H0.out
            rw [← h] at h2_
            rw [if_neg (by decide)] at h2_
            simp only [Option.some.injEq, Prod.mk.injEq] at h2_
            obtain ⟨rfl, rfl⟩ := h2_
            clear H' H0 h HRR HN
            go_wp2
            go_ret2
            exact ⟨_, rfl, Kd.R_nil _ _ _ _ _, HB.out⟩
          have Q2 := Aside0.mk q2
          clear q2
          by_cases q3 : d_.f3 = e_.f3
          rotate_left
          · have q3b : (d_.f3 == e_.f3) = false := beq_eq_false_iff_ne.mpr q3
            have q3c : (d_.f3 != e_.f3) = true := bne_iff_ne.mpr q3
            have Q_ := Aside0.mk q3
            clear q3
            rw [Q0.out] at d0
            rw [Q1.out] at d1
            rw [Q2.out] at d2
            have h := H'.out
            rw [if_neg (by simp [pool_same, q3b])] at h
            have h2_ := H0.out
            rw [← h] at h2_
            rw [if_neg (by decide)] at h2_
            simp only [Option.some.injEq, Prod.mk.injEq] at h2_
            obtain ⟨rfl, rfl⟩ := h2_
            clear H' H0 h HRR HN
            go_wp2
            go_ret2
            exact ⟨_, rfl, Kd.R_nil _ _ _ _ _, HB.out⟩
          have Q3 := Aside0.mk q3
          clear q3
          by_cases q4 : d_.f4 = e_.f4
          rotate_left
          · have q4b : (d_.f4 == e_.f4) = false := beq_eq_false_iff_ne.mpr q4
            have q4c : (d_.f4 != e_.f4) = true := bne_iff_ne.mpr q4
            have Q_ := Aside0.mk q4
            clear q4
            rw [Q0.out] at d0
            rw [Q1.out] at d1
            rw [Q2.out] at d2
            rw [Q3.out] at d3
            have h := H'.out
            rw [if_neg (by simp [pool_same, q4b])] at h
            have h2_ := H0.out
            rw [← h] at h2_
            rw [if_neg (by decide)] at h2_
            simp only [Option.some.injEq, Prod.mk.injEq] at h2_
            obtain ⟨rfl, rfl⟩ := h2_
            clear H' H0 h HRR HN
            go_wp2
            go_ret2
            exact ⟨_, rfl, Kd.R_nil _ _ _ _ _, HB.out⟩
          have Q4 := Aside0.mk q4
          clear q4
          by_cases q5 : d_.f5 = e_.f5
          rotate_left
          · have q5b : (d_.f5 == e_.f5) = false := beq_eq_false_iff_ne.mpr q5
            have q5c : (d_.f5 != e_.f5) = true := bne_iff_ne.mpr q5
            have Q_ := Aside0.mk q5
            clear q5
            rw [Q0.out] at d0
            rw [Q1.out] at d1
            rw [Q2.out] at d2
            rw [Q3.out] at d3
            rw [Q4.out] at d4
            have h := H'.out
            rw [if_neg (by simp [pool_same, q5b])] at h
            have h2_ := H0.out
            rw [← h] at h2_
            rw [if_neg (by decide)] at h2_
            simp only [Option.some.injEq, Prod.mk.injEq] at h2_
            obtain ⟨rfl, rfl⟩ := h2_
            clear H' H0 h HRR HN
            go_wp2
            go_ret2
            exact ⟨_, rfl, Kd.R_nil _ _ _ _ _, HB.out⟩
          have Q5 := Aside0.mk q5
          clear q5
          by_cases q6 : d_.f6 = e_.f6
          rotate_left
          · have q6b : (d_.f6 == e_.f6) = false := beq_eq_false_iff_ne.mpr q6
            have q6c : (d_.f6 != e_.f6) = true := bne_iff_ne.mpr q6
            have Q_ := Aside0.mk q6
            clear q6
            rw [Q0.out] at d0
            rw [Q1.out] at d1
            rw [Q2.out] at d2
            rw [Q3.out] at d3
            rw [Q4.out] at d4
            rw [Q5.out] at d5
            have h := H'.out
            rw [if_neg (by simp [pool_same, q6b])] at h
            have h2_ := H0.out
            rw [← h] at h2_
            rw [if_neg (by decide)] at h2_
            simp only [Option.some.injEq, Prod.mk.injEq] at h2_
            obtain ⟨rfl, rfl⟩ := h2_
            clear H' H0 h HRR HN
            go_wp2
            go_ret2
            exact ⟨_, rfl, Kd.R_nil _ _ _ _ _, HB.out⟩
          have Q6 := Aside0.mk q6
          clear q6
          rw [Q0.out] at d0
          rw [Q1.out] at d1
          rw [Q2.out] at d2
          rw [Q3.out] at d3
          rw [Q4.out] at d4
          rw [Q5.out] at d5
          rw [Q6.out] at d6
          have h := H'.out
          rw [if_pos (by simp [pool_same, Q0.out, Q1.out, Q2.out, Q3.out, Q4.out, Q5.out, Q6.out])] at h
          have HA := Aside0.mk h
          have HS : Aside0 ((Kd.int .u8).C w9 (some ⟨g7, 0, none⟩) 4 [b0, b1, b2, b3]) := ⟨Kd.C_of_reads (d := 0) (h1 := fun _ => rfl) ⟨rfl, by omega, fun _ => ⟨_, rfl, fun j hj => by
            rw [show (⟨g7, 0, none⟩ : Addr).add j = ⟨g7, j, none⟩ from by simp [Addr.add]; exact fun h => h.symm, blk_cell B7.out j]
            match j, hj with
            | 0, _ => rfl
            | 1, _ => rfl
            | 2, _ => rfl
            | 3, _ => rfl⟩⟩⟩
          clear h H'
          go_wp2_with (first | ((with_reducible refine gate_builtin (b := .append) (xs := #[.tmp 32, .tmp 33]) rfl ?_); at_builtin; refine Kd.R_append_rows (Kd.int .u8) (w0 := w) w.heap.size rfl (.tmp 32) (.tmp 33) 31 5 (.int .u8 0) 1 rfl Try.underlying31 info5 rfl (by decide) (by omega) _ acc [b0, b1, b2, b3] _ _ _ (fun _ => True) (fun _ => False) rfl rfl ?aO ?aR (fun _ _ h => h) (fun _ h => h.elim) ?aF ?aB ?aS ?aL ?_; (case aR => exact HS.out); (case aB => exact HB.out); (case aF => exact (fun _ _ => trivial)); (case aO => exact HO4.out); (case aS => exact (below_size HB.out)); (case aL => have := HN.out; have := HL.out; omega); intro v48 w48 ho hb hg hat; have n0_ := Aside0.mk ho; have n1_ := Aside0.mk hb; clear HO4 HB; have HO4 := n0_; have HB := n1_; clear n0_ n1_ ho hb hg hat))
          go_roundg k1
          case measure => omega
          case rel =>
            refine ⟨acc ++ [b0, b1, b2, b3], x14 + 1, ?_, ⟨?_⟩, ⟨?_⟩, ⟨by (with_reducible repeat (first | apply Kd.R_alloc | apply Kd.R_drewN | apply Kd.R_drew)); exact HO4.out⟩, ⟨by repeat (first | (with_reducible first | exact HB.out | apply below_alloc | apply pw_below_drewN | apply below_drew1) | exact HB.out)⟩⟩
            · first | (rw [HWW.out]; done) | (simp only [HWW.out]; done) | (simp [HWW.out]; done)
            · have := HN.out
              simp only [List.length_append, List.length_cons, List.length_nil]
              omega
            · rw [show (x14 + 1).toNat = x14.toNat + 1 from by have := HN.out; omega]
              exact HA.out
      · have c4b0 : decide (x14 < (l0.length : Int)) = false := decide_eq_false c4
        have h := HA.out
        rw [List.drop_eq_nil_of_le (by have := HN.out; omega)] at h
        unfold pool_Put.all at h
        have h2_ := H0.out
        rw [← h, if_pos rfl] at h2_
        clear h HA H0 HRR c4
        by_cases c5 : l0.length > 255
        · rw [if_pos c5] at h2_
          simp only [Option.some.injEq, Prod.mk.injEq] at h2_
          obtain ⟨rfl, rfl⟩ := h2_
          have c5b0 : decide (255 < (l0.length : Int)) = true := decide_eq_true (by omega)
          have c5b1 : decide (255 < l0.length) = true := decide_eq_true c5
          clear c5
          go_wp2
          go_ret2
          exact ⟨_, rfl, Kd.R_nil _ _ _ _ _, HB.out⟩
        · rw [if_neg c5] at h2_
          have c5b0 : decide (255 < (l0.length : Int)) = false := decide_eq_false (by omega)
          have c5b1 : decide (255 < l0.length) = false := decide_eq_false c5
          obtain ⟨⟨t0, t1⟩, A1, h2_⟩ := Option.bind_eq_some_iff.mp h2_
          replace h2_ : (if t0.length ≤ 8 then some (t0 ++ acc, 0) else none) = some (r1, r2) := h2_
          by_cases ht_ : t0.length ≤ 8
          rotate_left
          · rw [if_neg ht_] at h2_
            cases h2_
          rw [if_pos ht_] at h2_
          have HT := Aside0.mk ht_
          clear ht_
          simp only [Option.some.injEq, Prod.mk.injEq] at h2_
          obtain ⟨hr1_, rfl⟩ := h2_
          have A1_ := Aside0.mk A1
          have HR1 := Aside0.mk hr1_
          have C5 := Aside0.mk c5
          clear A1 hr1_ c5
          obtain ⟨Ao4, co4, eo4⟩ := Kd.R_slice HO4.out
          subst eo4
          go_wp2_with (first | (go_at_call 19; (with_reducible refine (ends_Put.calls 20 ((l0.length : Int) % 4294967296) 2 t0 t1 _ A1_.out).mono ?_); rintro e w50 ⟨v50, rfl, ho0, hb⟩; have n0_ := Aside0.mk (Kd.R_below (by (with_reducible repeat (first | apply Kd.R_alloc | apply Kd.R_drewN | apply Kd.R_drew)); exact HO4.out) hb); have n2_ := Aside0.mk (Kd.R_lower ho0 (below_size (by repeat (first | (with_reducible first | exact HB.out | apply below_alloc | apply pw_below_drewN | apply below_drew1) | exact HB.out)))); have n1_ := Aside0.mk (below_step (by repeat (first | (with_reducible first | exact HB.out | apply below_alloc | apply pw_below_drewN | apply below_drew1) | exact HB.out)) hb); clear HB; have HB := n1_; clear n1_; clear HO4; have HO4 := n0_; have HOn := n2_; clear n0_ n2_ hb ho0) | ((with_reducible refine gate_builtin (b := .append) (xs := #[.tmp 46, .tmp 47]) rfl ?_); at_builtin; refine Kd.R_append_rows (Kd.int .u8) (w0 := w) w.heap.size rfl (.tmp 46) (.tmp 47) 31 5 (.int .u8 0) 1 rfl Try.underlying31 info5 rfl (by decide) (by omega) _ t0 acc _ _ _ (fun _ => True) (fun _ => False) rfl rfl ?aO ?aR (fun _ _ h => h) (fun _ h => h.elim) ?aF ?aB ?aS ?aL ?_; (case aR => exact (Kd.R_reads' HO4.out).2.2); (case aB => exact HB.out); (case aF => exact (fun _ _ => trivial)); (case aO => exact HOn.out); (case aS => exact (below_size HB.out)); (case aL => have h1_ := HT.out; have := HN.out; have := HL.out; omega); intro v48 w48 ho hb hg hat; have n0_ := Aside0.mk ho; have n1_ := Aside0.mk hb; clear HO4 HB HOn; have HO4 := n0_; have HB := n1_; clear n0_ n1_ ho hb hg hat))
          go_ret2
          exact ⟨_, rfl, by rw [← HR1.out]; exact HO4.out, HB.out⟩
  · rw [if_neg hlen] at h
    cases h

/-! ### garderoberef00_Same: function 14 -/
def garderoberef00_Same.l0 : Nat → List Int → List Int → Int → Option (Bool)
  | 0, _, _, _ => none
  | k + 1, x0, x1, x5 => if x5 < (x0.length : Int) then (if 0 ≤ x5 then (if x5 < (x1.length : Int) then (if (rd x0 x5) = (rd x1 x5) then (garderoberef00_Same.l0 k x0 x1 (wrap64 (x5 + 1))) else (some false)) else (none)) else (none)) else (some true)
def garderoberef00_Same.f (k : Nat) (l0 : List Int) (l1 : List Int) : Option (Bool) := if (l0.length : Int) = (l1.length : Int) then (garderoberef00_Same.l0 k l0 l1 0) else (some false)
theorem garderoberef00_Same.mono_l : ∀ k, (∀ y0 y1 y2, LeO (garderoberef00_Same.l0 k y0 y1 y2) (garderoberef00_Same.l0 (k + 1) y0 y1 y2))
  | 0 => fun _ _ _ r h => by simp [garderoberef00_Same.l0] at h
  | k + 1 => by
    have ih0 := garderoberef00_Same.mono_l k
    · intro y0 y1 y2
      unfold garderoberef00_Same.l0
      repeat' first
      | (with_reducible exact ih0 _ _ _)
      | (with_reducible exact LeO.refl _)
      | (with_reducible exact LeO.none _)
      | (with_reducible refine LeO.ite ?_ ?_)
      | (with_reducible refine LeO.bind ?_ (fun _ => ?_))
      | exact ih0 _ _ _
      | exact LeO.none _
      | refine LeO.ite ?_ ?_
      | refine LeO.bind ?_ (fun _ => ?_)
theorem garderoberef00_Same.mono : ∀ a0 a1 k, LeO (garderoberef00_Same.f k a0 a1) (garderoberef00_Same.f (k + 1) a0 a1) := by
  intro a0 a1 k
  have ih0 := garderoberef00_Same.mono_l k
  unfold garderoberef00_Same.f
  repeat' first
      | (with_reducible exact ih0 _ _ _)
      | (with_reducible exact LeO.refl _)
      | (with_reducible exact LeO.none _)
      | (with_reducible refine LeO.ite ?_ ?_)
      | (with_reducible refine LeO.bind ?_ (fun _ => ?_))
      | exact ih0 _ _ _
      | exact LeO.none _
      | refine LeO.ite ?_ ?_
      | refine LeO.bind ?_ (fun _ => ?_)
set_option maxHeartbeats 8000000 in
set_option maxRecDepth 100000 in
theorem garderoberef00_Same.calls (k : Nat) (A0 : Option Addr) (c0 : Nat) (l0 : List Int) (A1 : Option Addr) (c1 : Nat) (l1 : List Int) (r : Bool) (w : World) (hr0 : Kd.C (Kd.int .u8) w A0 l0.length l0) (hc0 : l0.length ≤ c0) (hr1 : Kd.C (Kd.int .u8) w A1 l1.length l1) (hc1 : l1.length ≤ c1) (h : garderoberef00_Same.f k l0 l1 = some r) :
    Calls Try.prog 14 #[.slice A0 l0.length c0, .slice A1 l1.length c1] w fun e w' => e = .returned (.bool r) ∧ Drawn0 w w' := by
  have HR0 := Aside0.mk hr0
  have HC0 := Aside0.mk hc0
  clear hr0 hc0
  have HR1 := Aside0.mk hr1
  have HC1 := Aside0.mk hc1
  clear hr1 hc1
  have H : (if (l0.length : Int) = (l1.length : Int) then (garderoberef00_Same.l0 k l0 l1 0) else (some false)) = some r := h
  clear h
  by_cases c3 : (l0.length : Int) = (l1.length : Int)
  · rw [if_pos c3] at H
    have c3b0 : ((l0.length : Int) == (l1.length : Int)) = true := beq_iff_eq.mpr c3
    have c3b1 : ((l0.length : Int) != (l1.length : Int)) = false := bne_eq_false_iff_eq.mpr c3
    have c3b2 : (l0.length == l1.length) = true := by first | simpa using c3 | (simp at c3 ⊢; omega)
    clear c3
    have H' := Aside0.mk H
    clear H
    go_enter Try.func14, Try.ntmps14
    go_wp2
    repeat (go_quiet (fail); try go_wp2)
    go_loopg [5] k (fun kq v5 w' => ∃ (x5_1 : Int), v5 = .int .i64 x5_1 ∧ Aside0 (garderoberef00_Same.l0 kq l0 l1 x5_1 = some r) ∧ Aside0 (kq ≤ k) ∧ Drawn0 w w')
    case atStart => exact ⟨(0), (by first | rfl | (simp; done) | (simp [*]; done)), H', ⟨Nat.le_refl _⟩, by repeat (first | exact Drawn0.refl _ | apply Drawn0.step)⟩
    case round =>
      clear H'
      try clear c1
      try clear p2
      try clear c3
      try clear c3b0
      try clear c3b1
      try clear c3b2
      obtain ⟨x5_1, rfl, HA, HK1, ⟨m1, rfl⟩⟩ := hrel
      cases gk with
      | zero => exact absurd HA.out (by simp [garderoberef00_Same.l0])
      | succ k1 =>
        have H := HA.out
        clear HA
        simp only [garderoberef00_Same.l0] at H
        by_cases c4 : x5_1 < (l0.length : Int)
        · rw [if_pos c4] at H
          have c4b0 : decide (x5_1 < (l0.length : Int)) = true := decide_eq_true c4
          clear c4
          by_cases c5 : 0 ≤ x5_1
          · rw [if_pos c5] at H
            have c5b0 : decide (0 ≤ x5_1) = true := decide_eq_true c5
            clear c5
            by_cases c6 : x5_1 < (l1.length : Int)
            · rw [if_pos c6] at H
              have c6b0 : decide (x5_1 < (l1.length : Int)) = true := decide_eq_true c6
              clear c6
              by_cases c7 : (rd l0 x5_1) = (rd l1 x5_1)
              · rw [if_pos c7] at H
                have c7b0 : ((rd l0 x5_1) == (rd l1 x5_1)) = true := beq_iff_eq.mpr c7
                have c7b1 : ((rd l0 x5_1) != (rd l1 x5_1)) = false := bne_eq_false_iff_eq.mpr c7
                clear c7
                have H' := Aside0.mk H
                clear H
                have p160 : 0 ≤ (x5_1 : Int) := of_decide_eq_true (by first | (with_reducible assumption) | assumption)
                have q160 : x5_1 < (l0.length : Int) := of_decide_eq_true (by first | (with_reducible assumption) | assumption)
                obtain ⟨ad160, e160, hx160_0⟩ := Kd.at_int HR0.out x5_1 p160 q160
                cases e160
                replace p160 := eq_true p160
                replace q160 := eq_true q160
                have p161 : 0 ≤ (x5_1 : Int) := of_decide_eq_true (by first | (with_reducible assumption) | assumption)
                have q161 : x5_1 < (l1.length : Int) := of_decide_eq_true (by first | (with_reducible assumption) | assumption)
                obtain ⟨ad161, e161, hx161_0⟩ := Kd.at_int HR1.out x5_1 p161 q161
                cases e161
                replace p161 := eq_true p161
                replace q161 := eq_true q161
                go_wp2
                repeat (go_quiet (fail); try go_wp2)
                go_roundg k1
                case measure => have := HK1.out; omega
                case rel => exact ⟨(wrap64 (x5_1 + 1)), (by first | rfl | (simp; done) | (simp [*]; done)), H', ⟨by have := HK1.out; omega⟩, by repeat (first | exact Drawn0.refl _ | apply Drawn0.step)⟩
              · rw [if_neg c7] at H
                have c7b0 : ((rd l0 x5_1) == (rd l1 x5_1)) = false := beq_eq_false_iff_ne.mpr c7
                have c7b1 : ((rd l0 x5_1) != (rd l1 x5_1)) = true := bne_iff_ne.mpr c7
                obtain rfl := Option.some.inj H
                have p160 : 0 ≤ (x5_1 : Int) := of_decide_eq_true (by first | (with_reducible assumption) | assumption)
                have q160 : x5_1 < (l0.length : Int) := of_decide_eq_true (by first | (with_reducible assumption) | assumption)
                obtain ⟨ad160, e160, hx160_0⟩ := Kd.at_int HR0.out x5_1 p160 q160
                cases e160
                replace p160 := eq_true p160
                replace q160 := eq_true q160
                have p161 : 0 ≤ (x5_1 : Int) := of_decide_eq_true (by first | (with_reducible assumption) | assumption)
                have q161 : x5_1 < (l1.length : Int) := of_decide_eq_true (by first | (with_reducible assumption) | assumption)
                obtain ⟨ad161, e161, hx161_0⟩ := Kd.at_int HR1.out x5_1 p161 q161
                cases e161
                replace p161 := eq_true p161
                replace q161 := eq_true q161
                go_wp2
                repeat (go_quiet (fail); try go_wp2)
                go_ret
                exact ⟨by first | rfl | (simp; done) | (simp [*]; done), by repeat (first | exact Drawn0.refl _ | apply Drawn0.step)⟩
            · rw [if_neg c6] at H
              exact absurd H (by simp)
          · rw [if_neg c5] at H
            exact absurd H (by simp)
        · rw [if_neg c4] at H
          have c4b0 : decide (x5_1 < (l0.length : Int)) = false := decide_eq_false c4
          clear c4
          obtain rfl := Option.some.inj H
          go_wp2
          repeat (go_quiet (fail); try go_wp2)
          go_ret
          exact ⟨by first | rfl | (simp; done) | (simp [*]; done), by repeat (first | exact Drawn0.refl _ | apply Drawn0.step)⟩
  · rw [if_neg c3] at H
    have c3b0 : ((l0.length : Int) == (l1.length : Int)) = false := beq_eq_false_iff_ne.mpr c3
    have c3b1 : ((l0.length : Int) != (l1.length : Int)) = true := bne_iff_ne.mpr c3
    have c3b2 : (l0.length == l1.length) = false := by first | simpa using c3 | (simp at c3 ⊢; omega)
    obtain rfl := Option.some.inj H
    go_enter Try.func14, Try.ntmps14
    go_wp2
    repeat (go_quiet (fail); try go_wp2)
    go_ret
    exact ⟨by first | rfl | (simp; done) | (simp [*]; done), by repeat (first | exact Drawn0.refl _ | apply Drawn0.step)⟩

/-! ### garderobelaw07_same: function 16 -/
def garderobelaw07_same.l0 : Nat → List (S43) → List (S43) → Int → Option (Bool)
  | 0, _, _, _ => none
  | k + 1, x0, x1, x5 => if x5 < (x0.length : Int) then (if 0 ≤ x5 then (if x5 < (x1.length : Int) then (if (!(((rd_T43 x0 x5).f0) == ((rd_T43 x1 x5).f0)) || (!(((rd_T43 x0 x5).f1) == ((rd_T43 x1 x5).f1)) || (!(((rd_T43 x0 x5).f2) == ((rd_T43 x1 x5).f2)) || (!(((rd_T43 x0 x5).f3) == ((rd_T43 x1 x5).f3)) || (!(((rd_T43 x0 x5).f4) == ((rd_T43 x1 x5).f4)) || (!(((rd_T43 x0 x5).f5) == ((rd_T43 x1 x5).f5)) || (!(((rd_T43 x0 x5).f6) == ((rd_T43 x1 x5).f6))))))))) = true then (none) else (garderobelaw07_same.l0 k x0 x1 (wrap64 (x5 + 1)))) else (none)) else (none)) else (some true)
def garderobelaw07_same.f (k : Nat) (l0 : List (S43)) (l1 : List (S43)) : Option (Bool) := if (l0.length : Int) = (l1.length : Int) then (garderobelaw07_same.l0 k l0 l1 0) else (none)
theorem garderobelaw07_same.mono_l : ∀ k, (∀ y0 y1 y2, LeO (garderobelaw07_same.l0 k y0 y1 y2) (garderobelaw07_same.l0 (k + 1) y0 y1 y2))
  | 0 => fun _ _ _ r h => by simp [garderobelaw07_same.l0] at h
  | k + 1 => by
    have ih0 := garderobelaw07_same.mono_l k
    · intro y0 y1 y2
      unfold garderobelaw07_same.l0
      repeat' first
      | (with_reducible exact ih0 _ _ _)
      | (with_reducible exact LeO.refl _)
      | (with_reducible exact LeO.none _)
      | (with_reducible refine LeO.ite ?_ ?_)
      | (with_reducible refine LeO.bind ?_ (fun _ => ?_))
      | exact ih0 _ _ _
      | exact LeO.none _
      | refine LeO.ite ?_ ?_
      | refine LeO.bind ?_ (fun _ => ?_)
theorem garderobelaw07_same.mono : ∀ a0 a1 k, LeO (garderobelaw07_same.f k a0 a1) (garderobelaw07_same.f (k + 1) a0 a1) := by
  intro a0 a1 k
  have ih0 := garderobelaw07_same.mono_l k
  unfold garderobelaw07_same.f
  repeat' first
      | (with_reducible exact ih0 _ _ _)
      | (with_reducible exact LeO.refl _)
      | (with_reducible exact LeO.none _)
      | (with_reducible refine LeO.ite ?_ ?_)
      | (with_reducible refine LeO.bind ?_ (fun _ => ?_))
      | exact ih0 _ _ _
      | exact LeO.none _
      | refine LeO.ite ?_ ?_
      | refine LeO.bind ?_ (fun _ => ?_)
set_option maxHeartbeats 8000000 in
set_option maxRecDepth 100000 in
theorem garderobelaw07_same.calls (k : Nat) (A0 : Option Addr) (c0 : Nat) (l0 : List (S43)) (A1 : Option Addr) (c1 : Nat) (l1 : List (S43)) (r : Bool) (w : World) (hr0 : Kd.C k43 w A0 l0.length l0) (hc0 : l0.length ≤ c0) (hr1 : Kd.C k43 w A1 l1.length l1) (hc1 : l1.length ≤ c1) (h : garderobelaw07_same.f k l0 l1 = some r) :
    Calls Try.prog 16 #[.slice A0 l0.length c0, .slice A1 l1.length c1] w fun e w' => e = .returned (.bool r) ∧ Drawn0 w w' := by
  have hu43 := Try.underlying43
  have HR0 := Aside0.mk hr0
  have HC0 := Aside0.mk hc0
  clear hr0 hc0
  have HR1 := Aside0.mk hr1
  have HC1 := Aside0.mk hc1
  clear hr1 hc1
  have H : (if (l0.length : Int) = (l1.length : Int) then (garderobelaw07_same.l0 k l0 l1 0) else (none)) = some r := h
  clear h
  by_cases c3 : (l0.length : Int) = (l1.length : Int)
  · rw [if_pos c3] at H
    have c3b0 : ((l0.length : Int) == (l1.length : Int)) = true := beq_iff_eq.mpr c3
    have c3b1 : ((l0.length : Int) != (l1.length : Int)) = false := bne_eq_false_iff_eq.mpr c3
    have c3b2 : (l0.length == l1.length) = true := by first | simpa using c3 | (simp at c3 ⊢; omega)
    clear c3
    have H' := Aside0.mk H
    clear H
    go_enter Try.func16, Try.ntmps16
    go_wp2
    repeat (go_quiet (fail); try go_wp2)
    go_loopg [5] k (fun kq v5 w' => ∃ (x5_1 : Int), v5 = .int .i64 x5_1 ∧ Aside0 (garderobelaw07_same.l0 kq l0 l1 x5_1 = some r) ∧ Aside0 (kq ≤ k) ∧ Drawn0 w w')
    case atStart => exact ⟨(0), (by first | rfl | (simp; done) | (simp [*]; done)), H', ⟨Nat.le_refl _⟩, by repeat (first | exact Drawn0.refl _ | apply Drawn0.step)⟩
    case round =>
      clear H'
      try clear c1
      try clear p2
      try clear c3
      try clear c3b0
      try clear c3b1
      try clear c3b2
      obtain ⟨x5_1, rfl, HA, HK1, ⟨m1, rfl⟩⟩ := hrel
      cases gk with
      | zero => exact absurd HA.out (by simp [garderobelaw07_same.l0])
      | succ k1 =>
        have H := HA.out
        clear HA
        simp only [garderobelaw07_same.l0] at H
        by_cases c4 : x5_1 < (l0.length : Int)
        · rw [if_pos c4] at H
          have c4b0 : decide (x5_1 < (l0.length : Int)) = true := decide_eq_true c4
          clear c4
          by_cases c5 : 0 ≤ x5_1
          · rw [if_pos c5] at H
            have c5b0 : decide (0 ≤ x5_1) = true := decide_eq_true c5
            clear c5
            by_cases c6 : x5_1 < (l1.length : Int)
            · rw [if_pos c6] at H
              have c6b0 : decide (x5_1 < (l1.length : Int)) = true := decide_eq_true c6
              clear c6
              by_cases c7 : (!(((rd_T43 l0 x5_1).f0) == ((rd_T43 l1 x5_1).f0)) || (!(((rd_T43 l0 x5_1).f1) == ((rd_T43 l1 x5_1).f1)) || (!(((rd_T43 l0 x5_1).f2) == ((rd_T43 l1 x5_1).f2)) || (!(((rd_T43 l0 x5_1).f3) == ((rd_T43 l1 x5_1).f3)) || (!(((rd_T43 l0 x5_1).f4) == ((rd_T43 l1 x5_1).f4)) || (!(((rd_T43 l0 x5_1).f5) == ((rd_T43 l1 x5_1).f5)) || (!(((rd_T43 l0 x5_1).f6) == ((rd_T43 l1 x5_1).f6))))))))) = true
              · rw [if_pos c7] at H
                exact absurd H (by simp)
              · rw [if_neg c7] at H
                have c7b0 : (!(((rd_T43 l0 x5_1).f0) == ((rd_T43 l1 x5_1).f0)) || (!(((rd_T43 l0 x5_1).f1) == ((rd_T43 l1 x5_1).f1)) || (!(((rd_T43 l0 x5_1).f2) == ((rd_T43 l1 x5_1).f2)) || (!(((rd_T43 l0 x5_1).f3) == ((rd_T43 l1 x5_1).f3)) || (!(((rd_T43 l0 x5_1).f4) == ((rd_T43 l1 x5_1).f4)) || (!(((rd_T43 l0 x5_1).f5) == ((rd_T43 l1 x5_1).f5)) || (!(((rd_T43 l0 x5_1).f6) == ((rd_T43 l1 x5_1).f6))))))))) = false := by simpa using c7
                clear c7
                have H' := Aside0.mk H
                clear H
                have p162 : 0 ≤ (x5_1 : Int) := of_decide_eq_true (by first | (with_reducible assumption) | assumption)
                have q162 : x5_1 < (l0.length : Int) := of_decide_eq_true (by first | (with_reducible assumption) | assumption)
                obtain ⟨ad162, e162, hx162_0, hx162_1, hx162_2, hx162_3, hx162_4, hx162_5, hx162_6⟩ := at_T43 HR0.out x5_1 p162 q162
                cases e162
                replace p162 := eq_true p162
                replace q162 := eq_true q162
                have p163 : 0 ≤ (x5_1 : Int) := of_decide_eq_true (by first | (with_reducible assumption) | assumption)
                have q163 : x5_1 < (l1.length : Int) := of_decide_eq_true (by first | (with_reducible assumption) | assumption)
                obtain ⟨ad163, e163, hx163_0, hx163_1, hx163_2, hx163_3, hx163_4, hx163_5, hx163_6⟩ := at_T43 HR1.out x5_1 p163 q163
                cases e163
                replace p163 := eq_true p163
                replace q163 := eq_true q163
                go_wp2
                repeat (go_quiet (fail); try go_wp2)
                go_roundg k1
                case measure => have := HK1.out; omega
                case rel => exact ⟨(wrap64 (x5_1 + 1)), (by first | rfl | (simp; done) | (simp [*]; done)), H', ⟨by have := HK1.out; omega⟩, by repeat (first | exact Drawn0.refl _ | apply Drawn0.step)⟩
            · rw [if_neg c6] at H
              exact absurd H (by simp)
          · rw [if_neg c5] at H
            exact absurd H (by simp)
        · rw [if_neg c4] at H
          have c4b0 : decide (x5_1 < (l0.length : Int)) = false := decide_eq_false c4
          clear c4
          obtain rfl := Option.some.inj H
          go_wp2
          repeat (go_quiet (fail); try go_wp2)
          go_ret
          exact ⟨by first | rfl | (simp; done) | (simp [*]; done), by repeat (first | exact Drawn0.refl _ | apply Drawn0.step)⟩
  · rw [if_neg c3] at H
    exact absurd H (by simp)

end Go.Proofs.Ytechlmlokgjlnaa.PPoolBack
