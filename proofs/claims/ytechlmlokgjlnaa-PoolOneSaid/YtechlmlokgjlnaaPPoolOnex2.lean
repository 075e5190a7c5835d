-- laid by fake.py, a program of this session's, over the kit's print
import Derived.Test.YtechlmlokgjlnaaPPoolOnex0
import Derived.Test.YtechlmlokgjlnaaPPoolOnex1
namespace Go.Proofs.Ytechlmlokgjlnaa.PPoolOne
open Go.RowKit Go.Proofs.YtechlmlokgjlnaaW.PrintWords Go.Proofs.YtechlmlokgjlnaaW.PrintLast Go.Proofs.YtechlmlokgjlnaaW.PrintMore
attribute [local go_sem] Go.Proofs.YtechlmlokgjlnaaW.Mine.isSome_set max2_int min2_int max_two min_two max_three min_three max_four min_four   -- for this text's walks alone
set_option linter.unusedVariables false
set_option linter.unusedSimpArgs false

/-! ### ends_Put: function 19 -/
mutual
def ends_Put.j0 : Nat → Int → Int → Bool → Option (List Int × Int)
  | 0, _, _, _ => none
  | k + 1, x0, x1, x22 => if x22 = true then (some (([] : List Int), 2)) else (if 0 ≤ x1 then (if (x1 : Int).toNat ≤ 281474976710656 then (ends_Put.l0 k x0 (List.replicate (x1 : Int).toNat 0) (wrap64 (x1 - 1))) else (none)) else (none))
def ends_Put.l0 : Nat → Int → List Int → Int → Option (List Int × Int)
  | 0, _, _, _ => none
  | k + 1, x0, x6, x7 => if x7 ≥ 0 then (if 0 ≤ x7 then (if x7 < (x6.length : Int) then (ends_Put.l0 k (x0 / 256) (x6.set (x7 : Int).toNat ((x0) % 256)) (wrap64 (x7 - 1))) else (none)) else (none)) else (some (x6, 0))
end
def ends_Put.f (k : Nat) (a0 : Int) (a1 : Int) : Option (List Int × Int) := (ends_may.f a1).bind fun t147 => (if t147 = true then (if a1 < 4 then (if 0 ≤ (IntKind.u64.wrap (8 * (IntKind.u64.wrap (a1)))) then (ends_Put.j0 k a0 a1 ((shr .u32 a0 (IntKind.u64.wrap (8 * (IntKind.u64.wrap (a1))))) != 0)) else (none)) else (ends_Put.j0 k a0 a1 false)) else (ends_Put.j0 k a0 a1 true))
theorem ends_Put.mono_l : ∀ k, (∀ y0 y1 y2, LeO (ends_Put.j0 k y0 y1 y2) (ends_Put.j0 (k + 1) y0 y1 y2)) ∧ (∀ y0 y1 y2, LeO (ends_Put.l0 k y0 y1 y2) (ends_Put.l0 (k + 1) y0 y1 y2))
  | 0 => ⟨fun _ _ _ r h => by simp [ends_Put.j0] at h, fun _ _ _ r h => by simp [ends_Put.l0] at h⟩
  | k + 1 => by
    obtain ⟨ih0, ih1⟩ := ends_Put.mono_l k
    refine ⟨?_, ?_⟩
    · intro y0 y1 y2
      unfold ends_Put.j0
      repeat' first
      | (with_reducible exact ih0 _ _ _)
      | (with_reducible exact ih1 _ _ _)
      | (with_reducible exact LeO.refl _)
      | (with_reducible exact LeO.none _)
      | (with_reducible refine LeO.ite ?_ ?_)
      | (with_reducible refine LeO.bind ?_ (fun _ => ?_))
      | exact ih0 _ _ _
      | exact ih1 _ _ _
      | exact LeO.none _
      | refine LeO.ite ?_ ?_
      | refine LeO.bind ?_ (fun _ => ?_)
    · intro y0 y1 y2
      unfold ends_Put.l0
      repeat' first
      | (with_reducible exact ih0 _ _ _)
      | (with_reducible exact ih1 _ _ _)
      | (with_reducible exact LeO.refl _)
      | (with_reducible exact LeO.none _)
      | (with_reducible refine LeO.ite ?_ ?_)
      | (with_reducible refine LeO.bind ?_ (fun _ => ?_))
      | exact ih0 _ _ _
      | exact ih1 _ _ _
      | exact LeO.none _
      | refine LeO.ite ?_ ?_
      | refine LeO.bind ?_ (fun _ => ?_)
theorem ends_Put.mono : ∀ a0 a1 k, LeO (ends_Put.f k a0 a1) (ends_Put.f (k + 1) a0 a1) := by
  intro a0 a1 k
  obtain ⟨ih0, ih1⟩ := ends_Put.mono_l k
  unfold ends_Put.f
  repeat' first
      | (with_reducible exact ih0 _ _ _)
      | (with_reducible exact ih1 _ _ _)
      | (with_reducible exact LeO.refl _)
      | (with_reducible exact LeO.none _)
      | (with_reducible refine LeO.ite ?_ ?_)
      | (with_reducible refine LeO.bind ?_ (fun _ => ?_))
      | exact ih0 _ _ _
      | exact ih1 _ _ _
      | exact LeO.none _
      | refine LeO.ite ?_ ?_
      | refine LeO.bind ?_ (fun _ => ?_)
set_option maxHeartbeats 8000000 in
set_option maxRecDepth 100000 in
theorem ends_Put.calls (k : Nat) (a0 : Int) (a1 : Int) (r1 : List Int) (r2 : Int) (w : World) (h : ends_Put.f k a0 a1 = some (r1, r2)) :
    Calls Try.prog 19 #[.int .u32 a0, .int .i64 a1] w fun e w' => ∃ v0_ : Value, e = .returned (.tuple #[v0_, .int .i64 r2]) ∧ Kd.R (Kd.int .u8) 5 w' w.heap.size (fun _ => True) v0_ r1 ∧ Below w.heap.size w w' := by
  have HB := Aside0.mk (Below.refl w.heap.size w)
  have H : ((ends_may.f a1).bind fun t147 => (if t147 = true then (if a1 < 4 then (if 0 ≤ (IntKind.u64.wrap (8 * (IntKind.u64.wrap (a1)))) then (ends_Put.j0 k a0 a1 ((shr .u32 a0 (IntKind.u64.wrap (8 * (IntKind.u64.wrap (a1))))) != 0)) else (none)) else (ends_Put.j0 k a0 a1 false)) else (ends_Put.j0 k a0 a1 true))) = some (r1, r2) := h
  clear h
  have HC3 := Aside0.mk H
  clear H
  go_enter Try.func19, Try.ntmps19
  go_upto_region 1 with (fail)
  go_cut [22] (fun v22 wc => ∃ (kq : Nat) (x22_2 : Bool), v22 = .bool x22_2 ∧ Aside0 (ends_Put.j0 kq a0 a1 x22_2 = some (r1, r2)) ∧ Aside0 (kq ≤ k) ∧ Aside0 (Below w.heap.size w wc))
  case first =>
    have H := HC3.out
    clear HC3
    replace H := Option.bind_eq_some_iff.mp H
    obtain ⟨t147, A40, H⟩ := H
    replace H : (if t147 = true then (if a1 < 4 then (if 0 ≤ (IntKind.u64.wrap (8 * (IntKind.u64.wrap (a1)))) then (ends_Put.j0 k a0 a1 ((shr .u32 a0 (IntKind.u64.wrap (8 * (IntKind.u64.wrap (a1))))) != 0)) else (none)) else (ends_Put.j0 k a0 a1 false)) else (ends_Put.j0 k a0 a1 true)) = some (r1, r2) := H
    have A4 := Aside0.mk A40
    clear A40
    by_cases c5 : t147 = true
    · subst c5
      have H1 : (if a1 < 4 then (if 0 ≤ (IntKind.u64.wrap (8 * (IntKind.u64.wrap (a1)))) then (ends_Put.j0 k a0 a1 ((shr .u32 a0 (IntKind.u64.wrap (8 * (IntKind.u64.wrap (a1))))) != 0)) else (none)) else (ends_Put.j0 k a0 a1 false)) = some (r1, r2) := by rw [if_pos rfl] at H; exact H
      clear H
      have H := H1
      clear H1
      by_cases c6 : a1 < 4
      · rw [if_pos c6] at H
        have c6b0 : decide (a1 < 4) = true := decide_eq_true c6
        clear c6
        (first | rw [c6b0] | (simp only [i64_w, i32_w]; rw [c6b0]) | skip)
        obtain ⟨ji7, hji7⟩ : ∃ j_ : Int, (IntKind.u64.wrap (8 * (IntKind.u64.wrap (a1)))) = j_ := ⟨_, rfl⟩
        replace H : (if 0 ≤ (ji7) then (ends_Put.j0 k a0 a1 ((shr .u32 a0 (ji7)) != 0)) else (none)) = some (r1, r2) := by first | (rw [hji7] at H; exact H) | (simp only [hji7] at H ⊢; exact H)
        (try rw [hji7] at A4)
        by_cases c8 : 0 ≤ (ji7)
        · rw [if_pos c8] at H
          have c8b0 := eq_true c8
          have c8b1 : decide (0 ≤ (ji7)) = true := decide_eq_true c8
          clear c8
          obtain ⟨ji9, hji9⟩ : ∃ j_ : Int, (shr .u32 a0 (ji7)) = j_ := ⟨_, rfl⟩
          replace H : (ends_Put.j0 k a0 a1 ((ji9) != 0)) = some (r1, r2) := by first | (rw [hji9] at H; exact H) | (simp only [hji9] at H ⊢; exact H)
          (try rw [hji9] at A4)
          have hji9_ : (a0 / 2 ^ min (ji7).toNat 32) = ji9 := hji9
          have hji9z : (ji7) ≤ 32 → (a0 / 2 ^ (ji7).toNat) = ji9 := shr_small hji9
          have H' := Aside0.mk H
          clear H
          go_wp2_with (first | ((with_reducible refine gate_callee (f := 25) rfl ?_); refine goesL_ (some 9) rfl rfl Try.func25 (by kernel_rfl) rfl #[.int .i64 a1] rfl (by (try simp only [List.map_toArray, List.map_cons, List.map_nil]); first | done | rfl | (simp only [List.length_drop, List.length_take]; rfl)) ?_; (with_reducible refine (ends_may.calls a1 true _ A4.out).mono ?_); rintro e w' ⟨rfl, ⟨nd, rfl⟩⟩; refine ⟨_, rfl, ?_⟩))
          go_meet
          case rel => exact ⟨_, (((ji9) != 0)), (by first | rfl | (simp; done) | (simp only [← hji9] <;> (first | rfl | simp)) | (simp [*]; done)), H', ⟨by first | omega | exact Nat.le_refl _⟩, ⟨by repeat (first | (with_reducible first | exact HB.out | apply below_alloc | apply pw_below_drewN | apply below_drew1) | exact HB.out)⟩⟩
        · rw [if_neg c8] at H
          exact absurd H (by simp)
      · rw [if_neg c6] at H
        have c6b0 : decide (a1 < 4) = false := decide_eq_false c6
        clear c6
        (first | rw [c6b0] | (simp only [i64_w, i32_w]; rw [c6b0]) | skip)
        have H' := Aside0.mk H
        clear H
        go_wp2_with (first | ((with_reducible refine gate_callee (f := 25) rfl ?_); refine goesL_ (some 9) rfl rfl Try.func25 (by kernel_rfl) rfl #[.int .i64 a1] rfl (by (try simp only [List.map_toArray, List.map_cons, List.map_nil]); first | done | rfl | (simp only [List.length_drop, List.length_take]; rfl)) ?_; (with_reducible refine (ends_may.calls a1 true _ A4.out).mono ?_); rintro e w' ⟨rfl, ⟨nd, rfl⟩⟩; refine ⟨_, rfl, ?_⟩))
        go_meet
        case rel => exact ⟨_, (false), (by first | rfl | (simp; done) | (simp [*]; done)), H', ⟨by first | omega | exact Nat.le_refl _⟩, ⟨by repeat (first | (with_reducible first | exact HB.out | apply below_alloc | apply pw_below_drewN | apply below_drew1) | exact HB.out)⟩⟩
    · replace c5 := Bool.eq_false_iff.mpr c5
      subst c5
      have H1 : (ends_Put.j0 k a0 a1 true) = some (r1, r2) := by rw [if_neg (show ¬ (false = true) by decide)] at H; exact H
      clear H
      have H := H1
      clear H1
      have H' := Aside0.mk H
      clear H
      go_wp2_with (first | ((with_reducible refine gate_callee (f := 25) rfl ?_); refine goesL_ (some 9) rfl rfl Try.func25 (by kernel_rfl) rfl #[.int .i64 a1] rfl (by (try simp only [List.map_toArray, List.map_cons, List.map_nil]); first | done | rfl | (simp only [List.length_drop, List.length_take]; rfl)) ?_; (with_reducible refine (ends_may.calls a1 false _ A4.out).mono ?_); rintro e w' ⟨rfl, ⟨nd, rfl⟩⟩; refine ⟨_, rfl, ?_⟩))
      go_meet
      case rel => exact ⟨_, (true), (by first | rfl | (simp; done) | (simp [*]; done)), H', ⟨by first | omega | exact Nat.le_refl _⟩, ⟨by repeat (first | (with_reducible first | exact HB.out | apply below_alloc | apply pw_below_drewN | apply below_drew1) | exact HB.out)⟩⟩
  case rest =>
    clear HC3
    try clear c1
    try clear c2
    try clear p2
    try clear c5
    try clear c6
    try clear c6b0
    try clear c8
    try clear c8b0
    try clear c8b1
    obtain ⟨kq, x22_2, rfl, HA, HJ2, HB⟩ := hcut
    cases kq with
    | zero => exact absurd HA.out (by simp [ends_Put.j0])
    | succ kj2 =>
      have H := HA.out
      clear HA
      simp only [ends_Put.j0] at H
      by_cases c10 : x22_2 = true
      · subst c10
        have H1 : (some (([] : List Int), 2)) = some (r1, r2) := by rw [if_pos rfl] at H; exact H
        clear H
        have H := H1
        clear H1
        simp only [Option.some.injEq, Prod.mk.injEq] at H
        obtain ⟨rfl, rfl⟩ := H
        go_wp2
        go_ret2
        exact ⟨_, by first | rfl | (simp [errW_none, errW_some] <;> rfl) | (simp [*, errW_none, errW_some] <;> rfl), by first | exact Kd.R_nil _ _ _ _ _ | exact Kd.N_nil _ _ _ _ _ | exact Kd.V_nil _ _ _ _ _ | exact Kd.Q_nil _ _ _ _ _ | exact Kd.S_nil _ _ _ _ _, by repeat (first | (with_reducible first | exact HB.out | apply below_alloc | apply pw_below_drewN | apply below_drew1) | exact HB.out)⟩
      · replace c10 := Bool.eq_false_iff.mpr c10
        subst c10
        have H1 : (if 0 ≤ a1 then (if (a1 : Int).toNat ≤ 281474976710656 then (ends_Put.l0 kj2 a0 (List.replicate (a1 : Int).toNat 0) (wrap64 (a1 - 1))) else (none)) else (none)) = some (r1, r2) := by rw [if_neg (show ¬ (false = true) by decide)] at H; exact H
        clear H
        have H := H1
        clear H1
        by_cases c11 : 0 ≤ a1
        · rw [if_pos c11] at H
          have c11b0 := eq_true c11
          have c11b1 : decide (0 ≤ a1) = true := decide_eq_true c11
          clear c11
          by_cases c12 : (a1 : Int).toNat ≤ 281474976710656
          · rw [if_pos c12] at H
            have c12b0 := eq_true c12
            have c12b1 : decide ((a1 : Int).toNat ≤ 281474976710656) = true := decide_eq_true c12
            clear c12
            obtain ⟨y148, hy148⟩ : ∃ y_ : List Int, y_ = (List.replicate (a1 : Int).toNat 0) := ⟨_, rfl⟩
            replace H : (ends_Put.l0 kj2 a0 y148 (wrap64 (a1 - 1))) = some (r1, r2) := by first | (rw [hy148]; with_reducible exact H) | (have H2_ := (Option.bind_some _ _).symm.trans H; rw [hy148]; with_reducible exact H2_) | (have H2_ := (Option.bind_some _ _).symm.trans H; with_reducible exact H2_) | with_reducible exact H | (rw [hy148]; exact H) | exact H
            have Ny148 := Aside0.mk hy148
            clear hy148
            have H' := Aside0.mk H
            clear H
            go_wp2_with (first | ((with_reducible refine gate_dst (N := 24) rfl ?_); refine Kd.R_make (Kd.int .u8) _ 5 rfl (N := 24) rfl 31 _ _ rfl a1 rfl rfl Try.underlying31 (.int .u8 0) 1 info5 rfl (by decide) (by omega) 0 (ok := fun _ => True) (okp := fun _ => True) rfl (fun _ hk => hk) trivial (of_decide_eq_true (by first | (with_reducible assumption) | assumption)) (Nat.le_trans (Nat.mul_le_mul_right _ (of_decide_eq_true (by first | (with_reducible assumption) | assumption) : a1.toNat ≤ 281474976710656)) (by omega)) (Below.refl _ _) (Nat.le_refl _) ?_; intro v149 w13 ho14 hb hg_ hnew_; clear hg_ hnew_; (first | rw [← Ny148.out] at ho14 | (simp only [Int.reduceToNat] at ho14; rw [← Ny148.out] at ho14)); have n0_ := Aside0.mk (Kd.R_lower ho14 (below_size (by repeat (first | (with_reducible first | exact HB.out | apply below_alloc | apply pw_below_drewN | apply below_drew1) | exact HB.out)))); have n1_ := Aside0.mk (below_step (by repeat (first | (with_reducible first | exact HB.out | apply below_alloc | apply pw_below_drewN | apply below_drew1) | exact HB.out)) hb); clear HB; have HO150 := n0_; have HB := n1_; clear n0_ n1_; clear hb ho14))
            go_loopg [0, 7] kj2 (fun kq v0 v7 w' => ∃ (x0_2 : Int) (x6_2 : List Int) (x7_2 : Int), v0 = .int .u32 x0_2 ∧ v7 = .int .i64 x7_2 ∧ Aside0 (ends_Put.l0 kq x0_2 x6_2 x7_2 = some (r1, r2)) ∧ Aside0 (kq ≤ kj2) ∧ Aside0 (Kd.R (Kd.int .u8) 5 w' w.heap.size (fun _ => True) v149 x6_2) ∧ Aside0 (Below w.heap.size w w'))
            case atStart => exact ⟨(a0), (y148), (wrap64 (a1 - 1)), (by first | rfl | (simp; done) | (simp [*]; done)), (by first | rfl | (simp; done) | (simp [*]; done)), H', ⟨Nat.le_refl _⟩, ⟨by (with_reducible repeat (first | apply Kd.R_alloc | apply Kd.R_drewN | apply Kd.R_drew)); exact HO150.out⟩, ⟨by repeat (first | (with_reducible first | exact HB.out | apply below_alloc | apply pw_below_drewN | apply below_drew1) | exact HB.out)⟩⟩
            case round =>
              clear H'
              try clear c1
              try clear c2
              try clear p2
              try clear c5
              try clear c6
              try clear c6b0
              try clear p6
              try clear c8
              try clear c8b0
              try clear c8b1
              try clear c10
              try clear c11
              try clear c11b0
              try clear c11b1
              try clear c12
              try clear c12b0
              try clear c12b1
              try clear p2
              obtain ⟨x0_2, x6_2, x7_2, rfl, rfl, HA, HK2, HO_6, HB⟩ := hrel
              cases gk with
              | zero => exact absurd HA.out (by simp [ends_Put.l0])
              | succ k2 =>
                have H := HA.out
                clear HA
                simp only [ends_Put.l0] at H
                by_cases c15 : x7_2 ≥ 0
                · rw [if_pos c15] at H
                  have c15b0 : decide (0 ≤ x7_2) = true := decide_eq_true c15
                  clear c15
                  by_cases c16 : 0 ≤ x7_2
                  · rw [if_pos c16] at H
                    have c16b0 : decide (0 ≤ x7_2) = true := decide_eq_true c16
                    clear c16
                    by_cases c17 : x7_2 < (x6_2.length : Int)
                    · rw [if_pos c17] at H
                      have c17b0 : decide (x7_2 < (x6_2.length : Int)) = true := decide_eq_true c17
                      clear c17
                      obtain ⟨y151, hy151⟩ : ∃ y_ : List Int, y_ = (x6_2.set (x7_2 : Int).toNat ((x0_2) % 256)) := ⟨_, rfl⟩
                      replace H : (ends_Put.l0 k2 (x0_2 / 256) y151 (wrap64 (x7_2 - 1))) = some (r1, r2) := by first | (rw [hy151]; with_reducible exact H) | (have H2_ := (Option.bind_some _ _).symm.trans H; rw [hy151]; with_reducible exact H2_) | (have H2_ := (Option.bind_some _ _).symm.trans H; with_reducible exact H2_) | with_reducible exact H | (rw [hy151]; exact H) | exact H
                      have Ny151 := Aside0.mk hy151
                      clear hy151
                      have H' := Aside0.mk H
                      clear H
                      have p18 : 0 ≤ (x7_2 : Int) := of_decide_eq_true (by first | (with_reducible assumption) | assumption)
                      have q18 : (x7_2 : Int) < ((x6_2.length : Int) : Int) := of_decide_eq_true (by first | (with_reducible assumption) | assumption)
                      obtain ⟨go18, co18, eo18, gb18, gl18, cl18, HG18⟩ := Kd.R_form HO_6.out (by omega)
                      (first | cases eo18 | (injection eo18 with ea_ en_ ec_; (first | subst ea_ | (injection ea_ with ea_; subst ea_)); subst ec_; clear en_))
                      have GB18 := Aside0.mk gb18
                      have GG18 := Aside0.mk HG18
                      clear gb18 gl18 HG18
                      obtain ⟨hx18_0, hf18_0⟩ := Kd.R_celln 0 HO_6.out (x7_2 : Int) p18 q18
                      replace p18 := eq_true p18
                      replace q18 := eq_true q18
                      have HP19 := Kd.R_putg HO_6.out (x7_2 : Int) ((x0_2) % 256)
                      go_wp2_with (first | ((with_reducible refine gate_store (t := 5) (p := 35) rfl ?_); refine store_event (t := 5) (p := 35) (v := ?vo_w20) (w1 := (wr.setCell ⟨go18, (x7_2 : Int).toNat, none⟩ (.int .u8 ((x0_2) % 256)))) ?hg ?ho ?hn ?hr ?_; (case ho => rfl); (case hg => rfl); (case hn => rfl); (case hr => first | (go_simp; done) | (go_simp; rfl)); intro w20 hw; have hg : wr.grownBy w20 (some go18) := (by rw [hw]; exact HP19.2); have hp_ : Kd.R (Kd.int .u8) 5 w20 w.heap.size (fun _ => True) (.slice (some ⟨go18, 0, none⟩) x6_2.length co18) y151 := (by rw [hw, Ny151.out]; exact HP19.1); clear HP19; have n0_ := Aside0.mk (hp_); have n1_ := Aside0.mk ((by rw [hw]; exact below_set (HB.out) GB18.out : Below w.heap.size w w20)); clear HO_6; clear HB; have HO_6 := n0_; have HB := n1_; clear n0_ n1_; clear hg hw hp_))
                      go_roundg k2
                      case measure => have := HJ2.out; have := HK2.out; omega
                      case rel => exact ⟨(x0_2 / 256), (y151), (wrap64 (x7_2 - 1)), (by first | rfl | (simp; done) | (simp [*]; done)), (by first | rfl | (simp; done) | (simp [*]; done)), H', ⟨by have := HJ2.out; have := HK2.out; omega⟩, ⟨by (with_reducible repeat (first | apply Kd.R_alloc | apply Kd.R_drewN | apply Kd.R_drew)); exact HO_6.out⟩, ⟨by repeat (first | (with_reducible first | exact HB.out | apply below_alloc | apply pw_below_drewN | apply below_drew1) | exact HB.out)⟩⟩
                    · rw [if_neg c17] at H
                      exact absurd H (by simp)
                  · rw [if_neg c16] at H
                    exact absurd H (by simp)
                · rw [if_neg c15] at H
                  have c15b0 : decide (0 ≤ x7_2) = false := decide_eq_false c15
                  clear c15
                  simp only [Option.some.injEq, Prod.mk.injEq] at H
                  obtain ⟨rfl, rfl⟩ := H
                  go_wp2
                  go_ret2
                  exact ⟨_, by first | rfl | (simp [errW_none, errW_some] <;> rfl) | (simp [*, errW_none, errW_some] <;> rfl), by (with_reducible repeat (first | apply Kd.R_alloc | apply Kd.R_drewN | apply Kd.R_drew)); exact HO_6.out, by repeat (first | (with_reducible first | exact HB.out | apply below_alloc | apply pw_below_drewN | apply below_drew1) | exact HB.out)⟩
          · rw [if_neg c12] at H
            exact absurd H (by simp)
        · rw [if_neg c11] at H
          exact absurd H (by simp)

/-! ### pool_Put: function 12 -/
def pool_same (d e : S43) : Bool := d.f0 == e.f0 && d.f1 == e.f1 && d.f2 == e.f2 && d.f3 == e.f3 && d.f4 == e.f4 && d.f5 == e.f5 && d.f6 == e.f6
def pool_Put.all : List (S43) → List Int → List Int × Int
  | [], acc => (acc, 0)
  | e :: r, acc => if (pool_dec (pool_enc e).1 (pool_enc e).2.1 (pool_enc e).2.2.1 (pool_enc e).2.2.2).2 = true ∧ pool_same (pool_dec (pool_enc e).1 (pool_enc e).2.1 (pool_enc e).2.2.1 (pool_enc e).2.2.2).1 e = true then pool_Put.all r (acc ++ [(pool_enc e).1, (pool_enc e).2.1, (pool_enc e).2.2.1, (pool_enc e).2.2.2]) else ([], 2)
def pool_Put.f (_k : Nat) (l0 : List (S43)) : Option (List Int × Int) := if l0.length ≤ 14073748835532 then (if (pool_Put.all l0 []).2 = 0 then (if l0.length > 255 then some ([], 3) else (ends_Put.f 20 ((l0.length : Int) % 4294967296) 2).bind fun t => if t.1.length ≤ 8 then some (t.1 ++ (pool_Put.all l0 []).1, 0) else none) else some ([], (pool_Put.all l0 []).2)) else none
theorem pool_Put.mono : ∀ a0 k, LeO (pool_Put.f k a0) (pool_Put.f (k + 1) a0) := by
  intro a0 k
  unfold pool_Put.f
  repeat' first
      | (with_reducible exact ends_Put.mono _ _ _)
      | (with_reducible exact pool_laid.mono _ _)
      | (with_reducible exact LeO.refl _)
      | (with_reducible exact LeO.none _)
      | (with_reducible refine LeO.ite ?_ ?_)
      | (with_reducible refine LeO.bind ?_ (fun _ => ?_))
      | exact ends_Put.mono _ _ _
      | exact pool_laid.mono _ _
      | exact LeO.none _
      | refine LeO.ite ?_ ?_
      | refine LeO.bind ?_ (fun _ => ?_)
set_option maxHeartbeats 8000000 in
set_option maxRecDepth 100000 in
theorem pool_Put.calls (k : Nat) (A0 : Option Addr) (c0 : Nat) (l0 : List (S43)) (r1 : List Int) (r2 : Int) (w : World) (hr0 : Kd.C k43 w A0 l0.length l0) (hc0 : l0.length ≤ c0) (h : pool_Put.f k l0 = some (r1, r2)) :
    Calls Try.prog 12 #[.slice A0 l0.length c0] w fun e w' => ∃ v0_ : Value, e = .returned (.tuple #[v0_, .int .i64 r2]) ∧ Kd.R (Kd.int .u8) 5 w' w.heap.size (fun _ => True) v0_ r1 ∧ Below w.heap.size w w' := by
  have HR0 := Aside0.mk hr0
  have HC0 := Aside0.mk hc0
  clear hr0 hc0
  have HB := Aside0.mk (Below.refl w.heap.size w)
  have hu44 := Try.underlying44
  have hu43 := Try.underlying43
  have hu30 := Try.underlying30
  unfold pool_Put.f at h
  by_cases hlen : l0.length ≤ 14073748835532
  · rw [if_pos hlen] at h
    have HL := Aside0.mk hlen
    clear hlen
    obtain ⟨R, hR⟩ : ∃ R_ : List Int × Int, R_ = pool_Put.all l0 [] := ⟨_, rfl⟩
    rw [← hR] at h
    have HRR := Aside0.mk hR
    have H0 := Aside0.mk h
    clear h hR
    go_enter Try.func12, Try.ntmps12
    go_wp2
    go_loopg [4, 14] l0.length (fun kq v4 v14 w' => ∃ (acc : List Int) (x14 : Int), v14 = .int .i64 x14 ∧ Aside0 (0 ≤ x14 ∧ (kq : Int) + x14 = l0.length ∧ (acc.length : Int) = 4 * x14) ∧ Aside0 (pool_Put.all (l0.drop x14.toNat) acc = R) ∧ Aside0 (Kd.R (Kd.int .u8) 5 w' w.heap.size (fun _ => True) v4 acc) ∧ Aside0 (Below w.heap.size w w'))
    case atStart => exact ⟨[], 0, rfl, ⟨by simp⟩, ⟨HRR.out.symm⟩, ⟨Kd.R_nil _ _ _ _ _⟩, ⟨by repeat (first | (with_reducible first | exact HB.out | apply below_alloc | apply pw_below_drewN | apply below_drew1) | exact HB.out)⟩⟩
    case round =>
      clear HB
      obtain ⟨acc, x14, rfl, HN, HA, HO4, HB⟩ := hrel
      by_cases c4 : x14 < (l0.length : Int)
      · have c4b0 : decide (x14 < (l0.length : Int)) = true := decide_eq_true c4
        have p4 : 0 ≤ x14 := HN.out.1
        obtain ⟨ad, e0_, hx0, hx1, hx2, hx3, hx4, hx5, hx6⟩ := at_T43 (Kd.C_below HR0.out HB.out) x14 p4 c4
        cases e0_
        have C4 := Aside0.mk c4
        have q4 := eq_true c4
        replace p4 := eq_true p4
        clear c4
        cases gk with
        | zero => exact absurd HN.out (by have := C4.out; omega)
        | succ k1 =>
        have hd_ : l0.drop x14.toNat = (rd_T43 l0 x14) :: l0.drop (x14.toNat + 1) := by
          have h1_ := C4.out
          have h2_ := HN.out
          rw [List.drop_eq_getElem_cons (by omega)]
          congr 1
          simp only [rd_T43]
          rw [List.getD_eq_getElem?_getD, List.getElem?_eq_getElem (by omega), Option.getD_some]
        have h := HA.out
        rw [hd_] at h
        unfold pool_Put.all at h
        clear HA hd_
        obtain ⟨e_, he_⟩ : ∃ s_ : S43, s_ = (rd_T43 l0 x14) := ⟨_, rfl⟩
        rw [← he_] at h hx0 hx1 hx2 hx3 hx4 hx5 hx6
        clear he_
        obtain ⟨⟨b0, b1, b2, b3⟩, hb_⟩ : ∃ q_ : Int × Int × Int × Int, q_ = pool_enc e_ := ⟨_, rfl⟩
        rw [← hb_] at h
        obtain ⟨⟨d_, db⟩, hd_⟩ : ∃ q_ : S43 × Bool, q_ = pool_dec b0 b1 b2 b3 := ⟨_, rfl⟩
        simp only [← hd_] at h
        have HBB := Aside0.mk hb_
        have HDD := Aside0.mk hd_
        have H' := Aside0.mk h
        have hw_ : wrap64 (x14 + 1) = x14 + 1 := by
          have := HL.out
          have := HN.out
          unfold wrap64
          omega
        have HWW := Aside0.mk hw_
        clear h hb_ hd_ hw_
        go_upto_region 5 with (fail)
        obtain ⟨w5, hw5⟩ : ∃ w_ : World, w_ = wr.alloc (.cells #[.int .u8 e_.f0, .int .u16 e_.f1, .int .u8 e_.f2, .bool e_.f3, .int .u16 e_.f4, .int .u8 e_.f5, .int .u8 e_.f6] 43) := ⟨_, rfl⟩
        obtain ⟨g6, hg6⟩ : ∃ g_ : Nat, g_ = wr.heap.size := ⟨_, rfl⟩
        rw [← hw5, ← hg6]
        have B6 := Aside0.mk (show w5.heap[g6]? = some (.cells #[.int .u8 e_.f0, .int .u16 e_.f1, .int .u8 e_.f2, .bool e_.f3, .int .u16 e_.f4, .int .u8 e_.f5, .int .u8 e_.f6] 43 (0, 0)) by rw [hw5, hg6]; exact blk_new _ _)
        have n0_ := Aside0.mk (show Kd.R (Kd.int .u8) 5 w5 w.heap.size (fun _ => True) _ acc by rw [hw5]; exact Kd.R_alloc HO4.out _)
        have n1_ := Aside0.mk (show Below w.heap.size w w5 by rw [hw5]; exact below_alloc HB.out _)
        clear HO4 HB hw5 hg6 hx0 hx1 hx2 hx3 hx4 hx5 hx6 p4 q4
        have HO4 := n0_
        have HB := n1_
        clear n0_ n1_
        have a0 : w5.cell? ⟨g6, 0, none⟩ = some (.int .u8 e_.f0) := (blk_cell B6.out 0).trans rfl
        have a1 : w5.cell? ⟨g6, 1, none⟩ = some (.int .u16 e_.f1) := (blk_cell B6.out 1).trans rfl
        have a2 : w5.cell? ⟨g6, 2, none⟩ = some (.int .u8 e_.f2) := (blk_cell B6.out 2).trans rfl
        have a3 : w5.cell? ⟨g6, 3, none⟩ = some (.bool e_.f3) := (blk_cell B6.out 3).trans rfl
        have a4 : w5.cell? ⟨g6, 4, none⟩ = some (.int .u16 e_.f4) := (blk_cell B6.out 4).trans rfl
        have a5 : w5.cell? ⟨g6, 5, none⟩ = some (.int .u8 e_.f5) := (blk_cell B6.out 5).trans rfl
        have a6 : w5.cell? ⟨g6, 6, none⟩ = some (.int .u8 e_.f6) := (blk_cell B6.out 6).trans rfl
        go_upto_region 6 with (first | (go_at_call 17; (with_reducible refine (pool_bytes.calls e_ _).mono ?_); rintro e w6 ⟨rfl, hb⟩; rw [← HBB.out]; have n0_ := Aside0.mk (Kd.R_below HO4.out hb); have n2_ := Aside0.mk (blk_below B6.out hb); have n1_ := Aside0.mk (below_step (by repeat (first | (with_reducible first | exact HB.out | apply below_alloc | apply pw_below_drewN | apply below_drew1) | exact HB.out)) hb); clear HB; have HB := n1_; clear n1_; clear HO4 B6 a0 a1 a2 a3 a4 a5 a6; have HO4 := n0_; have B6 := n2_; clear n0_ n2_ hb))
        obtain ⟨w7, hw7⟩ : ∃ w_ : World, w_ = w6.alloc (.cells #[.int .u8 b0, .int .u8 b1, .int .u8 b2, .int .u8 b3] 44) := ⟨_, rfl⟩
        obtain ⟨g7, hg7⟩ : ∃ g_ : Nat, g_ = w6.heap.size := ⟨_, rfl⟩
        (try simp only [])
        rw [← hw7, ← hg7]
        have B7 := Aside0.mk (show w7.heap[g7]? = some (.cells #[.int .u8 b0, .int .u8 b1, .int .u8 b2, .int .u8 b3] 44 (0, 0)) by rw [hw7, hg7]; exact blk_new _ _)
        have n2_ := Aside0.mk (show w7.heap[g6]? = some (.cells #[.int .u8 e_.f0, .int .u16 e_.f1, .int .u8 e_.f2, .bool e_.f3, .int .u16 e_.f4, .int .u8 e_.f5, .int .u8 e_.f6] 43 (0, 0)) by rw [hw7]; exact blk_alloc B6.out _)
        have n0_ := Aside0.mk (show Kd.R (Kd.int .u8) 5 w7 w.heap.size (fun _ => True) _ acc by rw [hw7]; exact Kd.R_alloc HO4.out _)
        have n1_ := Aside0.mk (show Below w.heap.size w w7 by rw [hw7]; exact below_alloc HB.out _)
        clear HO4 HB B6 hw7 hg7
        have HO4 := n0_
        have HB := n1_
        have B6 := n2_
        clear n0_ n1_ n2_
        have b_0 : w7.cell? ⟨g7, 0, none⟩ = some (.int .u8 b0) := (blk_cell B7.out 0).trans rfl
        have b_1 : w7.cell? ⟨g7, 1, none⟩ = some (.int .u8 b1) := (blk_cell B7.out 1).trans rfl
        have b_2 : w7.cell? ⟨g7, 2, none⟩ = some (.int .u8 b2) := (blk_cell B7.out 2).trans rfl
        have b_3 : w7.cell? ⟨g7, 3, none⟩ = some (.int .u8 b3) := (blk_cell B7.out 3).trans rfl
        go_upto_region 7 with (first | (go_at_call 18; (with_reducible refine (pool_entry.calls b0 b1 b2 b3 _).mono ?_); rintro e w8 ⟨rfl, hb⟩; rw [← HDD.out]; have n0_ := Aside0.mk (Kd.R_below HO4.out hb); have n2_ := Aside0.mk (blk_below B6.out hb); have n3_ := Aside0.mk (blk_below B7.out hb); have n1_ := Aside0.mk (below_step (by repeat (first | (with_reducible first | exact HB.out | apply below_alloc | apply pw_below_drewN | apply below_drew1) | exact HB.out)) hb); clear HB; have HB := n1_; clear n1_; clear HO4 B6 B7 b_0 b_1 b_2 b_3; have HO4 := n0_; have B6 := n2_; have B7 := n3_; clear n0_ n2_ n3_ hb))
        obtain ⟨w9, hw9⟩ : ∃ w_ : World, w_ = w8.alloc (.cells #[.int .u8 d_.f0, .int .u16 d_.f1, .int .u8 d_.f2, .bool d_.f3, .int .u16 d_.f4, .int .u8 d_.f5, .int .u8 d_.f6] 43) := ⟨_, rfl⟩
        obtain ⟨g8, hg8⟩ : ∃ g_ : Nat, g_ = w8.heap.size := ⟨_, rfl⟩
        (try simp only [])
        rw [← hw9, ← hg8]
        have B8 := Aside0.mk (show w9.heap[g8]? = some (.cells #[.int .u8 d_.f0, .int .u16 d_.f1, .int .u8 d_.f2, .bool d_.f3, .int .u16 d_.f4, .int .u8 d_.f5, .int .u8 d_.f6] 43 (0, 0)) by rw [hw9, hg8]; exact blk_new _ _)
        have n2_ := Aside0.mk (show w9.heap[g6]? = some (.cells #[.int .u8 e_.f0, .int .u16 e_.f1, .int .u8 e_.f2, .bool e_.f3, .int .u16 e_.f4, .int .u8 e_.f5, .int .u8 e_.f6] 43 (0, 0)) by rw [hw9]; exact blk_alloc B6.out _)
        have n3_ := Aside0.mk (show w9.heap[g7]? = some (.cells #[.int .u8 b0, .int .u8 b1, .int .u8 b2, .int .u8 b3] 44 (0, 0)) by rw [hw9]; exact blk_alloc B7.out _)
        have n0_ := Aside0.mk (show Kd.R (Kd.int .u8) 5 w9 w.heap.size (fun _ => True) _ acc by rw [hw9]; exact Kd.R_alloc HO4.out _)
        have n1_ := Aside0.mk (show Below w.heap.size w w9 by rw [hw9]; exact below_alloc HB.out _)
        clear HO4 HB B6 B7 hw9 hg8
        have HO4 := n0_
        have HB := n1_
        have B6 := n2_
        have B7 := n3_
        clear n0_ n1_ n2_ n3_
        have a0 : w9.cell? ⟨g6, 0, none⟩ = some (.int .u8 e_.f0) := (blk_cell B6.out 0).trans rfl
        have a1 : w9.cell? ⟨g6, 1, none⟩ = some (.int .u16 e_.f1) := (blk_cell B6.out 1).trans rfl
        have a2 : w9.cell? ⟨g6, 2, none⟩ = some (.int .u8 e_.f2) := (blk_cell B6.out 2).trans rfl
        have a3 : w9.cell? ⟨g6, 3, none⟩ = some (.bool e_.f3) := (blk_cell B6.out 3).trans rfl
        have a4 : w9.cell? ⟨g6, 4, none⟩ = some (.int .u16 e_.f4) := (blk_cell B6.out 4).trans rfl
        have a5 : w9.cell? ⟨g6, 5, none⟩ = some (.int .u8 e_.f5) := (blk_cell B6.out 5).trans rfl
        have a6 : w9.cell? ⟨g6, 6, none⟩ = some (.int .u8 e_.f6) := (blk_cell B6.out 6).trans rfl
        have d0 : w9.cell? ⟨g8, 0, none⟩ = some (.int .u8 d_.f0) := (blk_cell B8.out 0).trans rfl
        have d1 : w9.cell? ⟨g8, 1, none⟩ = some (.int .u16 d_.f1) := (blk_cell B8.out 1).trans rfl
        have d2 : w9.cell? ⟨g8, 2, none⟩ = some (.int .u8 d_.f2) := (blk_cell B8.out 2).trans rfl
        have d3 : w9.cell? ⟨g8, 3, none⟩ = some (.bool d_.f3) := (blk_cell B8.out 3).trans rfl
        have d4 : w9.cell? ⟨g8, 4, none⟩ = some (.int .u16 d_.f4) := (blk_cell B8.out 4).trans rfl
        have d5 : w9.cell? ⟨g8, 5, none⟩ = some (.int .u8 d_.f5) := (blk_cell B8.out 5).trans rfl
        have d6 : w9.cell? ⟨g8, 6, none⟩ = some (.int .u8 d_.f6) := (blk_cell B8.out 6).trans rfl
        cases db with
        | false =>
          have h := H'.out
          rw [if_neg (by simp)] at h
          have h2_ := H0.out
          rw [← h] at h2_
          rw [if_neg (by decide)] at h2_
          simp only [Option.some.injEq, Prod.mk.injEq] at h2_
          obtain ⟨rfl, rfl⟩ := h2_
          clear H' H0 h HRR HN
          go_wp2
          go_ret2
          exact ⟨_, rfl, Kd.R_nil _ _ _ _ _, HB.out⟩
        | true =>
          by_cases q0 : d_.f0 = e_.f0
          rotate_left
          · have q0b : (d_.f0 == e_.f0) = false := beq_eq_false_iff_ne.mpr q0
            have q0c : (d_.f0 != e_.f0) = true := bne_iff_ne.mpr q0
            have Q_ := Aside0.mk q0
            clear q0
            have h := H'.out
            rw [if_neg (by simp [pool_same, q0b])] at h
            have h2_ := H0.out
            rw [← h] at h2_
            rw [if_neg (by decide)] at h2_
            simp only [Option.some.injEq, Prod.mk.injEq] at h2_
            obtain ⟨rfl, rfl⟩ := h2_
            clear H' H0 h HRR HN
            go_wp2
            go_ret2
            exact ⟨_, rfl, Kd.R_nil _ _ _ _ _, HB.out⟩
          have Q0 := Aside0.mk q0
          clear q0
          by_cases q1 : d_.f1 = e_.f1
          rotate_left
          · have q1b : (d_.f1 == e_.f1) = false := beq_eq_false_iff_ne.mpr q1
            have q1c : (d_.f1 != e_.f1) = true := bne_iff_ne.mpr q1
            have Q_ := Aside0.mk q1
            clear q1
            rw [Q0.out] at d0
            have h := H'.out
            rw [if_neg (by simp [pool_same, q1b])] at h
            have h2_ := H0.out
            rw [← h] at h2_
            rw [if_neg (by decide)] at h2_
            simp only [Option.some.injEq, Prod.mk.injEq] at h2_
            obtain ⟨rfl, rfl⟩ := h2_
            clear H' H0 h HRR HN
            go_wp2
            go_ret2
            exact ⟨_, rfl, Kd.R_nil _ _ _ _ _, HB.out⟩
          have Q1 := Aside0.mk q1
          clear q1
          by_cases q2 : d_.f2 = e_.f2
          rotate_left
          · have q2b : (d_.f2 == e_.f2) = false := beq_eq_false_iff_ne.mpr q2
            have q2c : (d_.f2 != e_.f2) = true := bne_iff_ne.mpr q2
            have Q_ := Aside0.mk q2
            clear q2
            rw [Q0.out] at d0
            rw [Q1.out] at d1
            have h := H'.out
            rw [if_neg (by simp [pool_same, q2b])] at h
            have h2_ := H0.out
            rw [← h] at h2_
            rw [if_neg (by decide)] at h2_
            simp only [Option.some.injEq, Prod.mk.injEq] at h2_
            obtain ⟨rfl, rfl⟩ := h2_
            clear H' H0 h HRR HN
            go_wp2
            go_ret2
            exact ⟨_, rfl, Kd.R_nil _ _ _ _ _, HB.out⟩
          have Q2 := Aside0.mk q2
          clear q2
          by_cases q3 : d_.f3 = e_.f3
          rotate_left
          · have q3b : (d_.f3 == e_.f3) = false := beq_eq_false_iff_ne.mpr q3
            have q3c : (d_.f3 != e_.f3) = true := bne_iff_ne.mpr q3
            have Q_ := Aside0.mk q3
            clear q3
            rw [Q0.out] at d0
            rw [Q1.out] at d1
            rw [Q2.out] at d2
            have h := H'.out
            rw [if_neg (by simp [pool_same, q3b])] at h
            have h2_ := H0.out
            rw [← h] at h2_
            rw [if_neg (by decide)] at h2_
            simp only [Option.some.injEq, Prod.mk.injEq] at h2_
            obtain ⟨rfl, rfl⟩ := h2_
            clear H' H0 h HRR HN
            go_wp2
            go_ret2
            exact ⟨_, rfl, Kd.R_nil _ _ _ _ _, HB.out⟩
          have Q3 := Aside0.mk q3
          clear q3
          by_cases q4 : d_.f4 = e_.f4
          rotate_left
          · have q4b : (d_.f4 == e_.f4) = false := beq_eq_false_iff_ne.mpr q4
            have q4c : (d_.f4 != e_.f4) = true := bne_iff_ne.mpr q4
            have Q_ := Aside0.mk q4
            clear q4
            rw [Q0.out] at d0
            rw [Q1.out] at d1
            rw [Q2.out] at d2
            rw [Q3.out] at d3
            have h := H'.out
            rw [if_neg (by simp [pool_same, q4b])] at h
            have h2_ := H0.out
            rw [← h] at h2_
            rw [if_neg (by decide)] at h2_
            simp only [Option.some.injEq, Prod.mk.injEq] at h2_
            obtain ⟨rfl, rfl⟩ := h2_
            clear H' H0 h HRR HN
            go_wp2
            go_ret2
            exact ⟨_, rfl, Kd.R_nil _ _ _ _ _, HB.out⟩
          have Q4 := Aside0.mk q4
          clear q4
          by_cases q5 : d_.f5 = e_.f5
          rotate_left
          · have q5b : (d_.f5 == e_.f5) = false := beq_eq_false_iff_ne.mpr q5
            have q5c : (d_.f5 != e_.f5) = true := bne_iff_ne.mpr q5
            have Q_ := Aside0.mk q5
            clear q5
            rw [Q0.out] at d0
            rw [Q1.out] at d1
            rw [Q2.out] at d2
            rw [Q3.out] at d3
            rw [Q4.out] at d4
            have h := H'.out
            rw [if_neg (by simp [pool_same, q5b])] at h
            have h2_ := H0.out
            rw [← h] at h2_
            rw [if_neg (by decide)] at h2_
            simp only [Option.some.injEq, Prod.mk.injEq] at h2_
            obtain ⟨rfl, rfl⟩ := h2_
            clear H' H0 h HRR HN
            go_wp2
            go_ret2
            exact ⟨_, rfl, Kd.R_nil _ _ _ _ _, HB.out⟩
          have Q5 := Aside0.mk q5
          clear q5
          by_cases q6 : d_.f6 = e_.f6
          rotate_left
          · have q6b : (d_.f6 == e_.f6) = false := beq_eq_false_iff_ne.mpr q6
            have q6c : (d_.f6 != e_.f6) = true := bne_iff_ne.mpr q6
            have Q_ := Aside0.mk q6
            clear q6
            rw [Q0.out] at d0
            rw [Q1.out] at d1
            rw [Q2.out] at d2
            rw [Q3.out] at d3
            rw [Q4.out] at d4
            rw [Q5.out] at d5
            have h := H'.out
            rw [if_neg (by simp [pool_same, q6b])] at h
            have h2_ := H0.out
            rw [← h] at h2_
            rw [if_neg (by decide)] at h2_
            simp only [Option.some.injEq, Prod.mk.injEq] at h2_
            obtain ⟨rfl, rfl⟩ := h2_
            clear H' H0 h HRR HN
            go_wp2
            go_ret2
            exact ⟨_, rfl, Kd.R_nil _ _ _ _ _, HB.out⟩
          have Q6 := Aside0.mk q6
          clear q6
          rw [Q0.out] at d0
          rw [Q1.out] at d1
          rw [Q2.out] at d2
          rw [Q3.out] at d3
          rw [Q4.out] at d4
          rw [Q5.out] at d5
          rw [Q6.out] at d6
          have h := H'.out
          rw [if_pos (by simp [pool_same, Q0.out, Q1.out, Q2.out, Q3.out, Q4.out, Q5.out, Q6.out])] at h
          have HA := Aside0.mk h
          have HS : Aside0 ((Kd.int .u8).C w9 (some ⟨g7, 0, none⟩) 4 [b0, b1, b2, b3]) := ⟨Kd.C_of_reads (d := 0) (h1 := fun _ => rfl) ⟨rfl, by omega, fun _ => ⟨_, rfl, fun j hj => by
            rw [show (⟨g7, 0, none⟩ : Addr).add j = ⟨g7, j, none⟩ from by simp [Addr.add]; exact fun h => h.symm, blk_cell B7.out j]
            match j, hj with
            | 0, _ => rfl
            | 1, _ => rfl
            | 2, _ => rfl
            | 3, _ => rfl⟩⟩⟩
          clear h H'
          go_wp2_with (first | ((with_reducible refine gate_builtin (b := .append) (xs := #[.tmp 32, .tmp 33]) rfl ?_); at_builtin; refine Kd.R_append_rows (Kd.int .u8) (w0 := w) w.heap.size rfl (.tmp 32) (.tmp 33) 31 5 (.int .u8 0) 1 rfl Try.underlying31 info5 rfl (by decide) (by omega) _ acc [b0, b1, b2, b3] _ _ _ (fun _ => True) (fun _ => False) rfl rfl ?aO ?aR (fun _ _ h => h) (fun _ h => h.elim) ?aF ?aB ?aS ?aL ?_; (case aR => exact HS.out); (case aB => exact HB.out); (case aF => exact (fun _ _ => trivial)); (case aO => exact HO4.out); (case aS => exact (below_size HB.out)); (case aL => have := HN.out; have := HL.out; omega); intro v48 w48 ho hb hg hat; have n0_ := Aside0.mk ho; have n1_ := Aside0.mk hb; clear HO4 HB; have HO4 := n0_; have HB := n1_; clear n0_ n1_ ho hb hg hat))
          go_roundg k1
          case measure => omega
          case rel =>
            refine ⟨acc ++ [b0, b1, b2, b3], x14 + 1, ?_, ⟨?_⟩, ⟨?_⟩, ⟨by (with_reducible repeat (first | apply Kd.R_alloc | apply Kd.R_drewN | apply Kd.R_drew)); exact HO4.out⟩, ⟨by repeat (first | (with_reducible first | exact HB.out | apply below_alloc | apply pw_below_drewN | apply below_drew1) | exact HB.out)⟩⟩
            · first | (rw [HWW.out]; done) | (simp only [HWW.out]; done) | (simp [HWW.out]; done)
            · have := HN.out
              simp only [List.length_append, List.length_cons, List.length_nil]
              omega
            · rw [show (x14 + 1).toNat = x14.toNat + 1 from by have := HN.out; omega]
              exact HA.out
      · have c4b0 : decide (x14 < (l0.length : Int)) = false := decide_eq_false c4
        have h := HA.out
        rw [List.drop_eq_nil_of_le (by have := HN.out; omega)] at h
        unfold pool_Put.all at h
        have h2_ := H0.out
        rw [← h, if_pos rfl] at h2_
        clear h HA H0 HRR c4
        by_cases c5 : l0.length > 255
        · rw [if_pos c5] at h2_
          simp only [Option.some.injEq, Prod.mk.injEq] at h2_
          obtain ⟨rfl, rfl⟩ := h2_
          have c5b0 : decide (255 < (l0.length : Int)) = true := decide_eq_true (by omega)
          have c5b1 : decide (255 < l0.length) = true := decide_eq_true c5
          clear c5
          go_wp2
          go_ret2
          exact ⟨_, rfl, Kd.R_nil _ _ _ _ _, HB.out⟩
        · rw [if_neg c5] at h2_
          have c5b0 : decide (255 < (l0.length : Int)) = false := decide_eq_false (by omega)
          have c5b1 : decide (255 < l0.length) = false := decide_eq_false c5
          obtain ⟨⟨t0, t1⟩, A1, h2_⟩ := Option.bind_eq_some_iff.mp h2_
          replace h2_ : (if t0.length ≤ 8 then some (t0 ++ acc, 0) else none) = some (r1, r2) := h2_
          by_cases ht_ : t0.length ≤ 8
          rotate_left
          · rw [if_neg ht_] at h2_
            cases h2_
          rw [if_pos ht_] at h2_
          have HT := Aside0.mk ht_
          clear ht_
          simp only [Option.some.injEq, Prod.mk.injEq] at h2_
          obtain ⟨hr1_, rfl⟩ := h2_
          have A1_ := Aside0.mk A1
          have HR1 := Aside0.mk hr1_
          have C5 := Aside0.mk c5
          clear A1 hr1_ c5
          obtain ⟨Ao4, co4, eo4⟩ := Kd.R_slice HO4.out
          subst eo4
          go_wp2_with (first | (go_at_call 19; (with_reducible refine (ends_Put.calls 20 ((l0.length : Int) % 4294967296) 2 t0 t1 _ A1_.out).mono ?_); rintro e w50 ⟨v50, rfl, ho0, hb⟩; have n0_ := Aside0.mk (Kd.R_below (by (with_reducible repeat (first | apply Kd.R_alloc | apply Kd.R_drewN | apply Kd.R_drew)); exact HO4.out) hb); have n2_ := Aside0.mk (Kd.R_lower ho0 (below_size (by repeat (first | (with_reducible first | exact HB.out | apply below_alloc | apply pw_below_drewN | apply below_drew1) | exact HB.out)))); have n1_ := Aside0.mk (below_step (by repeat (first | (with_reducible first | exact HB.out | apply below_alloc | apply pw_below_drewN | apply below_drew1) | exact HB.out)) hb); clear HB; have HB := n1_; clear n1_; clear HO4; have HO4 := n0_; have HOn := n2_; clear n0_ n2_ hb ho0) | ((with_reducible refine gate_builtin (b := .append) (xs := #[.tmp 46, .tmp 47]) rfl ?_); at_builtin; refine Kd.R_append_rows (Kd.int .u8) (w0 := w) w.heap.size rfl (.tmp 46) (.tmp 47) 31 5 (.int .u8 0) 1 rfl Try.underlying31 info5 rfl (by decide) (by omega) _ t0 acc _ _ _ (fun _ => True) (fun _ => False) rfl rfl ?aO ?aR (fun _ _ h => h) (fun _ h => h.elim) ?aF ?aB ?aS ?aL ?_; (case aR => exact (Kd.R_reads' HO4.out).2.2); (case aB => exact HB.out); (case aF => exact (fun _ _ => trivial)); (case aO => exact HOn.out); (case aS => exact (below_size HB.out)); (case aL => have h1_ := HT.out; have := HN.out; have := HL.out; omega); intro v48 w48 ho hb hg hat; have n0_ := Aside0.mk ho; have n1_ := Aside0.mk hb; clear HO4 HB HOn; have HO4 := n0_; have HB := n1_; clear n0_ n1_ ho hb hg hat))
          go_ret2
          exact ⟨_, rfl, by rw [← HR1.out]; exact HO4.out, HB.out⟩
  · rw [if_neg hlen] at h
    cases h

/-! ### garderoberef00_Same: function 14 -/
def garderoberef00_Same.l0 : Nat → List Int → List Int → Int → Option (Bool)
  | 0, _, _, _ => none
  | k + 1, x0, x1, x5 => if x5 < (x0.length : Int) then (if 0 ≤ x5 then (if x5 < (x1.length : Int) then (if (rd x0 x5) = (rd x1 x5) then (garderoberef00_Same.l0 k x0 x1 (wrap64 (x5 + 1))) else (some false)) else (none)) else (none)) else (some true)
def garderoberef00_Same.f (k : Nat) (l0 : List Int) (l1 : List Int) : Option (Bool) := if (l0.length : Int) = (l1.length : Int) then (garderoberef00_Same.l0 k l0 l1 0) else (some false)
theorem garderoberef00_Same.mono_l : ∀ k, (∀ y0 y1 y2, LeO (garderoberef00_Same.l0 k y0 y1 y2) (garderoberef00_Same.l0 (k + 1) y0 y1 y2))
  | 0 => fun _ _ _ r h => by simp [garderoberef00_Same.l0] at h
  | k + 1 => by
    have ih0 := garderoberef00_Same.mono_l k
    · intro y0 y1 y2
      unfold garderoberef00_Same.l0
      repeat' first
      | (with_reducible exact ih0 _ _ _)
      | (with_reducible exact LeO.refl _)
      | (with_reducible exact LeO.none _)
      | (with_reducible refine LeO.ite ?_ ?_)
      | (with_reducible refine LeO.bind ?_ (fun _ => ?_))
      | exact ih0 _ _ _
      | exact LeO.none _
      | refine LeO.ite ?_ ?_
      | refine LeO.bind ?_ (fun _ => ?_)
theorem garderoberef00_Same.mono : ∀ a0 a1 k, LeO (garderoberef00_Same.f k a0 a1) (garderoberef00_Same.f (k + 1) a0 a1) := by
  intro a0 a1 k
  have ih0 := garderoberef00_Same.mono_l k
  unfold garderoberef00_Same.f
  repeat' first
      | (with_reducible exact ih0 _ _ _)
      | (with_reducible exact LeO.refl _)
      | (with_reducible exact LeO.none _)
      | (with_reducible refine LeO.ite ?_ ?_)
      | (with_reducible refine LeO.bind ?_ (fun _ => ?_))
      | exact ih0 _ _ _
      | exact LeO.none _
      | refine LeO.ite ?_ ?_
      | refine LeO.bind ?_ (fun _ => ?_)
set_option maxHeartbeats 8000000 in
set_option maxRecDepth 100000 in
theorem garderoberef00_Same.calls (k : Nat) (A0 : Option Addr) (c0 : Nat) (l0 : List Int) (A1 : Option Addr) (c1 : Nat) (l1 : List Int) (r : Bool) (w : World) (hr0 : Kd.C (Kd.int .u8) w A0 l0.length l0) (hc0 : l0.length ≤ c0) (hr1 : Kd.C (Kd.int .u8) w A1 l1.length l1) (hc1 : l1.length ≤ c1) (h : garderoberef00_Same.f k l0 l1 = some r) :
    Calls Try.prog 14 #[.slice A0 l0.length c0, .slice A1 l1.length c1] w fun e w' => e = .returned (.bool r) ∧ Drawn0 w w' := by
  have HR0 := Aside0.mk hr0
  have HC0 := Aside0.mk hc0
  clear hr0 hc0
  have HR1 := Aside0.mk hr1
  have HC1 := Aside0.mk hc1
  clear hr1 hc1
  have H : (if (l0.length : Int) = (l1.length : Int) then (garderoberef00_Same.l0 k l0 l1 0) else (some false)) = some r := h
  clear h
  by_cases c3 : (l0.length : Int) = (l1.length : Int)
  · rw [if_pos c3] at H
    have c3b0 : ((l0.length : Int) == (l1.length : Int)) = true := beq_iff_eq.mpr c3
    have c3b1 : ((l0.length : Int) != (l1.length : Int)) = false := bne_eq_false_iff_eq.mpr c3
    have c3b2 : (l0.length == l1.length) = true := by first | simpa using c3 | (simp at c3 ⊢; omega)
    clear c3
    have H' := Aside0.mk H
    clear H
    go_enter Try.func14, Try.ntmps14
    go_wp2
    repeat (go_quiet (fail); try go_wp2)
    go_loopg [5] k (fun kq v5 w' => ∃ (x5_1 : Int), v5 = .int .i64 x5_1 ∧ Aside0 (garderoberef00_Same.l0 kq l0 l1 x5_1 = some r) ∧ Aside0 (kq ≤ k) ∧ Drawn0 w w')
    case atStart => exact ⟨(0), (by first | rfl | (simp; done) | (simp [*]; done)), H', ⟨Nat.le_refl _⟩, by repeat (first | exact Drawn0.refl _ | apply Drawn0.step)⟩
    case round =>
      clear H'
      try clear c1
      try clear p2
      try clear c3
      try clear c3b0
      try clear c3b1
      try clear c3b2
      obtain ⟨x5_1, rfl, HA, HK1, ⟨m1, rfl⟩⟩ := hrel
      cases gk with
      | zero => exact absurd HA.out (by simp [garderoberef00_Same.l0])
      | succ k1 =>
        have H := HA.out
        clear HA
        simp only [garderoberef00_Same.l0] at H
        by_cases c4 : x5_1 < (l0.length : Int)
        · rw [if_pos c4] at H
          have c4b0 : decide (x5_1 < (l0.length : Int)) = true := decide_eq_true c4
          clear c4
          by_cases c5 : 0 ≤ x5_1
          · rw [if_pos c5] at H
            have c5b0 : decide (0 ≤ x5_1) = true := decide_eq_true c5
            clear c5
            by_cases c6 : x5_1 < (l1.length : Int)
            · rw [if_pos c6] at H
              have c6b0 : decide (x5_1 < (l1.length : Int)) = true := decide_eq_true c6
              clear c6
              by_cases c7 : (rd l0 x5_1) = (rd l1 x5_1)
              · rw [if_pos c7] at H
                have c7b0 : ((rd l0 x5_1) == (rd l1 x5_1)) = true := beq_iff_eq.mpr c7
                have c7b1 : ((rd l0 x5_1) != (rd l1 x5_1)) = false := bne_eq_false_iff_eq.mpr c7
                clear c7
                have H' := Aside0.mk H
                clear H
                have p160 : 0 ≤ (x5_1 : Int) := of_decide_eq_true (by first | (with_reducible assumption) | assumption)
                have q160 : x5_1 < (l0.length : Int) := of_decide_eq_true (by first | (with_reducible assumption) | assumption)
                obtain ⟨ad160, e160, hx160_0⟩ := Kd.at_int HR0.out x5_1 p160 q160
                cases e160
                replace p160 := eq_true p160
                replace q160 := eq_true q160
                have p161 : 0 ≤ (x5_1 : Int) := of_decide_eq_true (by first | (with_reducible assumption) | assumption)
                have q161 : x5_1 < (l1.length : Int) := of_decide_eq_true (by first | (with_reducible assumption) | assumption)
                obtain ⟨ad161, e161, hx161_0⟩ := Kd.at_int HR1.out x5_1 p161 q161
                cases e161
                replace p161 := eq_true p161
                replace q161 := eq_true q161
                go_wp2
                repeat (go_quiet (fail); try go_wp2)
                go_roundg k1
                case measure => have := HK1.out; omega
                case rel => exact ⟨(wrap64 (x5_1 + 1)), (by first | rfl | (simp; done) | (simp [*]; done)), H', ⟨by have := HK1.out; omega⟩, by repeat (first | exact Drawn0.refl _ | apply Drawn0.step)⟩
              · rw [if_neg c7] at H
                have c7b0 : ((rd l0 x5_1) == (rd l1 x5_1)) = false := beq_eq_false_iff_ne.mpr c7
                have c7b1 : ((rd l0 x5_1) != (rd l1 x5_1)) = true := bne_iff_ne.mpr c7
                obtain rfl := Option.some.inj H
                have p160 : 0 ≤ (x5_1 : Int) := of_decide_eq_true (by first | (with_reducible assumption) | assumption)
                have q160 : x5_1 < (l0.length : Int) := of_decide_eq_true (by first | (with_reducible assumption) | assumption)
                obtain ⟨ad160, e160, hx160_0⟩ := Kd.at_int HR0.out x5_1 p160 q160
                cases e160
                replace p160 := eq_true p160
                replace q160 := eq_true q160
                have p161 : 0 ≤ (x5_1 : Int) := of_decide_eq_true (by first | (with_reducible assumption) | assumption)
                have q161 : x5_1 < (l1.length : Int) := of_decide_eq_true (by first | (with_reducible assumption) | assumption)
                obtain ⟨ad161, e161, hx161_0⟩ := Kd.at_int HR1.out x5_1 p161 q161
                cases e161
                replace p161 := eq_true p161
                replace q161 := eq_true q161
                go_wp2
                repeat (go_quiet (fail); try go_wp2)
                go_ret
                exact ⟨by first | rfl | (simp; done) | (simp [*]; done), by repeat (first | exact Drawn0.refl _ | apply Drawn0.step)⟩
            · rw [if_neg c6] at H
              exact absurd H (by simp)
          · rw [if_neg c5] at H
            exact absurd H (by simp)
        · rw [if_neg c4] at H
          have c4b0 : decide (x5_1 < (l0.length : Int)) = false := decide_eq_false c4
          clear c4
          obtain rfl := Option.some.inj H
          go_wp2
          repeat (go_quiet (fail); try go_wp2)
          go_ret
          exact ⟨by first | rfl | (simp; done) | (simp [*]; done), by repeat (first | exact Drawn0.refl _ | apply Drawn0.step)⟩
  · rw [if_neg c3] at H
    have c3b0 : ((l0.length : Int) == (l1.length : Int)) = false := beq_eq_false_iff_ne.mpr c3
    have c3b1 : ((l0.length : Int) != (l1.length : Int)) = true := bne_iff_ne.mpr c3
    have c3b2 : (l0.length == l1.length) = false := by first | simpa using c3 | (simp at c3 ⊢; omega)
    obtain rfl := Option.some.inj H
    go_enter Try.func14, Try.ntmps14
    go_wp2
    repeat (go_quiet (fail); try go_wp2)
    go_ret
    exact ⟨by first | rfl | (simp; done) | (simp [*]; done), by repeat (first | exact Drawn0.refl _ | apply Drawn0.step)⟩

/-! ### garderobelaw07_PoolOne: function 6 -/
def garderobelaw07_PoolOne.l0 : Nat → List (S43) → List Int → Int → Bool → List Int → Int → Option (Bool)
  | 0, _, _, _, _, _, _ => none
  | k + 1, x0, x3, x4, x5, x6, x7 => if x7 < (x0.length : Int) then (if 0 ≤ x7 then (if x7 ≤ (wrap64 (x7 + 1)) then (if (wrap64 (x7 + 1)) ≤ (x0.length : Int) then ((pool_Put.f k ((x0.take ((wrap64 (x7 + 1)) : Int).toNat).drop (x7 : Int).toNat)).bind fun bt170 => (if bt170.2 = 0 then (if (bt170.1.length : Int) = 6 then (if 2 ≤ (bt170.1.length : Int) then ((some (bt170.1.drop 2 : List Int)).bind fun y174 => (if x6.length + y174.length < 140737488355328 then (garderobelaw07_PoolOne.l0 k x0 x3 x4 x5 (x6 ++ y174) (wrap64 (x7 + 1))) else (none))) else (none)) else (none)) else (garderobelaw07_PoolOne.l0 k x0 x3 x4 false x6 (wrap64 (x7 + 1))))) else (none)) else (none)) else (none)) else (if x5 = true then (if (x0.length : Int) > 255 then (if x4 = 3 then ((garderobelaw07_works.f k).bind fun t182 => (some t182)) else (none)) else (if x4 = 0 then (if (x3.length : Int) ≥ 2 then (if 2 ≤ (x3.length : Int) then ((garderoberef00_Same.f k (x3.drop 2) x6).bind fun t187 => (if t187 = true then ((garderobelaw07_works.f k).bind fun t188 => (some t188)) else (none))) else (none)) else (none)) else (none))) else (if x4 = 2 then ((garderobelaw07_works.f k).bind fun t181 => (some t181)) else (none)))
def garderobelaw07_PoolOne.f (k : Nat) (l0 : List (S43)) : Option (Bool) := (pool_Put.f k l0).bind fun bt162 => (garderobelaw07_PoolOne.l0 k l0 bt162.1 bt162.2 true ([] : List Int) 0)
theorem garderobelaw07_PoolOne.mono_l : ∀ k, (∀ y0 y1 y2 y3 y4 y5, LeO (garderobelaw07_PoolOne.l0 k y0 y1 y2 y3 y4 y5) (garderobelaw07_PoolOne.l0 (k + 1) y0 y1 y2 y3 y4 y5))
  | 0 => fun _ _ _ _ _ _ r h => by simp [garderobelaw07_PoolOne.l0] at h
  | k + 1 => by
    have ih0 := garderobelaw07_PoolOne.mono_l k
    · intro y0 y1 y2 y3 y4 y5
      unfold garderobelaw07_PoolOne.l0
      repeat' first
      | (with_reducible exact ih0 _ _ _ _ _ _)
      | (with_reducible exact garderobelaw07_works.mono _)
      | (with_reducible exact garderoberef00_Same.mono _ _ _)
      | (with_reducible exact pool_Put.mono _ _)
      | (with_reducible exact LeO.refl _)
      | (with_reducible exact LeO.none _)
      | (with_reducible refine LeO.ite ?_ ?_)
      | (with_reducible refine LeO.bind ?_ (fun _ => ?_))
      | exact ih0 _ _ _ _ _ _
      | exact garderobelaw07_works.mono _
      | exact garderoberef00_Same.mono _ _ _
      | exact pool_Put.mono _ _
      | exact LeO.none _
      | refine LeO.ite ?_ ?_
      | refine LeO.bind ?_ (fun _ => ?_)
theorem garderobelaw07_PoolOne.mono : ∀ a0 k, LeO (garderobelaw07_PoolOne.f k a0) (garderobelaw07_PoolOne.f (k + 1) a0) := by
  intro a0 k
  have ih0 := garderobelaw07_PoolOne.mono_l k
  unfold garderobelaw07_PoolOne.f
  repeat' first
      | (with_reducible exact ih0 _ _ _ _ _ _)
      | (with_reducible exact garderobelaw07_works.mono _)
      | (with_reducible exact garderoberef00_Same.mono _ _ _)
      | (with_reducible exact pool_Put.mono _ _)
      | (with_reducible exact LeO.refl _)
      | (with_reducible exact LeO.none _)
      | (with_reducible refine LeO.ite ?_ ?_)
      | (with_reducible refine LeO.bind ?_ (fun _ => ?_))
      | exact ih0 _ _ _ _ _ _
      | exact garderobelaw07_works.mono _
      | exact garderoberef00_Same.mono _ _ _
      | exact pool_Put.mono _ _
      | exact LeO.none _
      | refine LeO.ite ?_ ?_
      | refine LeO.bind ?_ (fun _ => ?_)
set_option maxHeartbeats 8000000 in
set_option maxRecDepth 100000 in
theorem garderobelaw07_PoolOne.calls (k : Nat) (A0 : Option Addr) (c0 : Nat) (l0 : List (S43)) (r : Bool) (w : World) (hr0 : Kd.C k43 w A0 l0.length l0) (hc0 : l0.length ≤ c0) (h : garderobelaw07_PoolOne.f k l0 = some r) :
    Calls Try.prog 6 #[.slice A0 l0.length c0] w fun e w' => e = .returned (.bool r) ∧ Below w.heap.size w w' := by
  have HR0 := Aside0.mk hr0
  have HC0 := Aside0.mk hc0
  clear hr0 hc0
  have HB := Aside0.mk (Below.refl w.heap.size w)
  have H : ((pool_Put.f k l0).bind fun bt162 => (garderobelaw07_PoolOne.l0 k l0 bt162.1 bt162.2 true ([] : List Int) 0)) = some r := h
  clear h
  replace H := Option.bind_eq_some_iff.mp H
  obtain ⟨⟨t162, t163⟩, A20, H⟩ := H
  replace H : (garderobelaw07_PoolOne.l0 k l0 t162 t163 true ([] : List Int) 0) = some r := H
  have A2 := Aside0.mk A20
  clear A20
  have H' := Aside0.mk H
  clear H
  go_enter Try.func6, Try.ntmps6
  go_wp2_with (first | ((with_reducible refine gate_callee (f := 12) rfl ?_); refine goesL_ (some 12) rfl rfl Try.func12 (by kernel_rfl) rfl #[.slice A0 l0.length c0] rfl (by (try simp only [List.map_toArray, List.map_cons, List.map_nil]); first | done | rfl | (simp only [List.length_drop, List.length_take]; rfl)) ?_; (with_reducible refine (pool_Put.calls k _ _ l0 t162 t163 _ ?side1 ?side2 A2.out).mono ?_); (case side1 => repeat (first | exact HR0.out | (with_reducible refine Kd.C_alloc ?_ _) | (with_reducible refine Kd.C_drewN ?_ _) | (with_reducible refine Kd.C_drew ?_))); (case side2 => exact HC0.out); rintro e w3 ⟨v164, rfl, ho0, hb⟩; refine ⟨_, rfl, ?_⟩; have n0_ := Aside0.mk (Kd.R_lower ho0 (below_size (by repeat (first | (with_reducible first | exact HB.out | apply below_alloc | apply pw_below_drewN | apply below_drew1) | exact HB.out)))); have n1_ := Aside0.mk (below_step (by repeat (first | (with_reducible first | exact HB.out | apply below_alloc | apply pw_below_drewN | apply below_drew1) | exact HB.out)) hb); clear HB; have HO165 := n0_; have HB := n1_; clear n0_ n1_; (try clear hb); (try clear hb2); (try clear hk); (try clear hi); (try clear ho0)))
  go_loopg [5, 6, 7] k (fun kq v5 v6 v7 w' => ∃ (x5_1 : Bool) (x6_1 : List Int) (x7_1 : Int), v5 = .bool x5_1 ∧ v7 = .int .i64 x7_1 ∧ Aside0 (garderobelaw07_PoolOne.l0 kq l0 t162 t163 x5_1 x6_1 x7_1 = some r) ∧ Aside0 (kq ≤ k) ∧ Aside0 (Kd.R (Kd.int .u8) 5 w' w.heap.size (fun k_ => some k_ ≠ (v6 : Value).ownBlock) v164 t162) ∧ Aside0 (Kd.R (Kd.int .u8) 5 w' w.heap.size (fun k_ => some k_ ≠ (v164 : Value).ownBlock) v6 x6_1) ∧ Aside0 (Below w.heap.size w w'))
  case atStart => exact ⟨(true), (([] : List Int)), (0), (by first | rfl | (simp; done) | (simp [*]; done)), (by first | rfl | (simp; done) | (simp [*]; done)), H', ⟨Nat.le_refl _⟩, ⟨by (with_reducible repeat (first | apply Kd.R_alloc | apply Kd.R_drewN | apply Kd.R_drew)); exact Kd.R_mono HO165.out (fun _ hk => (by simp [Value.ownBlock]))⟩, ⟨by first | exact Kd.R_nil _ _ _ _ _ | exact Kd.N_nil _ _ _ _ _ | exact Kd.V_nil _ _ _ _ _ | exact Kd.Q_nil _ _ _ _ _ | exact Kd.S_nil _ _ _ _ _⟩, ⟨by repeat (first | (with_reducible first | exact HB.out | apply below_alloc | apply pw_below_drewN | apply below_drew1) | exact HB.out)⟩⟩
  case round =>
    clear H'
    try clear c1
    try clear p2
    obtain ⟨x5_1, x6_1, x7_1, rfl, rfl, HA, HK1, HO_3, HO_6, HB⟩ := hrel
    cases gk with
    | zero => exact absurd HA.out (by simp [garderobelaw07_PoolOne.l0])
    | succ k1 =>
      have H := HA.out
      clear HA
      simp only [garderobelaw07_PoolOne.l0] at H
      by_cases c4 : x7_1 < (l0.length : Int)
      · rw [if_pos c4] at H
        have c4b0 : decide (x7_1 < (l0.length : Int)) = true := decide_eq_true c4
        clear c4
        by_cases c5 : 0 ≤ x7_1
        · rw [if_pos c5] at H
          have c5b0 := eq_true c5
          have c5b1 : decide (0 ≤ x7_1) = true := decide_eq_true c5
          clear c5
          by_cases c6 : x7_1 ≤ (wrap64 (x7_1 + 1))
          · rw [if_pos c6] at H
            have c6b0 := eq_true c6
            have c6b1 : decide (x7_1 ≤ (wrap64 (x7_1 + 1))) = true := decide_eq_true c6
            by_cases c7 : (wrap64 (x7_1 + 1)) ≤ (l0.length : Int)
            · rw [if_pos c7] at H
              have c7b0 := eq_true c7
              have c7b1 : decide ((wrap64 (x7_1 + 1)) ≤ (l0.length : Int)) = true := decide_eq_true c7
              obtain ⟨y166, hy166⟩ : ∃ y_ : List (S43), y_ = ((l0.take ((wrap64 (x7_1 + 1)) : Int).toNat).drop (x7_1 : Int).toNat) := ⟨_, rfl⟩
              replace H : ((pool_Put.f k1 y166).bind fun bt170 => (if bt170.2 = 0 then (if (bt170.1.length : Int) = 6 then (if 2 ≤ (bt170.1.length : Int) then ((some (bt170.1.drop 2 : List Int)).bind fun y174 => (if x6_1.length + y174.length < 140737488355328 then (garderobelaw07_PoolOne.l0 k1 l0 t162 t163 x5_1 (x6_1 ++ y174) (wrap64 (x7_1 + 1))) else (none))) else (none)) else (none)) else (garderobelaw07_PoolOne.l0 k1 l0 t162 t163 false x6_1 (wrap64 (x7_1 + 1))))) = some r := by first | (rw [hy166]; with_reducible exact H) | (have H2_ := (Option.bind_some _ _).symm.trans H; rw [hy166]; with_reducible exact H2_) | (have H2_ := (Option.bind_some _ _).symm.trans H; with_reducible exact H2_) | with_reducible exact H | (rw [hy166]; exact H) | exact H
              have Ny166 := Aside0.mk hy166
              clear hy166
              replace H := Option.bind_eq_some_iff.mp H
              obtain ⟨⟨t170, t171⟩, A80, H⟩ := H
              replace H : (if t171 = 0 then (if (t170.length : Int) = 6 then (if 2 ≤ (t170.length : Int) then ((some (t170.drop 2 : List Int)).bind fun y174 => (if x6_1.length + y174.length < 140737488355328 then (garderobelaw07_PoolOne.l0 k1 l0 t162 t163 x5_1 (x6_1 ++ y174) (wrap64 (x7_1 + 1))) else (none))) else (none)) else (none)) else (garderobelaw07_PoolOne.l0 k1 l0 t162 t163 false x6_1 (wrap64 (x7_1 + 1)))) = some r := H
              have A8 := Aside0.mk A80
              clear A80
              by_cases c9 : t171 = 0
              · rw [if_pos c9] at H
                have c9b0 : (t171 == 0) = true := beq_iff_eq.mpr c9
                have c9b1 : (t171 != 0) = false := bne_eq_false_iff_eq.mpr c9
                clear c9
                by_cases c10 : (t170.length : Int) = 6
                · rw [if_pos c10] at H
                  have c10b0 : ((t170.length : Int) == 6) = true := beq_iff_eq.mpr c10
                  have c10b1 : ((t170.length : Int) != 6) = false := bne_eq_false_iff_eq.mpr c10
                  clear c10
                  by_cases c11 : 2 ≤ (t170.length : Int)
                  · rw [if_pos c11] at H
                    have c11b0 := eq_true c11
                    have c11b1 : decide (2 ≤ (t170.length : Int)) = true := decide_eq_true c11
                    clear c11
                    obtain ⟨y174, hy174⟩ : ∃ y_ : List Int, y_ = (t170.drop 2) := ⟨_, rfl⟩
                    replace H : (if x6_1.length + y174.length < 140737488355328 then (garderobelaw07_PoolOne.l0 k1 l0 t162 t163 x5_1 (x6_1 ++ y174) (wrap64 (x7_1 + 1))) else (none)) = some r := by first | (rw [hy174]; with_reducible exact H) | (have H2_ := (Option.bind_some _ _).symm.trans H; rw [hy174]; with_reducible exact H2_) | (have H2_ := (Option.bind_some _ _).symm.trans H; with_reducible exact H2_) | with_reducible exact H | (rw [hy174]; exact H) | exact H
                    have Ny174 := Aside0.mk hy174
                    clear hy174
                    by_cases c12 : x6_1.length + y174.length < 140737488355328
                    · rw [if_pos c12] at H
                      have LMc12 := Aside0.mk c12
                      clear c12
                      obtain ⟨y178, hy178⟩ : ∃ y_ : List Int, y_ = (x6_1 ++ y174) := ⟨_, rfl⟩
                      replace H : (garderobelaw07_PoolOne.l0 k1 l0 t162 t163 x5_1 y178 (wrap64 (x7_1 + 1))) = some r := by first | (rw [hy178]; with_reducible exact H) | (have H2_ := (Option.bind_some _ _).symm.trans H; rw [hy178]; with_reducible exact H2_) | (have H2_ := (Option.bind_some _ _).symm.trans H; with_reducible exact H2_) | with_reducible exact H | (rw [hy178]; exact H) | exact H
                      have Ny178 := Aside0.mk hy178
                      clear hy178
                      have H' := Aside0.mk H
                      clear H
                      have q13 : ((wrap64 (x7_1 + 1)) : Int) ≤ ((l0.length : Int) : Int) := of_decide_eq_true (by first | (with_reducible assumption) | assumption)
                      obtain ⟨i013, hi013, _, hsz13, _⟩ := info_parts info43
                      have hroom13 : l0.length ≤ c0 := HC0.out
                      have hC13 : Kd.C k43 _ A0 l0.length l0 := HR0.out
                      have ql13 : (x7_1 : Int) ≤ ((wrap64 (x7_1 + 1)) : Int) := of_decide_eq_true (by first | (with_reducible assumption) | assumption)
                      have q013 : (0 : Int) ≤ (x7_1 : Int) := of_decide_eq_true (by first | (with_reducible assumption) | assumption)
                      have hcut13 := Go.Proofs.YtechlmlokgjlnaaW.Mine.cut_mid3 (P := Try.prog) 30 43 .i64 .i64 .i64 Try.underlying30 hi013 7 hsz13 A0 l0.length c0 x7_1 (wrap64 (x7_1 + 1)) q013 ql13 q13 hroom13
                      have hr13 := Go.Proofs.YtechlmlokgjlnaaW.Mine.C_mid3 (lo := (x7_1 : Int).toNat) (hi := ((wrap64 (x7_1 + 1)) : Int).toNat) hC13 (by omega) (by omega)
                      obtain ⟨A13, hA13⟩ : ∃ A1, A1 = (if ((wrap64 (x7_1 + 1)) : Int).toNat = (x7_1 : Int).toNat then A0 else (A0 : Option Addr).map (·.add ((x7_1 : Int).toNat * 7))) := ⟨_, rfl⟩
                      have hy13 : y166.length = ((wrap64 (x7_1 + 1)) : Int).toNat - (x7_1 : Int).toNat := (by rw [Ny166.out, List.length_drop, List.length_take] <;> omega)
                      rw [show ((l0).take ((wrap64 (x7_1 + 1)) : Int).toNat).drop (x7_1 : Int).toNat = y166 from Ny166.out.symm] at hr13
                      replace hr13 : Kd.C k43 _ A13 y166.length y166 := (by rw [hA13]; exact hr13)
                      rw [← hy13, ← hA13] at hcut13
                      have HR169 := Aside0.mk hr13
                      have HC169 := Aside0.mk (Nat.le_refl y166.length)
                      clear hr13 hC13 hroom13 hi013 hsz13
                      have KY13 := Aside0.mk hy13
                      have KA13 := Aside0.mk hA13
                      clear hy13 hA13
                      replace q13 := eq_true q13
                      go_wp2_with (first | ((with_reducible refine gate_callee (f := 12) rfl ?_); refine goesL_ (some 29) rfl rfl Try.func12 (by kernel_rfl) rfl #[.slice A13 y166.length y166.length] rfl (by (try simp only [List.map_toArray, List.map_cons, List.map_nil]); first | done | rfl | (simp only [List.length_drop, List.length_take]; rfl)) ?_; (with_reducible refine (pool_Put.calls k1 _ _ y166 t170 t171 _ ?side1 ?side2 A8.out).mono ?_); (case side1 => repeat (first | exact (Kd.C_below HR169.out HB.out) | (with_reducible refine Kd.C_alloc ?_ _) | (with_reducible refine Kd.C_drewN ?_ _) | (with_reducible refine Kd.C_drew ?_))); (case side2 => exact HC169.out); rintro e w14 ⟨v172, rfl, ho0, hb⟩; refine ⟨_, rfl, ?_⟩; have n0_ := Aside0.mk (Kd.R_elder' (by (with_reducible repeat (first | apply Kd.R_alloc | apply Kd.R_drewN | apply Kd.R_drew)); exact HO_3.out) (Kd.R_base ho0) hb); have n1_ := Aside0.mk (Kd.R_elder' (by (with_reducible repeat (first | apply Kd.R_alloc | apply Kd.R_drewN | apply Kd.R_drew)); exact HO_6.out) (Kd.R_base ho0) hb); have n2_ := Aside0.mk (Kd.R_lower (Kd.R_new' (Kd.R_new' ho0 (Kd.R_lt (by (with_reducible repeat (first | apply Kd.R_alloc | apply Kd.R_drewN | apply Kd.R_drew)); exact HO_3.out))) (Kd.R_lt (by (with_reducible repeat (first | apply Kd.R_alloc | apply Kd.R_drewN | apply Kd.R_drew)); exact HO_6.out))) (below_size (by repeat (first | (with_reducible first | exact HB.out | apply below_alloc | apply pw_below_drewN | apply below_drew1) | exact HB.out)))); have n3_ := Aside0.mk (below_step (by repeat (first | (with_reducible first | exact HB.out | apply below_alloc | apply pw_below_drewN | apply below_drew1) | exact HB.out)) hb); clear HO_3; clear HO_6; clear HB; have HO_3 := n0_; have HO_6 := n1_; have HO173 := n2_; have HB := n3_; clear n0_ n1_ n2_ n3_; (try clear hb); (try clear hb2); (try clear hk); (try clear hi); (try clear ho0); obtain ⟨Ao15, co15, eo15⟩ := Kd.R_slice HO173.out; subst eo15; have q16 : (2 : Int) ≤ ((t170.length : Int) : Int) := of_decide_eq_true (by first | (with_reducible assumption) | assumption); obtain ⟨i016, hi016, _, hsz16, _⟩ := info_parts info5; have hroom16 : t170.length ≤ co15 := (Kd.R_reads' HO173.out).2.1; have hC16 : Kd.C (Kd.int .u8) _ Ao15 t170.length t170 := (Kd.R_reads' HO173.out).2.2; have hcut16 := cut_from (P := Try.prog) 31 5 .i64 Try.underlying31 hi016 1 hsz16 Ao15 t170.length co15 2 (by omega) q16; have hr16 := Kd.C_drop (m := (2 : Int).toNat) (c := co15) hC16 (by omega) hroom16; obtain ⟨A16, hA16⟩ : ∃ A1, A1 = (if co15 = (2 : Int).toNat then Ao15 else (Ao15 : Option Addr).map (·.add ((2 : Int).toNat * 1))) := ⟨_, rfl⟩; obtain ⟨c16, hc16⟩ : ∃ c1, c1 = co15 - (2 : Int).toNat := ⟨_, rfl⟩; have hy16 : y174.length = t170.length - (2 : Int).toNat := (by rw [Ny174.out, List.length_drop] <;> omega); rw [show (t170).drop (2 : Int).toNat = y174 from Ny174.out.symm] at hr16; replace hr16 : Kd.C (Kd.int .u8) _ A16 y174.length y174 := (by rw [hA16]; exact hr16); rw [← hy16, ← hA16, ← hc16] at hcut16; have HR177 := Aside0.mk hr16; have HC177 := Aside0.mk (show y174.length ≤ c16 from by rw [hy16, hc16]; exact Nat.sub_le_sub_right hroom16 _); clear hr16 hC16 hroom16 hi016 hsz16 hc16; have KY16 := Aside0.mk hy16; have KA16 := Aside0.mk hA16; clear hy16 hA16; have KL16 := Aside0.mk (show 2 ≤ t170.length from by omega); replace q16 := eq_true q16) | ((with_reducible refine gate_builtin (b := .append) (xs := #[.tmp 37, .tmp 39]) rfl ?_); (try (refine gate_guard (by rfl) ?_; dsimp only)); at_builtin; refine Kd.R_append_rows (Kd.int .u8) (w0 := w) w.heap.size rfl (.tmp 37) (.tmp 39) 31 5 (.int .u8 0) 1 rfl Try.underlying31 info5 rfl (by decide) (by omega) u6 x6_1 y174 _ _ _ (fun k_ => some k_ ≠ (v164 : Value).ownBlock ∧ some k_ ≠ (.slice Ao15 t170.length co15 : Value).ownBlock) (fun _ => False) rfl rfl ?aO ?aR (fun _ _ h => h) (fun _ h => h.elim) ?aF ?aB ?aS ?aL ?_; (case aR => repeat (first | exact (by repeat (first | (with_reducible exact HR177.out) | (with_reducible refine Kd.C_alloc ?_ _) | (with_reducible refine Kd.C_drewN ?_ _) | (with_reducible refine Kd.C_drew ?_) | exact HR177.out)) | (with_reducible refine Kd.C_alloc ?_ _) | (with_reducible refine Kd.C_drewN ?_ _) | (with_reducible refine Kd.C_drew ?_))); (case aB => exact (by repeat (first | (with_reducible first | exact HB.out | apply below_alloc | apply pw_below_drewN | apply below_drew1) | exact HB.out))); (case aF => exact (fun k_ hk => ⟨Kd.fresh' (Kd.R_lt (by (with_reducible repeat (first | apply Kd.R_alloc | apply Kd.R_drewN | apply Kd.R_drew)); exact HO_3.out)) k_ hk, Kd.fresh' (Kd.R_lt (by (with_reducible repeat (first | apply Kd.R_alloc | apply Kd.R_drewN | apply Kd.R_drew)); exact HO173.out)) k_ hk⟩)); (case aO => exact (by (with_reducible repeat (first | apply Kd.R_alloc | apply Kd.R_drewN | apply Kd.R_drew)); exact HO_6.out)); (case aS => exact (below_size (by repeat (first | (with_reducible first | exact HB.out | apply below_alloc | apply pw_below_drewN | apply below_drew1) | exact HB.out)))); (case aL => have := LMc12.out; omega); intro v179 w17 ho hb hg hat; rw [← Ny178.out] at ho; have n0_ := Aside0.mk (Kd.R_after (ok := (fun k_ => some k_ ≠ (.slice Ao15 t170.length co15 : Value).ownBlock)) (by (with_reducible repeat (first | apply Kd.R_alloc | apply Kd.R_drewN | apply Kd.R_drew)); exact Kd.R_mono HO_3.out (fun _ hk => ⟨hk.2, hk.1⟩)) hg hat); have n1_ := Aside0.mk (Kd.R_after (ok := (fun k_ => some k_ ≠ (v164 : Value).ownBlock)) (by (with_reducible repeat (first | apply Kd.R_alloc | apply Kd.R_drewN | apply Kd.R_drew)); exact Kd.R_mono HO173.out (fun _ hk => ⟨hk.1.2, hk.2⟩)) hg hat); have n2_ := Aside0.mk (hb); have n3_ := Aside0.mk ((show Kd.C (Kd.int .u8) w17 A16 y174.length y174 from by rw [Ny174.out, KA16.out]; exact Kd.C_drop (m := 2) (c := co15) ((Kd.R_reads' (Kd.R_after (ok := (fun k_ => some k_ ≠ (v164 : Value).ownBlock)) (by (with_reducible repeat (first | apply Kd.R_alloc | apply Kd.R_drewN | apply Kd.R_drew)); exact Kd.R_mono HO173.out (fun _ hk => ⟨hk.1.2, hk.2⟩)) hg hat)).2.2) KL16.out ((Kd.R_reads' (Kd.R_after (ok := (fun k_ => some k_ ≠ (v164 : Value).ownBlock)) (by (with_reducible repeat (first | apply Kd.R_alloc | apply Kd.R_drewN | apply Kd.R_drew)); exact Kd.R_mono HO173.out (fun _ hk => ⟨hk.1.2, hk.2⟩)) hg hat)).2.1))); have n4_ := Aside0.mk (ho); clear HO_3; clear HO173; clear HB; clear HR177; clear HO_6; have HO_3 := n0_; have HO173 := n1_; have HB := n2_; have HR177 := n3_; have HO180 := n4_; clear n0_ n1_ n2_ n3_ n4_; clear ho hb hg hat))
                      go_roundg k1
                      case measure => have := HK1.out; omega
                      case rel => exact ⟨(x5_1), (y178), (wrap64 (x7_1 + 1)), (by first | rfl | (simp; done) | (simp [*]; done)), (by first | rfl | (simp; done) | (simp [*]; done)), H', ⟨by have := HK1.out; omega⟩, ⟨by (with_reducible repeat (first | apply Kd.R_alloc | apply Kd.R_drewN | apply Kd.R_drew)); exact Kd.R_mono HO_3.out (fun _ hk => hk.2)⟩, ⟨by (with_reducible repeat (first | apply Kd.R_alloc | apply Kd.R_drewN | apply Kd.R_drew)); exact Kd.R_mono HO180.out (fun _ hk => hk.1)⟩, ⟨by repeat (first | (with_reducible first | exact HB.out | apply below_alloc | apply pw_below_drewN | apply below_drew1) | exact HB.out)⟩⟩
                    · rw [if_neg c12] at H
                      exact absurd H (by simp)
                  · rw [if_neg c11] at H
                    exact absurd H (by simp)
                · rw [if_neg c10] at H
                  exact absurd H (by simp)
              · rw [if_neg c9] at H
                have c9b0 : (t171 == 0) = false := beq_eq_false_iff_ne.mpr c9
                have c9b1 : (t171 != 0) = true := bne_iff_ne.mpr c9
                have H' := Aside0.mk H
                clear H
                have q18 : ((wrap64 (x7_1 + 1)) : Int) ≤ ((l0.length : Int) : Int) := of_decide_eq_true (by first | (with_reducible assumption) | assumption)
                obtain ⟨i018, hi018, _, hsz18, _⟩ := info_parts info43
                have hroom18 : l0.length ≤ c0 := HC0.out
                have hC18 : Kd.C k43 _ A0 l0.length l0 := HR0.out
                have ql18 : (x7_1 : Int) ≤ ((wrap64 (x7_1 + 1)) : Int) := of_decide_eq_true (by first | (with_reducible assumption) | assumption)
                have q018 : (0 : Int) ≤ (x7_1 : Int) := of_decide_eq_true (by first | (with_reducible assumption) | assumption)
                have hcut18 := Go.Proofs.YtechlmlokgjlnaaW.Mine.cut_mid3 (P := Try.prog) 30 43 .i64 .i64 .i64 Try.underlying30 hi018 7 hsz18 A0 l0.length c0 x7_1 (wrap64 (x7_1 + 1)) q018 ql18 q18 hroom18
                have hr18 := Go.Proofs.YtechlmlokgjlnaaW.Mine.C_mid3 (lo := (x7_1 : Int).toNat) (hi := ((wrap64 (x7_1 + 1)) : Int).toNat) hC18 (by omega) (by omega)
                obtain ⟨A18, hA18⟩ : ∃ A1, A1 = (if ((wrap64 (x7_1 + 1)) : Int).toNat = (x7_1 : Int).toNat then A0 else (A0 : Option Addr).map (·.add ((x7_1 : Int).toNat * 7))) := ⟨_, rfl⟩
                have hy18 : y166.length = ((wrap64 (x7_1 + 1)) : Int).toNat - (x7_1 : Int).toNat := (by rw [Ny166.out, List.length_drop, List.length_take] <;> omega)
                rw [show ((l0).take ((wrap64 (x7_1 + 1)) : Int).toNat).drop (x7_1 : Int).toNat = y166 from Ny166.out.symm] at hr18
                replace hr18 : Kd.C k43 _ A18 y166.length y166 := (by rw [hA18]; exact hr18)
                rw [← hy18, ← hA18] at hcut18
                have HR169 := Aside0.mk hr18
                have HC169 := Aside0.mk (Nat.le_refl y166.length)
                clear hr18 hC18 hroom18 hi018 hsz18
                have KY18 := Aside0.mk hy18
                have KA18 := Aside0.mk hA18
                clear hy18 hA18
                replace q18 := eq_true q18
                go_wp2_with (first | ((with_reducible refine gate_callee (f := 12) rfl ?_); refine goesL_ (some 29) rfl rfl Try.func12 (by kernel_rfl) rfl #[.slice A18 y166.length y166.length] rfl (by (try simp only [List.map_toArray, List.map_cons, List.map_nil]); first | done | rfl | (simp only [List.length_drop, List.length_take]; rfl)) ?_; (with_reducible refine (pool_Put.calls k1 _ _ y166 t170 t171 _ ?side1 ?side2 A8.out).mono ?_); (case side1 => repeat (first | exact (Kd.C_below HR169.out HB.out) | (with_reducible refine Kd.C_alloc ?_ _) | (with_reducible refine Kd.C_drewN ?_ _) | (with_reducible refine Kd.C_drew ?_))); (case side2 => exact HC169.out); rintro e w19 ⟨v172, rfl, ho0, hb⟩; refine ⟨_, rfl, ?_⟩; have n0_ := Aside0.mk (Kd.R_elder' (by (with_reducible repeat (first | apply Kd.R_alloc | apply Kd.R_drewN | apply Kd.R_drew)); exact HO_3.out) (Kd.R_base ho0) hb); have n1_ := Aside0.mk (Kd.R_elder' (by (with_reducible repeat (first | apply Kd.R_alloc | apply Kd.R_drewN | apply Kd.R_drew)); exact HO_6.out) (Kd.R_base ho0) hb); have n2_ := Aside0.mk (Kd.R_lower (Kd.R_new' (Kd.R_new' ho0 (Kd.R_lt (by (with_reducible repeat (first | apply Kd.R_alloc | apply Kd.R_drewN | apply Kd.R_drew)); exact HO_3.out))) (Kd.R_lt (by (with_reducible repeat (first | apply Kd.R_alloc | apply Kd.R_drewN | apply Kd.R_drew)); exact HO_6.out))) (below_size (by repeat (first | (with_reducible first | exact HB.out | apply below_alloc | apply pw_below_drewN | apply below_drew1) | exact HB.out)))); have n3_ := Aside0.mk (below_step (by repeat (first | (with_reducible first | exact HB.out | apply below_alloc | apply pw_below_drewN | apply below_drew1) | exact HB.out)) hb); clear HO_3; clear HO_6; clear HB; have HO_3 := n0_; have HO_6 := n1_; have HO173 := n2_; have HB := n3_; clear n0_ n1_ n2_ n3_; (try clear hb); (try clear hb2); (try clear hk); (try clear hi); (try clear ho0)))
                go_roundg k1
                case measure => have := HK1.out; omega
                case rel => exact ⟨(false), (x6_1), (wrap64 (x7_1 + 1)), (by first | rfl | (simp; done) | (simp [*]; done)), (by first | rfl | (simp; done) | (simp [*]; done)), H', ⟨by have := HK1.out; omega⟩, ⟨by (with_reducible repeat (first | apply Kd.R_alloc | apply Kd.R_drewN | apply Kd.R_drew)); exact Kd.R_mono HO_3.out (fun _ hk => hk.1)⟩, ⟨by (with_reducible repeat (first | apply Kd.R_alloc | apply Kd.R_drewN | apply Kd.R_drew)); exact Kd.R_mono HO_6.out (fun _ hk => hk.1)⟩, ⟨by repeat (first | (with_reducible first | exact HB.out | apply below_alloc | apply pw_below_drewN | apply below_drew1) | exact HB.out)⟩⟩
            · rw [if_neg c7] at H
              exact absurd H (by simp)
          · rw [if_neg c6] at H
            exact absurd H (by simp)
        · rw [if_neg c5] at H
          exact absurd H (by simp)
      · rw [if_neg c4] at H
        have c4b0 : decide (x7_1 < (l0.length : Int)) = false := decide_eq_false c4
        clear c4
        by_cases c20 : x5_1 = true
        · subst c20
          have H1 : (if (l0.length : Int) > 255 then (if t163 = 3 then ((garderobelaw07_works.f k1).bind fun t182 => (some t182)) else (none)) else (if t163 = 0 then (if (t162.length : Int) ≥ 2 then (if 2 ≤ (t162.length : Int) then ((garderoberef00_Same.f k1 (t162.drop 2) x6_1).bind fun t187 => (if t187 = true then ((garderobelaw07_works.f k1).bind fun t188 => (some t188)) else (none))) else (none)) else (none)) else (none))) = some r := by rw [if_pos rfl] at H; exact H
          clear H
          have H := H1
          clear H1
          by_cases c21 : (l0.length : Int) > 255
          · rw [if_pos c21] at H
            have c21b0 : decide (255 < (l0.length : Int)) = true := decide_eq_true c21
            have c21b1 : decide (255 < l0.length) = true := decide_eq_true (by omega)
            clear c21
            by_cases c22 : t163 = 3
            · rw [if_pos c22] at H
              have c22b0 : (t163 == 3) = true := beq_iff_eq.mpr c22
              have c22b1 : (t163 != 3) = false := bne_eq_false_iff_eq.mpr c22
              clear c22
              replace H := Option.bind_eq_some_iff.mp H
              obtain ⟨t182, A230, H⟩ := H
              replace H : (some t182) = some r := H
              have A23 := Aside0.mk A230
              clear A230
              obtain rfl := Option.some.inj H
              go_wp2_with (first | (go_at_call 11; (with_reducible refine (garderobelaw07_works.calls k1  t182 _ A23.out).mono ?_); rintro e w24 ⟨rfl, hb⟩; have n0_ := Aside0.mk (Kd.R_below (by (with_reducible repeat (first | apply Kd.R_alloc | apply Kd.R_drewN | apply Kd.R_drew)); exact HO_3.out) hb); have n1_ := Aside0.mk (Kd.R_below (by (with_reducible repeat (first | apply Kd.R_alloc | apply Kd.R_drewN | apply Kd.R_drew)); exact HO_6.out) hb); have n2_ := Aside0.mk (below_step (by repeat (first | (with_reducible first | exact HB.out | apply below_alloc | apply pw_below_drewN | apply below_drew1) | exact HB.out)) hb); clear HO_3; clear HO_6; clear HB; have HO_3 := n0_; have HO_6 := n1_; have HB := n2_; clear n0_ n1_ n2_; (try clear hb); (try clear hb2); (try clear hk); (try clear hi)))
              go_ret
              exact ⟨by first | rfl | (simp [errW_none, errW_some] <;> rfl) | (simp [*, errW_none, errW_some] <;> rfl), by repeat (first | (with_reducible first | exact HB.out | apply below_alloc | apply pw_below_drewN | apply below_drew1) | exact HB.out)⟩
            · rw [if_neg c22] at H
              exact absurd H (by simp)
          · rw [if_neg c21] at H
            have c21b0 : decide (255 < (l0.length : Int)) = false := decide_eq_false c21
            have c21b1 : decide (255 < l0.length) = false := decide_eq_false (by omega)
            clear c21
            by_cases c25 : t163 = 0
            · rw [if_pos c25] at H
              have c25b0 : (t163 == 0) = true := beq_iff_eq.mpr c25
              have c25b1 : (t163 != 0) = false := bne_eq_false_iff_eq.mpr c25
              clear c25
              by_cases c26 : (t162.length : Int) ≥ 2
              · rw [if_pos c26] at H
                have c26b0 : decide (2 ≤ (t162.length : Int)) = true := decide_eq_true c26
                have c26b1 : decide (2 ≤ t162.length) = true := decide_eq_true (by omega)
                clear c26
                by_cases c27 : 2 ≤ (t162.length : Int)
                · rw [if_pos c27] at H
                  have c27b0 := eq_true c27
                  have c27b1 : decide (2 ≤ (t162.length : Int)) = true := decide_eq_true c27
                  clear c27
                  obtain ⟨y183, hy183⟩ : ∃ y_ : List Int, y_ = (t162.drop 2) := ⟨_, rfl⟩
                  replace H : ((garderoberef00_Same.f k1 y183 x6_1).bind fun t187 => (if t187 = true then ((garderobelaw07_works.f k1).bind fun t188 => (some t188)) else (none))) = some r := by first | (rw [hy183]; with_reducible exact H) | (have H2_ := (Option.bind_some _ _).symm.trans H; rw [hy183]; with_reducible exact H2_) | (have H2_ := (Option.bind_some _ _).symm.trans H; with_reducible exact H2_) | with_reducible exact H | (rw [hy183]; exact H) | exact H
                  have Ny183 := Aside0.mk hy183
                  clear hy183
                  replace H := Option.bind_eq_some_iff.mp H
                  obtain ⟨t187, A280, H⟩ := H
                  replace H : (if t187 = true then ((garderobelaw07_works.f k1).bind fun t188 => (some t188)) else (none)) = some r := H
                  have A28 := Aside0.mk A280
                  clear A280
                  by_cases c29 : t187 = true
                  · subst c29
                    have H1 : ((garderobelaw07_works.f k1).bind fun t188 => (some t188)) = some r := by rw [if_pos rfl] at H; exact H
                    clear H
                    have H := H1
                    clear H1
                    replace H := Option.bind_eq_some_iff.mp H
                    obtain ⟨t188, A300, H⟩ := H
                    replace H : (some t188) = some r := H
                    have A30 := Aside0.mk A300
                    clear A300
                    obtain rfl := Option.some.inj H
                    obtain ⟨Ao31, co31, eo31⟩ := Kd.R_slice HO_3.out
                    subst eo31
                    have q32 : (2 : Int) ≤ ((t162.length : Int) : Int) := of_decide_eq_true (by first | (with_reducible assumption) | assumption)
                    obtain ⟨i032, hi032, _, hsz32, _⟩ := info_parts info5
                    have hroom32 : t162.length ≤ co31 := (Kd.R_reads' HO_3.out).2.1
                    have hC32 : Kd.C (Kd.int .u8) _ Ao31 t162.length t162 := (Kd.R_reads' HO_3.out).2.2
                    have hcut32 := cut_from (P := Try.prog) 31 5 .i64 Try.underlying31 hi032 1 hsz32 Ao31 t162.length co31 2 (by omega) q32
                    have hr32 := Kd.C_drop (m := (2 : Int).toNat) (c := co31) hC32 (by omega) hroom32
                    obtain ⟨A32, hA32⟩ : ∃ A1, A1 = (if co31 = (2 : Int).toNat then Ao31 else (Ao31 : Option Addr).map (·.add ((2 : Int).toNat * 1))) := ⟨_, rfl⟩
                    obtain ⟨c32, hc32⟩ : ∃ c1, c1 = co31 - (2 : Int).toNat := ⟨_, rfl⟩
                    have hy32 : y183.length = t162.length - (2 : Int).toNat := (by rw [Ny183.out, List.length_drop] <;> omega)
                    rw [show (t162).drop (2 : Int).toNat = y183 from Ny183.out.symm] at hr32
                    replace hr32 : Kd.C (Kd.int .u8) _ A32 y183.length y183 := (by rw [hA32]; exact hr32)
                    rw [← hy32, ← hA32, ← hc32] at hcut32
                    have HR186 := Aside0.mk hr32
                    have HC186 := Aside0.mk (show y183.length ≤ c32 from by rw [hy32, hc32]; exact Nat.sub_le_sub_right hroom32 _)
                    clear hr32 hC32 hroom32 hi032 hsz32 hc32
                    have KY32 := Aside0.mk hy32
                    have KA32 := Aside0.mk hA32
                    clear hy32 hA32
                    have KL32 := Aside0.mk (show 2 ≤ t162.length from by omega)
                    replace q32 := eq_true q32
                    obtain ⟨Ao33, co33, eo33⟩ := Kd.R_slice HO_6.out
                    subst eo33
                    go_wp2_with (first | (go_at_call 14; (with_reducible refine (garderoberef00_Same.calls k1 _ _ y183 _ _ x6_1 true _ ?side1 ?side2 ?side3 ?side4 A28.out).mono ?_); (case side1 => repeat (first | exact (by repeat (first | (with_reducible exact HR186.out) | (with_reducible refine Kd.C_alloc ?_ _) | (with_reducible refine Kd.C_drewN ?_ _) | (with_reducible refine Kd.C_drew ?_) | exact HR186.out)) | (with_reducible refine Kd.C_alloc ?_ _) | (with_reducible refine Kd.C_drewN ?_ _) | (with_reducible refine Kd.C_drew ?_))); (case side2 => exact HC186.out); (case side3 => repeat (first | exact (Kd.R_reads' HO_6.out).2.2 | (with_reducible refine Kd.C_alloc ?_ _) | (with_reducible refine Kd.C_drewN ?_ _) | (with_reducible refine Kd.C_drew ?_))); (case side4 => exact (Kd.R_reads' HO_6.out).2.1); rintro e w' ⟨rfl, ⟨nd, rfl⟩⟩) | (go_at_call 11; (with_reducible refine (garderobelaw07_works.calls k1  t188 _ A30.out).mono ?_); rintro e w34 ⟨rfl, hb⟩; have n0_ := Aside0.mk (Kd.R_below (by (with_reducible repeat (first | apply Kd.R_alloc | apply Kd.R_drewN | apply Kd.R_drew)); exact HO_3.out) hb); have n1_ := Aside0.mk (Kd.R_below (by (with_reducible repeat (first | apply Kd.R_alloc | apply Kd.R_drewN | apply Kd.R_drew)); exact HO_6.out) hb); have n2_ := Aside0.mk (Kd.C_below (by repeat (first | (with_reducible exact HR186.out) | (with_reducible refine Kd.C_alloc ?_ _) | (with_reducible refine Kd.C_drewN ?_ _) | (with_reducible refine Kd.C_drew ?_) | exact HR186.out)) hb); have n3_ := Aside0.mk (below_step (by repeat (first | (with_reducible first | exact HB.out | apply below_alloc | apply pw_below_drewN | apply below_drew1) | exact HB.out)) hb); clear HO_3; clear HO_6; clear HR186; clear HB; have HO_3 := n0_; have HO_6 := n1_; have HR186 := n2_; have HB := n3_; clear n0_ n1_ n2_ n3_; (try clear hb); (try clear hb2); (try clear hk); (try clear hi)))
                    go_ret
                    exact ⟨by first | rfl | (simp [errW_none, errW_some] <;> rfl) | (simp [*, errW_none, errW_some] <;> rfl), by repeat (first | (with_reducible first | exact HB.out | apply below_alloc | apply pw_below_drewN | apply below_drew1) | exact HB.out)⟩
                  · replace c29 := Bool.eq_false_iff.mpr c29
                    subst c29
                    have H1 : (none) = some r := by rw [if_neg (show ¬ (false = true) by decide)] at H; exact H
                    clear H
                    have H := H1
                    clear H1
                    exact absurd H (by simp)
                · rw [if_neg c27] at H
                  exact absurd H (by simp)
              · rw [if_neg c26] at H
                exact absurd H (by simp)
            · rw [if_neg c25] at H
              exact absurd H (by simp)
        · replace c20 := Bool.eq_false_iff.mpr c20
          subst c20
          have H1 : (if t163 = 2 then ((garderobelaw07_works.f k1).bind fun t181 => (some t181)) else (none)) = some r := by rw [if_neg (show ¬ (false = true) by decide)] at H; exact H
          clear H
          have H := H1
          clear H1
          by_cases c35 : t163 = 2
          · rw [if_pos c35] at H
            have c35b0 : (t163 == 2) = true := beq_iff_eq.mpr c35
            have c35b1 : (t163 != 2) = false := bne_eq_false_iff_eq.mpr c35
            clear c35
            replace H := Option.bind_eq_some_iff.mp H
            obtain ⟨t181, A360, H⟩ := H
            replace H : (some t181) = some r := H
            have A36 := Aside0.mk A360
            clear A360
            obtain rfl := Option.some.inj H
            go_wp2_with (first | (go_at_call 11; (with_reducible refine (garderobelaw07_works.calls k1  t181 _ A36.out).mono ?_); rintro e w37 ⟨rfl, hb⟩; have n0_ := Aside0.mk (Kd.R_below (by (with_reducible repeat (first | apply Kd.R_alloc | apply Kd.R_drewN | apply Kd.R_drew)); exact HO_3.out) hb); have n1_ := Aside0.mk (Kd.R_below (by (with_reducible repeat (first | apply Kd.R_alloc | apply Kd.R_drewN | apply Kd.R_drew)); exact HO_6.out) hb); have n2_ := Aside0.mk (below_step (by repeat (first | (with_reducible first | exact HB.out | apply below_alloc | apply pw_below_drewN | apply below_drew1) | exact HB.out)) hb); clear HO_3; clear HO_6; clear HB; have HO_3 := n0_; have HO_6 := n1_; have HB := n2_; clear n0_ n1_ n2_; (try clear hb); (try clear hb2); (try clear hk); (try clear hi)))
            go_ret
            exact ⟨by first | rfl | (simp [errW_none, errW_some] <;> rfl) | (simp [*, errW_none, errW_some] <;> rfl), by repeat (first | (with_reducible first | exact HB.out | apply below_alloc | apply pw_below_drewN | apply below_drew1) | exact HB.out)⟩
          · rw [if_neg c35] at H
            exact absurd H (by simp)

end Go.Proofs.Ytechlmlokgjlnaa.PPoolOne
