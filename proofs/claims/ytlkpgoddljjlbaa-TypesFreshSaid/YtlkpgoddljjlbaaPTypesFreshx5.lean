-- laid by fake.py, a program of this session's, over the kit's print
import Derived.Test.YtlkpgoddljjlbaaPTypesFreshx0
import Derived.Test.YtlkpgoddljjlbaaPTypesFreshx1
import Derived.Test.YtlkpgoddljjlbaaPTypesFreshx3
import Derived.Test.YtlkpgoddljjlbaaPTypesFreshx4
namespace Go.Proofs.Ytlkpgoddljjlbaa.PTypesFresh
open Go.RowKit Go.Proofs.YtlkpgoddljjlbaaW.PrintWords Go.Proofs.YtlkpgoddljjlbaaW.PrintLast Go.Proofs.YtlkpgoddljjlbaaW.PrintMore Go.Proofs.YtlkpgoddljjlbaaW.Mine
attribute [local go_sem] Go.Proofs.YtlkpgoddljjlbaaW.Mine.isSome_set max2_int min2_int max_two min_two max_three min_three max_four min_four   -- for this text's walks alone
set_option linter.unusedVariables false
set_option linter.unusedSimpArgs false

attribute [local go_sem high] eqA25
/-! ### garderoberef00_Types: function 28 -/
def garderoberef00_Types.l0 : Nat → List (S25) → List (S25) → Int → Option (Bool)
  | 0, _, _, _ => none
  | k + 1, x0, x1, x5 => if x5 < (x0.length : Int) then (if 0 ≤ x5 then (if x5 < (x1.length : Int) then (if (!(((rd_T25 x0 x5).f0) == ((rd_T25 x1 x5).f0)) || (!(((rd_T25 x0 x5).f1) == ((rd_T25 x1 x5).f1)))) = true then (some false) else (garderoberef00_Types.l0 k x0 x1 (wrap64 (x5 + 1)))) else (none)) else (none)) else (some true)
def garderoberef00_Types.f (k : Nat) (l0 : List (S25)) (l1 : List (S25)) : Option (Bool) := if (l0.length : Int) = (l1.length : Int) then (garderoberef00_Types.l0 k l0 l1 0) else (some false)
theorem garderoberef00_Types.mono_l : ∀ k, (∀ y0 y1 y2, LeO (garderoberef00_Types.l0 k y0 y1 y2) (garderoberef00_Types.l0 (k + 1) y0 y1 y2))
  | 0 => fun _ _ _ r h => by simp [garderoberef00_Types.l0] at h
  | k + 1 => by
    have ih0 := garderoberef00_Types.mono_l k
    · intro y0 y1 y2
      unfold garderoberef00_Types.l0
      repeat' first
      | (with_reducible exact ih0 _ _ _)
      | (with_reducible exact LeO.refl _)
      | (with_reducible exact LeO.none _)
      | (with_reducible refine LeO.ite ?_ ?_)
      | (with_reducible refine LeO.bind ?_ (fun _ => ?_))
      | exact ih0 _ _ _
      | exact LeO.none _
      | refine LeO.ite ?_ ?_
      | refine LeO.bind ?_ (fun _ => ?_)
theorem garderoberef00_Types.mono : ∀ a0 a1 k, LeO (garderoberef00_Types.f k a0 a1) (garderoberef00_Types.f (k + 1) a0 a1) := by
  intro a0 a1 k
  have ih0 := garderoberef00_Types.mono_l k
  unfold garderoberef00_Types.f
  repeat' first
      | (with_reducible exact ih0 _ _ _)
      | (with_reducible exact LeO.refl _)
      | (with_reducible exact LeO.none _)
      | (with_reducible refine LeO.ite ?_ ?_)
      | (with_reducible refine LeO.bind ?_ (fun _ => ?_))
      | exact ih0 _ _ _
      | exact LeO.none _
      | refine LeO.ite ?_ ?_
      | refine LeO.bind ?_ (fun _ => ?_)
set_option maxHeartbeats 8000000 in
set_option maxRecDepth 100000 in
theorem garderoberef00_Types.calls (k : Nat) (A0 : Option Addr) (c0 : Nat) (l0 : List (S25)) (A1 : Option Addr) (c1 : Nat) (l1 : List (S25)) (r : Bool) (w : World) (hr0 : Kd.C k25 w A0 l0.length l0) (hc0 : l0.length ≤ c0) (hr1 : Kd.C k25 w A1 l1.length l1) (hc1 : l1.length ≤ c1) (h : garderoberef00_Types.f k l0 l1 = some r) :
    Calls Try.prog 28 #[.slice A0 l0.length c0, .slice A1 l1.length c1] w fun e w' => e = .returned (.bool r) ∧ Drawn0 w w' := by
  have hu25 := Try.underlying25
  have HR0 := Aside0.mk hr0
  have HC0 := Aside0.mk hc0
  clear hr0 hc0
  have HR1 := Aside0.mk hr1
  have HC1 := Aside0.mk hc1
  clear hr1 hc1
  have H : (if (l0.length : Int) = (l1.length : Int) then (garderoberef00_Types.l0 k l0 l1 0) else (some false)) = some r := h
  clear h
  by_cases c3 : (l0.length : Int) = (l1.length : Int)
  · rw [if_pos c3] at H
    have c3b0 : ((l0.length : Int) == (l1.length : Int)) = true := beq_iff_eq.mpr c3
    have c3b1 : ((l0.length : Int) != (l1.length : Int)) = false := bne_eq_false_iff_eq.mpr c3
    have c3b2 : (l0.length == l1.length) = true := by first | simpa using c3 | (simp at c3 ⊢; omega)
    clear c3
    have H' := Aside0.mk H
    clear H
    go_enter Try.func28, Try.ntmps28
    go_wp2
    repeat (go_quiet (fail); try go_wp2)
    go_loopg [5] k (fun kq v5 w' => ∃ (x5_1 : Int), v5 = .int .i64 x5_1 ∧ Aside0 (garderoberef00_Types.l0 kq l0 l1 x5_1 = some r) ∧ Aside0 (kq ≤ k) ∧ Drawn0 w w')
    case atStart => exact ⟨(0), (by first | rfl | (simp; done) | (simp [*]; done)), H', ⟨Nat.le_refl _⟩, by repeat (first | exact Drawn0.refl _ | apply Drawn0.step)⟩
    case round =>
      clear H'
      try clear c1
      try clear c2
      try clear p2
      try clear c3
      try clear c3b0
      try clear c3b1
      try clear c3b2
      obtain ⟨x5_1, rfl, HA, HK1, ⟨m1, rfl⟩⟩ := hrel
      cases gk with
      | zero => exact absurd HA.out (by simp [garderoberef00_Types.l0])
      | succ k1 =>
        have H := HA.out
        clear HA
        simp only [garderoberef00_Types.l0] at H
        by_cases c4 : x5_1 < (l0.length : Int)
        · rw [if_pos c4] at H
          have c4b0 : decide (x5_1 < (l0.length : Int)) = true := decide_eq_true c4
          clear c4
          by_cases c5 : 0 ≤ x5_1
          · rw [if_pos c5] at H
            have c5b0 : decide (0 ≤ x5_1) = true := decide_eq_true c5
            clear c5
            by_cases c6 : x5_1 < (l1.length : Int)
            · rw [if_pos c6] at H
              have c6b0 : decide (x5_1 < (l1.length : Int)) = true := decide_eq_true c6
              clear c6
              by_cases c7 : (!(((rd_T25 l0 x5_1).f0) == ((rd_T25 l1 x5_1).f0)) || (!(((rd_T25 l0 x5_1).f1) == ((rd_T25 l1 x5_1).f1)))) = true
              · rw [if_pos c7] at H
                have c7b0 : (!(((rd_T25 l0 x5_1).f0) == ((rd_T25 l1 x5_1).f0)) || (!(((rd_T25 l0 x5_1).f1) == ((rd_T25 l1 x5_1).f1)))) = true := c7
                clear c7
                obtain rfl := Option.some.inj H
                have p220 : 0 ≤ (x5_1 : Int) := of_decide_eq_true (by first | (with_reducible assumption) | assumption)
                have q220 : x5_1 < (l0.length : Int) := of_decide_eq_true (by first | (with_reducible assumption) | assumption)
                obtain ⟨ad220, e220, hx220_0, hx220_1⟩ := at_T25 HR0.out x5_1 p220 q220
                cases e220
                replace p220 := eq_true p220
                replace q220 := eq_true q220
                have p221 : 0 ≤ (x5_1 : Int) := of_decide_eq_true (by first | (with_reducible assumption) | assumption)
                have q221 : x5_1 < (l1.length : Int) := of_decide_eq_true (by first | (with_reducible assumption) | assumption)
                obtain ⟨ad221, e221, hx221_0, hx221_1⟩ := at_T25 HR1.out x5_1 p221 q221
                cases e221
                replace p221 := eq_true p221
                replace q221 := eq_true q221
                go_wp2
                repeat (go_quiet (fail); try go_wp2)
                go_ret
                exact ⟨by first | rfl | (simp; done) | (simp [*]; done), by repeat (first | exact Drawn0.refl _ | apply Drawn0.step)⟩
              · rw [if_neg c7] at H
                have c7b0 : (!(((rd_T25 l0 x5_1).f0) == ((rd_T25 l1 x5_1).f0)) || (!(((rd_T25 l0 x5_1).f1) == ((rd_T25 l1 x5_1).f1)))) = false := by simpa using c7
                clear c7
                have H' := Aside0.mk H
                clear H
                have p220 : 0 ≤ (x5_1 : Int) := of_decide_eq_true (by first | (with_reducible assumption) | assumption)
                have q220 : x5_1 < (l0.length : Int) := of_decide_eq_true (by first | (with_reducible assumption) | assumption)
                obtain ⟨ad220, e220, hx220_0, hx220_1⟩ := at_T25 HR0.out x5_1 p220 q220
                cases e220
                replace p220 := eq_true p220
                replace q220 := eq_true q220
                have p221 : 0 ≤ (x5_1 : Int) := of_decide_eq_true (by first | (with_reducible assumption) | assumption)
                have q221 : x5_1 < (l1.length : Int) := of_decide_eq_true (by first | (with_reducible assumption) | assumption)
                obtain ⟨ad221, e221, hx221_0, hx221_1⟩ := at_T25 HR1.out x5_1 p221 q221
                cases e221
                replace p221 := eq_true p221
                replace q221 := eq_true q221
                go_wp2
                repeat (go_quiet (fail); try go_wp2)
                go_roundg k1
                case measure => have := HK1.out; omega
                case rel => exact ⟨(wrap64 (x5_1 + 1)), (by first | rfl | (simp; done) | (simp [*]; done)), H', ⟨by have := HK1.out; omega⟩, by repeat (first | exact Drawn0.refl _ | apply Drawn0.step)⟩
            · rw [if_neg c6] at H
              exact absurd H (by simp)
          · rw [if_neg c5] at H
            exact absurd H (by simp)
        · rw [if_neg c4] at H
          have c4b0 : decide (x5_1 < (l0.length : Int)) = false := decide_eq_false c4
          clear c4
          obtain rfl := Option.some.inj H
          go_wp2
          repeat (go_quiet (fail); try go_wp2)
          go_ret
          exact ⟨by first | rfl | (simp; done) | (simp [*]; done), by repeat (first | exact Drawn0.refl _ | apply Drawn0.step)⟩
  · rw [if_neg c3] at H
    have c3b0 : ((l0.length : Int) == (l1.length : Int)) = false := beq_eq_false_iff_ne.mpr c3
    have c3b1 : ((l0.length : Int) != (l1.length : Int)) = true := bne_iff_ne.mpr c3
    have c3b2 : (l0.length == l1.length) = false := by first | simpa using c3 | (simp at c3 ⊢; omega)
    obtain rfl := Option.some.inj H
    go_enter Try.func28, Try.ntmps28
    go_wp2
    repeat (go_quiet (fail); try go_wp2)
    go_ret
    exact ⟨by first | rfl | (simp; done) | (simp [*]; done), by repeat (first | exact Drawn0.refl _ | apply Drawn0.step)⟩

/-! ### garderoberef00_Spoil: function 29 -/
def garderoberef00_Spoil.l0 : Nat → List Int → Int → Int → Option (List Int)
  | 0, _, _, _ => none
  | k + 1, x0, x1, x5 => if x5 < (x0.length : Int) then (if 0 ≤ x5 then (garderoberef00_Spoil.l0 k (x0.set (x5 : Int).toNat (((rd x0 x5) + x1) % 256)) x1 (wrap64 (x5 + 1))) else (none)) else (some x0)
def garderoberef00_Spoil.f (_k : Nat) (l0 : List Int) (a1 : Int) : Option (List Int) := some (l0.map (fun x => (x + a1) % 256))
theorem garderoberef00_Spoil.mono_l : ∀ k, (∀ y0 y1 y2, LeO (garderoberef00_Spoil.l0 k y0 y1 y2) (garderoberef00_Spoil.l0 (k + 1) y0 y1 y2))
  | 0 => fun _ _ _ r h => by simp [garderoberef00_Spoil.l0] at h
  | k + 1 => by
    have ih0 := garderoberef00_Spoil.mono_l k
    · intro y0 y1 y2
      unfold garderoberef00_Spoil.l0
      repeat' first
      | (with_reducible exact ih0 _ _ _)
      | (with_reducible exact LeO.refl _)
      | (with_reducible exact LeO.none _)
      | (with_reducible refine LeO.ite ?_ ?_)
      | (with_reducible refine LeO.bind ?_ (fun _ => ?_))
      | exact ih0 _ _ _
      | exact LeO.none _
      | refine LeO.ite ?_ ?_
      | refine LeO.bind ?_ (fun _ => ?_)
theorem garderoberef00_Spoil.mono : ∀ a0 a1 k, LeO (garderoberef00_Spoil.f k a0 a1) (garderoberef00_Spoil.f (k + 1) a0 a1) := by
  intro a0 a1 k
  have ih0 := garderoberef00_Spoil.mono_l k
  unfold garderoberef00_Spoil.f
  repeat' first
      | (with_reducible exact ih0 _ _ _)
      | (with_reducible exact LeO.refl _)
      | (with_reducible exact LeO.none _)
      | (with_reducible refine LeO.ite ?_ ?_)
      | (with_reducible refine LeO.bind ?_ (fun _ => ?_))
      | exact ih0 _ _ _
      | exact LeO.none _
      | refine LeO.ite ?_ ?_
      | refine LeO.bind ?_ (fun _ => ?_)
set_option maxHeartbeats 8000000 in
set_option maxRecDepth 100000 in
theorem garderoberef00_Spoil.calls (k : Nat) (P0_ : Nat → Prop) (u9000_ : Value) (l0 : List Int) (a1 : Int) (r : List Int) (w0 w : World) (hB : Below w0.heap.size w0 w) (ho0 : Kr.R (Kd.int .u8) 5 w w0.heap.size P0_ u9000_ l0) (h : garderoberef00_Spoil.f k l0 a1 = some r) :
    Calls Try.prog 29 #[u9000_, .int .u8 a1] w fun e w' => e = .returned (.tuple #[]) ∧ Kr.R (Kd.int .u8) 5 w' w0.heap.size (fun k_ => (P0_ k_ ∨ w.heap.size ≤ k_)) u9000_ r ∧ Below w0.heap.size w0 w' ∧ Kept w w' (fun k_ => P0_ k_) := by
  have HO0 := Aside0.mk (show Kr.R (Kd.int .u8) 5 w w0.heap.size (fun k_ => (P0_ k_ ∨ w.heap.size ≤ k_)) u9000_ l0 from Kr.R_mono ho0 (fun k_ hk => (.inl hk)))
  have HK := Aside0.mk (Kept.refl w (fun k_ => P0_ k_))
  have HW0 := Aside0.mk hB.size
  have HB := Aside0.mk hB
  clear hB ho0
  obtain rfl := Option.some.inj h
  clear h
  obtain ⟨Ao3, co3, eo3⟩ := Kr.R_slice HO0.out
  subst eo3
  have hnc := (Kr.R_reads' HO0.out).2.1
  obtain ⟨L, hLl, hLt, hL⟩ := Kr.R_whole HO0.out
  have hmax : co3 ≤ 9223372036854775807 := by
    have h1_ := Kd.C_max (Kr.R_reads' hL).2.2
    omega
  obtain ⟨i0_, hi0, _, hsz0, _⟩ := info_parts info5
  have hcut : ∀ W : World, (Instr.slice 29 (.slice Ao3 l0.length co3) none (some (.int .i64 co3)) (some (.int .i64 co3))).run Try.prog W = .ok (.slice Ao3 co3 co3) W := fun W => Go.Proofs.YtlkpgoddljjlbaaW.Mine.whole3_of 29 5 .i64 .i64 Try.underlying29 hi0 hsz0 Ao3 l0.length co3 W
  clear hi0 hsz0
  have HL0 := Aside0.mk hL
  have HLl := Aside0.mk hLl
  have HLt := Aside0.mk hLt
  have HNC := Aside0.mk hnc
  have HMX := Aside0.mk hmax
  clear hL hLl hLt hnc hmax HO0
  go_enter Try.func29, Try.ntmps29
  go_wp2
  go_loopg [5] co3 (fun kq v5 w' => ∃ (x5_1 : Int), v5 = .int .i64 x5_1 ∧ Aside0 (0 ≤ x5_1 ∧ (kq : Int) + x5_1 = co3) ∧ Aside0 (Kr.R (Kd.int .u8) 5 w' w0.heap.size (fun k_ => (P0_ k_ ∨ w.heap.size ≤ k_)) (.slice Ao3 co3 co3) (Go.Proofs.YtlkpgoddljjlbaaW.Mine.spoilt a1 L x5_1.toNat)) ∧ Aside0 (Kept w w' (fun k_ => P0_ k_)) ∧ Aside0 (Below w0.heap.size w0 w'))
  case atStart => exact ⟨0, rfl, ⟨by omega⟩, ⟨by rw [Int.toNat_zero, Go.Proofs.YtlkpgoddljjlbaaW.Mine.spoilt_zero]; exact (by (with_reducible repeat (first | apply Kr.R_alloc | apply Kr.R_drewN | apply Kr.R_drew)); exact HL0.out)⟩, ⟨by repeat (first | (with_reducible first | exact HK.out | apply Kept.alloc | apply Kept.drewN | apply Kept.drew) | exact HK.out)⟩, ⟨by repeat (first | (with_reducible first | exact HB.out | apply below_alloc | apply pw_below_drewN | apply below_drew1) | exact HB.out)⟩⟩
  case round =>
    obtain ⟨x5_1, rfl, HA, HO_0, HK, HB⟩ := hrel
    obtain ⟨x0_1, hx0_⟩ : ∃ x_ : List Int, x_ = Go.Proofs.YtlkpgoddljjlbaaW.Mine.spoilt a1 L x5_1.toNat := ⟨_, rfl⟩
    rw [← hx0_] at HO_0
    have hlen_ : x0_1.length = co3 := by rw [hx0_, Go.Proofs.YtlkpgoddljjlbaaW.Mine.spoilt_length]; exact HLl.out
    have HX0 := Aside0.mk hx0_
    have HLN := Aside0.mk hlen_
    clear hx0_ hlen_
    by_cases c4 : x5_1 < (co3 : Int)
    · have c4b0 : decide (x5_1 < (co3 : Int)) = true := decide_eq_true c4
      cases gk with
      | zero => exact absurd HA.out.2 (by omega)
      | succ k1 =>
        have hw_ : wrap64 (x5_1 + 1) = x5_1 + 1 := by
          have := HMX.out
          have := HA.out
          unfold wrap64
          omega
        have HWW := Aside0.mk hw_
        clear hw_
        have p173 : 0 ≤ x5_1 := HA.out.1
        have q173 : x5_1 < (x0_1.length : Int) := by rw [HLN.out]; exact c4
        obtain ⟨ad173, e173, hx173_0⟩ := Kd.at_int (Kr.R_reads' HO_0.out).2.2 x5_1 p173 q173
        cases e173
        clear q173
        have c4_ := Aside0.mk c4
        clear c4
        obtain ⟨go6, co6, eo6, gb6, gl6, cl6, HG6⟩ := Kr.R_form HO_0.out (by rw [HLN.out]; have := c4_.out; have := HA.out; omega)
        injection eo6 with ea_ en_ ec_
        (first | subst ea_ | (injection ea_ with ea_; subst ea_))
        clear ec_ en_
        have GB6 := Aside0.mk gb6
        clear gb6 gl6 HG6
        (first | simp only [add_plain] at hx173_0 | skip)
        obtain ⟨hx6_0, hf6_0⟩ := Kr.R_celln 0 HO_0.out x5_1 p173 c4_.out
        replace p173 := eq_true p173
        have q6 := eq_true c4_.out
        have HP7 := Kr.R_putg HO_0.out x5_1 (((rd x0_1 x5_1) + a1) % 256)
        go_wp2_with (first | ((with_reducible refine gate_store (t := 5) (p := 26) rfl ?_); refine store_event (t := 5) (p := 26) (v := ?vo_w8) (w1 := (wr.setCell ⟨go6, x5_1.toNat, none⟩ (.int .u8 (((rd x0_1 x5_1) + a1) % 256)))) ?hg ?ho ?hn ?hr ?_; (case ho => rfl); (case hg => rfl); (case hn => rfl); (case hr => first | (go_simp; done) | (go_simp; rfl)); intro w8 hw; have hg : wr.grownBy w8 (some go6) := (by rw [hw]; exact HP7.2); have hp_ : Kr.R (Kd.int .u8) 5 w8 w0.heap.size (fun k_ => (P0_ k_ ∨ w.heap.size ≤ k_)) (.slice (some ⟨go6, 0, none⟩) co3 co3) (x0_1.set x5_1.toNat (((rd x0_1 x5_1) + a1) % 256)) := (by rw [hw]; exact HP7.1); clear HP7; have n0_ := Aside0.mk (hp_); have n1_ := Aside0.mk ((by rw [hw]; exact below_set (HB.out) GB6.out : Below w0.heap.size w0 w8)); have n2_ := Aside0.mk (Kept.of_grown (S := (fun k_ => P0_ k_)) hg (by repeat (first | (with_reducible first | exact HK.out | apply Kept.alloc | apply Kept.drewN | apply Kept.drew) | exact HK.out)) (fun k_ e_ => (HO_0.out.1.1 k_ e_))); clear HO_0; clear HB; clear HK; have HO_0 := n0_; have HB := n1_; have HK := n2_; clear n0_ n1_ n2_; clear hg hw hp_))
        go_roundg k1
        case measure => omega
        case rel =>
          refine ⟨x5_1 + 1, ?_, ⟨by have := HA.out; omega⟩, ⟨?_⟩, ⟨by repeat (first | (with_reducible first | exact HK.out | apply Kept.alloc | apply Kept.drewN | apply Kept.drew) | exact HK.out)⟩, ⟨by repeat (first | (with_reducible first | exact HB.out | apply below_alloc | apply pw_below_drewN | apply below_drew1) | exact HB.out)⟩⟩
          · first | (rw [HWW.out]; done) | (simp only [HWW.out]; done) | (simp [HWW.out]; done) | (rw [← HWW.out])
          · have h8_ := Go.Proofs.YtlkpgoddljjlbaaW.Mine.spoilt_succ a1 L x5_1.toNat (by rw [HLl.out]; have := c4_.out; have := HA.out; omega)
            have h7_ : ((x5_1.toNat : Nat) : Int) = x5_1 := Int.toNat_of_nonneg HA.out.1
            rw [← HX0.out, h7_, show x5_1.toNat + 1 = (x5_1 + 1).toNat from by have := HA.out; omega] at h8_
            have h9_ := HO_0.out
            rw [h8_] at h9_
            (with_reducible repeat (first | apply Kr.R_alloc | apply Kr.R_drewN | apply Kr.R_drew))
            exact h9_
    · have c4b0 : decide (x5_1 < (co3 : Int)) = false := decide_eq_false c4
      have c4_ := Aside0.mk c4
      clear c4
      go_wp2
      first | go_end0 | ((try simp only [Exit.inBlock, Exit.then]); refine bodyPost_ret (results_none rfl _ _ _) rfl ?_)
      have h9_ := Kr.R_short HO_0.out HNC.out
      rw [HX0.out, Go.Proofs.YtlkpgoddljjlbaaW.Mine.spoilt_all a1 L x5_1.toNat (by have h1_ := c4_.out; have h2_ := HLl.out; have h3_ := HA.out; omega), ← List.map_take, HLt.out] at h9_
      refine ⟨by first | rfl | (simp; done) | (simp [*]; done), ?_, by repeat (first | (with_reducible first | exact HB.out | apply below_alloc | apply pw_below_drewN | apply below_drew1) | exact HB.out), by repeat (first | (with_reducible first | exact HK.out | apply Kept.alloc | apply Kept.drewN | apply Kept.drew) | exact HK.out)⟩
      (with_reducible repeat (first | apply Kr.R_alloc | apply Kr.R_drewN | apply Kr.R_drew))
      exact h9_

/-! ### garderoberef00_Wide: function 30 -/
mutual
def garderoberef00_Wide.l0 : Nat → List Int → List Int → Int → Option (List Int)
  | 0, _, _, _ => none
  | k + 1, x0, x3, x4 => if x4 < (x0.length : Int) then (if 0 ≤ x4 then (if x4 < (x3.length : Int) then (garderoberef00_Wide.l0 k x0 (x3.set (x4 : Int).toNat (rd x0 x4)) (wrap64 (x4 + 1))) else (none)) else (none)) else (garderoberef00_Wide.l1 k x0 x3 (x0.length : Int))
def garderoberef00_Wide.l1 : Nat → List Int → List Int → Int → Option (List Int)
  | 0, _, _, _ => none
  | k + 1, x0, x3, x5 => if x5 < (x3.length : Int) then (if 0 ≤ x5 then (garderoberef00_Wide.l1 k x0 (x3.set (x5 : Int).toNat 7) (wrap64 (x5 + 1))) else (none)) else (if 0 ≤ (x0.length : Int) then (if (x0.length : Int) ≤ (x3.length : Int) then (some (x3.take ((x0.length : Int) : Int).toNat)) else (none)) else (none))
end
def garderoberef00_Wide.f (_k : Nat) (l0 : List Int) : Option (List Int) := if l0.length ≤ 140737488355328 then some l0 else none
theorem garderoberef00_Wide.mono_l : ∀ k, (∀ y0 y1 y2, LeO (garderoberef00_Wide.l0 k y0 y1 y2) (garderoberef00_Wide.l0 (k + 1) y0 y1 y2)) ∧ (∀ y0 y1 y2, LeO (garderoberef00_Wide.l1 k y0 y1 y2) (garderoberef00_Wide.l1 (k + 1) y0 y1 y2))
  | 0 => ⟨fun _ _ _ r h => by simp [garderoberef00_Wide.l0] at h, fun _ _ _ r h => by simp [garderoberef00_Wide.l1] at h⟩
  | k + 1 => by
    obtain ⟨ih0, ih1⟩ := garderoberef00_Wide.mono_l k
    refine ⟨?_, ?_⟩
    · intro y0 y1 y2
      unfold garderoberef00_Wide.l0
      repeat' first
      | (with_reducible exact ih0 _ _ _)
      | (with_reducible exact ih1 _ _ _)
      | (with_reducible exact LeO.refl _)
      | (with_reducible exact LeO.none _)
      | (with_reducible refine LeO.ite ?_ ?_)
      | (with_reducible refine LeO.bind ?_ (fun _ => ?_))
      | exact ih0 _ _ _
      | exact ih1 _ _ _
      | exact LeO.none _
      | refine LeO.ite ?_ ?_
      | refine LeO.bind ?_ (fun _ => ?_)
    · intro y0 y1 y2
      unfold garderoberef00_Wide.l1
      repeat' first
      | (with_reducible exact ih0 _ _ _)
      | (with_reducible exact ih1 _ _ _)
      | (with_reducible exact LeO.refl _)
      | (with_reducible exact LeO.none _)
      | (with_reducible refine LeO.ite ?_ ?_)
      | (with_reducible refine LeO.bind ?_ (fun _ => ?_))
      | exact ih0 _ _ _
      | exact ih1 _ _ _
      | exact LeO.none _
      | refine LeO.ite ?_ ?_
      | refine LeO.bind ?_ (fun _ => ?_)
theorem garderoberef00_Wide.mono : ∀ a0 k, LeO (garderoberef00_Wide.f k a0) (garderoberef00_Wide.f (k + 1) a0) := by
  intro a0 k
  obtain ⟨ih0, ih1⟩ := garderoberef00_Wide.mono_l k
  unfold garderoberef00_Wide.f
  repeat' first
      | (with_reducible exact ih0 _ _ _)
      | (with_reducible exact ih1 _ _ _)
      | (with_reducible exact LeO.refl _)
      | (with_reducible exact LeO.none _)
      | (with_reducible refine LeO.ite ?_ ?_)
      | (with_reducible refine LeO.bind ?_ (fun _ => ?_))
      | exact ih0 _ _ _
      | exact ih1 _ _ _
      | exact LeO.none _
      | refine LeO.ite ?_ ?_
      | refine LeO.bind ?_ (fun _ => ?_)
set_option maxHeartbeats 8000000 in
set_option maxRecDepth 100000 in
theorem garderoberef00_Wide.calls (k : Nat) (A0 : Option Addr) (c0 : Nat) (l0 : List Int) (r : List Int) (w : World) (hr0 : Kd.C (Kd.int .u8) w A0 l0.length l0) (hc0 : l0.length ≤ c0) (h : garderoberef00_Wide.f k l0 = some r) :
    Calls Try.prog 30 #[.slice A0 l0.length c0] w fun e w' => ∃ v0_ : Value, e = .returned (v0_) ∧ Kr.R (Kd.int .u8) 5 w' w.heap.size (fun _ => True) v0_ r ∧ Kr.R (Kd.int .u8) 5 w' w.heap.size (fun _ => True) (Go.Proofs.YtlkpgoddljjlbaaW.Mine.longV v0_) (r ++ [7, 7, 7]) ∧ Below w.heap.size w w' := by
  have hlen : l0.length ≤ 140737488355328 := by
    unfold garderoberef00_Wide.f at h
    split at h
    · assumption
    · cases h
  have hr_ : l0 = r := by
    unfold garderoberef00_Wide.f at h
    rw [if_pos hlen] at h
    exact Option.some.inj h
  subst hr_
  clear h
  have HR0 := Aside0.mk hr0
  have HC0 := Aside0.mk hc0
  have HL := Aside0.mk hlen
  clear hr0 hc0
  have HB := Aside0.mk (Below.refl w.heap.size w)
  obtain ⟨ji2, hji2⟩ : ∃ j_ : Int, (wrap64 ((l0.length : Int) + 3)) = j_ := ⟨_, rfl⟩
  have hji2w : (IntKind.i64.wrap ((l0.length : Int) + 3)) = ji2 := (i64_w _).trans hji2
  have hj3 : ji2 = ((l0.length + 3 : Nat) : Int) := by rw [← hji2]; unfold wrap64; omega
  have HJ3 := Aside0.mk hj3
  obtain ⟨m3, hm3_⟩ : ∃ m_ : Nat, m_ = l0.length + 3 := ⟨_, rfl⟩
  have HM3 := Aside0.mk hm3_
  clear hm3_
  have c3 : 0 ≤ ji2 := by omega
  have c4 : ji2.toNat ≤ 281474976710656 := by omega
  clear hj3 hlen
  have c3b0 := eq_true c3
  have c3b1 : decide (0 ≤ (ji2)) = true := decide_eq_true c3
  have c4b0 := eq_true c4
  have c4b1 : decide ((ji2 : Int).toNat ≤ 281474976710656) = true := decide_eq_true c4
  clear c3 c4
  obtain ⟨y166, hy166⟩ : ∃ y_ : List Int, y_ = (List.replicate (ji2 : Int).toNat 0) := ⟨_, rfl⟩
  have Ny224 := Aside0.mk hy166
  clear hy166
  go_enter Try.func30, Try.ntmps30
  go_wp2_with (first | ((with_reducible refine gate_dst (N := 9) rfl ?_); refine Kr.R_make (Kd.int .u8) _ 5 rfl (N := 9) rfl 29 _ _ rfl ji2 rfl rfl Try.underlying29 (.int .u8 0) 1 info5 rfl (by decide) (by omega) 0 (ok := fun _ => True) (okp := fun _ => True) rfl (fun _ hk => hk) trivial (of_decide_eq_true (by first | (with_reducible assumption) | assumption)) (Nat.le_trans (Nat.mul_le_mul_right _ (of_decide_eq_true (by first | (with_reducible assumption) | assumption) : ji2.toNat ≤ 281474976710656)) (by omega)) (Below.refl _ _) (Nat.le_refl _) ?_; intro v225 w5 ho6 hb hg_ hnew_; clear hg_ hnew_; (first | rw [← Ny224.out] at ho6 | (simp only [Int.reduceToNat] at ho6; rw [← Ny224.out] at ho6)); have n0_ := Aside0.mk (Kr.R_lower ho6 (below_size (by repeat (first | (with_reducible first | exact HB.out | apply below_alloc | apply pw_below_drewN | apply below_drew1) | exact HB.out)))); have n1_ := Aside0.mk (below_step (by repeat (first | (with_reducible first | exact HB.out | apply below_alloc | apply pw_below_drewN | apply below_drew1) | exact HB.out)) hb); clear HB; have HO226 := n0_; have HB := n1_; clear n0_ n1_; clear hb ho6))
  have hy0_ : y166 = Go.Proofs.YtlkpgoddljjlbaaW.Mine.wideA l0 0 := by rw [Ny224.out, Go.Proofs.YtlkpgoddljjlbaaW.Mine.wideA_zero, HJ3.out]; rfl
  have h0_ := HO226.out
  rw [hy0_] at h0_
  obtain ⟨A_, co_, e_⟩ := Kr.R_slice h0_
  rw [Go.Proofs.YtlkpgoddljjlbaaW.Mine.wideA_length l0 0 (by omega), ← HM3.out] at e_
  subst e_
  have HO_9 := Aside0.mk h0_
  clear h0_ hy0_ HO226
  try clear c3b0
  try clear c3b1
  try clear c4b0
  try clear c4b1
  go_loopg [4] l0.length (fun kq v4 w' => ∃ (x4_1 : Int), v4 = .int .i64 x4_1 ∧ Aside0 (0 ≤ x4_1 ∧ (kq : Int) + x4_1 = l0.length) ∧ Aside0 (Kr.R (Kd.int .u8) 5 w' w.heap.size (fun _ => True) (.slice A_ m3 co_) (Go.Proofs.YtlkpgoddljjlbaaW.Mine.wideA l0 x4_1.toNat)) ∧ Aside0 (Below w.heap.size w w'))
  case atStart => exact ⟨0, (by first | rfl | (simp; done) | (simp [*]; done)), ⟨by omega⟩, ⟨by (with_reducible repeat (first | apply Kr.R_alloc | apply Kr.R_drewN | apply Kr.R_drew)); exact HO_9.out⟩, ⟨by repeat (first | (with_reducible first | exact HB.out | apply below_alloc | apply pw_below_drewN | apply below_drew1) | exact HB.out)⟩⟩
  case round =>
    obtain ⟨x4_1, rfl, HA, HO_3, HB⟩ := hrel
    obtain ⟨x3_1, hx3_⟩ : ∃ x_ : List Int, x_ = Go.Proofs.YtlkpgoddljjlbaaW.Mine.wideA l0 x4_1.toNat := ⟨_, rfl⟩
    rw [← hx3_] at HO_3
    have HLN : Aside0 (x3_1.length = m3) := ⟨by rw [hx3_, Go.Proofs.YtlkpgoddljjlbaaW.Mine.wideA_length, HM3.out]; have := HA.out; omega⟩
    have HX3 := Aside0.mk hx3_
    clear hx3_
    by_cases c4 : x4_1 < (l0.length : Int)
    · have c4b0 : decide (x4_1 < (l0.length : Int)) = true := decide_eq_true c4
      have c4_ := Aside0.mk c4
      clear c4
      cases gk with
      | zero => exact absurd HA.out.2 (by have := c4_.out; omega)
      | succ k1 =>
          have hw_ : wrap64 (x4_1 + 1) = x4_1 + 1 := by
            have := HL.out
            have := HA.out
            unfold wrap64
            omega
          have HWW := Aside0.mk hw_
          clear hw_
          have p10 : 0 ≤ x4_1 := HA.out.1
          obtain ⟨ad169, e169, hx169_0⟩ := Kd.at_int HR0.out x4_1 p10 c4_.out
          cases e169
          have q169 := eq_true c4_.out
          replace hx169_0 := (HB.out.cell (World.block_lt_of_cell? w _ hx169_0)).trans hx169_0
          obtain ⟨go10, co10, eo10, gb10, gl10, cl10, HG10⟩ := Kr.R_form HO_3.out (by rw [HLN.out, HM3.out]; omega)
          injection eo10 with ea_ en_ ec_
          (first | subst ea_ | (injection ea_ with ea_; subst ea_))
          clear ec_ en_
          have GB10 := Aside0.mk gb10
          clear gb10 gl10 HG10
          obtain ⟨hx10_0, hf10_0⟩ := Kr.R_celln 0 HO_3.out x4_1 p10 (by have h_ := HM3.out; have h2_ := c4_.out; have h3_ := HA.out; omega)
          replace p10 := eq_true p10
          have q10 : (x4_1 < (m3 : Int)) = True := eq_true (by have h_ := HM3.out; have h2_ := c4_.out; have h3_ := HA.out; omega)
          have HP11 := Kr.R_putg HO_3.out x4_1 (rd l0 x4_1)
          go_wp2_with (first | ((with_reducible refine gate_store (t := 5) (p := 22) rfl ?_); refine store_event (t := 5) (p := 22) (v := ?vo_w22) (w1 := (wr.setCell ⟨go10, (x4_1 : Int).toNat, none⟩ (.int .u8 (rd l0 x4_1)))) ?hg ?ho ?hn ?hr ?_; (case ho => rfl); (case hg => rfl); (case hn => rfl); (case hr => first | (go_simp; done) | (go_simp; rfl)); intro w12 hw; have hg : wr.grownBy w12 (some go10) := (by rw [hw]; exact HP11.2); have hp_ : Kr.R (Kd.int .u8) 5 w12 w.heap.size (fun _ => True) (.slice (some ⟨go10, 0, none⟩) m3 co_) (x3_1.set (x4_1 : Int).toNat (rd l0 x4_1)) := (by rw [hw]; exact HP11.1); clear HP11; have n0_ := Aside0.mk (hp_); have n1_ := Aside0.mk ((by rw [hw]; exact below_set (HB.out) GB10.out : Below w.heap.size w w12)); clear HO_3; clear HB; have HO_3 := n0_; have HB := n1_; clear n0_ n1_; clear hg hw hp_))

          go_roundg k1
          case measure => omega
          case rel =>
            refine ⟨x4_1 + 1, ?_, ⟨by have := HA.out; omega⟩, ⟨?_⟩, ⟨by repeat (first | (with_reducible first | exact HB.out | apply below_alloc | apply pw_below_drewN | apply below_drew1) | exact HB.out)⟩⟩
            · first | (rw [HWW.out]; done) | (simp only [HWW.out]; done) | (simp [HWW.out]; done) | (rw [← HWW.out])
            · have h8_ := Go.Proofs.YtlkpgoddljjlbaaW.Mine.wideA_succ l0 x4_1.toNat (by have := c4_.out; have := HA.out; omega)
              have h7_ : ((x4_1.toNat : Nat) : Int) = x4_1 := Int.toNat_of_nonneg HA.out.1
              rw [← HX3.out, h7_, show x4_1.toNat + 1 = (x4_1 + 1).toNat from by have := HA.out; omega] at h8_
              have h9_ := HO_3.out
              rw [h8_] at h9_
              (with_reducible repeat (first | apply Kr.R_alloc | apply Kr.R_drewN | apply Kr.R_drew))
              exact h9_
    · have c4b0 : decide (x4_1 < (l0.length : Int)) = false := decide_eq_false c4
      have c4_ := Aside0.mk c4
      clear c4
      have h0_ := HO_3.out
      rw [HX3.out, show x4_1.toNat = l0.length from by have := c4_.out; have := HA.out; omega, Go.Proofs.YtlkpgoddljjlbaaW.Mine.wideA_all] at h0_
      have HO_9 := Aside0.mk h0_
      clear h0_ HO_3
      go_wp2
      go_loopg [5] 3 (fun kq v5 w' => ∃ (x5_2 : Int), v5 = .int .i64 x5_2 ∧ Aside0 ((l0.length : Int) ≤ x5_2 ∧ (kq : Int) + x5_2 = (l0.length : Int) + 3) ∧ Aside0 (Kr.R (Kd.int .u8) 5 w' w.heap.size (fun _ => True) (.slice A_ m3 co_) (Go.Proofs.YtlkpgoddljjlbaaW.Mine.wideB l0 x5_2.toNat)) ∧ Aside0 (Below w.heap.size w w'))
      case atStart => exact ⟨(l0.length : Int), (by first | rfl | (simp; done) | (simp [*]; done)), ⟨by omega⟩, ⟨by rw [Int.toNat_natCast]; exact (by (with_reducible repeat (first | apply Kr.R_alloc | apply Kr.R_drewN | apply Kr.R_drew)); exact HO_9.out)⟩, ⟨by repeat (first | (with_reducible first | exact HB.out | apply below_alloc | apply pw_below_drewN | apply below_drew1) | exact HB.out)⟩⟩
      case round =>
        clear HX3 HLN HA
        obtain ⟨x5_2, rfl, HA, HO_3, HB⟩ := hrel
        obtain ⟨x3_1, hx3_⟩ : ∃ x_ : List Int, x_ = Go.Proofs.YtlkpgoddljjlbaaW.Mine.wideB l0 x5_2.toNat := ⟨_, rfl⟩
        rw [← hx3_] at HO_3
        have HLN : Aside0 (x3_1.length = m3) := ⟨by rw [hx3_, HM3.out, Go.Proofs.YtlkpgoddljjlbaaW.Mine.wideB_length] <;> (have := HA.out; omega)⟩
        have HX3 := Aside0.mk hx3_
        clear hx3_
        by_cases c5 : x5_2 < (m3 : Int)
        · have c5b0 : decide (x5_2 < (m3 : Int)) = true := decide_eq_true c5
          clear c4_
          have c4_ := Aside0.mk c5
          clear c5
          cases gk with
          | zero => exact absurd HA.out.2 (by have := c4_.out; have := HM3.out; omega)
          | succ k1 =>
          have hw_ : wrap64 (x5_2 + 1) = x5_2 + 1 := by
            have := HL.out
            have := HA.out
            unfold wrap64
            omega
          have HWW := Aside0.mk hw_
          clear hw_
          have p10 : 0 ≤ x5_2 := by have := HA.out; omega
          obtain ⟨go10, co10, eo10, gb10, gl10, cl10, HG10⟩ := Kr.R_form HO_3.out (by rw [HLN.out, HM3.out]; omega)
          injection eo10 with ea_ en_ ec_
          (first | subst ea_ | (injection ea_ with ea_; subst ea_))
          clear ec_ en_
          have GB10 := Aside0.mk gb10
          clear gb10 gl10 HG10
          obtain ⟨hx10_0, hf10_0⟩ := Kr.R_celln 0 HO_3.out x5_2 p10 (by have h_ := HM3.out; have h2_ := c4_.out; have h3_ := HA.out; omega)
          replace p10 := eq_true p10
          have q10 : (x5_2 < (m3 : Int)) = True := eq_true (by have h_ := HM3.out; have h2_ := c4_.out; have h3_ := HA.out; omega)
          have HP11 := Kr.R_putg HO_3.out x5_2 (7)
          go_wp2_with (first | ((with_reducible refine gate_store (t := 5) (p := 33) rfl ?_); refine store_event (t := 5) (p := 33) (v := ?vo_w33) (w1 := (wr.setCell ⟨go10, (x5_2 : Int).toNat, none⟩ (.int .u8 (7)))) ?hg ?ho ?hn ?hr ?_; (case ho => rfl); (case hg => rfl); (case hn => rfl); (case hr => first | (go_simp; done) | (go_simp; rfl)); intro w12 hw; have hg : wr.grownBy w12 (some go10) := (by rw [hw]; exact HP11.2); have hp_ : Kr.R (Kd.int .u8) 5 w12 w.heap.size (fun _ => True) (.slice (some ⟨go10, 0, none⟩) m3 co_) (x3_1.set (x5_2 : Int).toNat (7)) := (by rw [hw]; exact HP11.1); clear HP11; have n0_ := Aside0.mk (hp_); have n1_ := Aside0.mk ((by rw [hw]; exact below_set (HB.out) GB10.out : Below w.heap.size w w12)); clear HO_3; clear HB; have HO_3 := n0_; have HB := n1_; clear n0_ n1_; clear hg hw hp_))

          go_roundg k1
          case measure => omega
          case rel =>
            refine ⟨x5_2 + 1, ?_, ⟨by have := HA.out; omega⟩, ⟨?_⟩, ⟨by repeat (first | (with_reducible first | exact HB.out | apply below_alloc | apply pw_below_drewN | apply below_drew1) | exact HB.out)⟩⟩
            · first | (rw [HWW.out]; done) | (simp only [HWW.out]; done) | (simp [HWW.out]; done) | (rw [← HWW.out])
            · have h8_ := Go.Proofs.YtlkpgoddljjlbaaW.Mine.wideB_succ l0 x5_2.toNat (by have := HA.out; omega) (by have := c4_.out; have := HA.out; have := HM3.out; omega)
              rw [← HX3.out, show x5_2.toNat + 1 = (x5_2 + 1).toNat from by have := HA.out; omega] at h8_
              have h9_ := HO_3.out
              rw [h8_] at h9_
              (with_reducible repeat (first | apply Kr.R_alloc | apply Kr.R_drewN | apply Kr.R_drew))
              exact h9_
        · have c5b0 : decide (x5_2 < (m3 : Int)) = false := decide_eq_false c5
          have h0_ := HO_3.out
          rw [HX3.out, show x5_2.toNat = l0.length + 3 from by have := HA.out; have := HM3.out; omega, Go.Proofs.YtlkpgoddljjlbaaW.Mine.wideB_all] at h0_
          obtain ⟨i0_, hi0_, _, hsz0_, _⟩ := info_parts info5
          have hcc_ := (Kr.R_reads' h0_).2.1
          have hcut := cut_to (P := Try.prog) 29 5 .i64 Try.underlying29 hi0_ A_ m3 co_ (l0.length : Int) (by omega) (by have := HM3.out; omega) hcc_
          have hr_ := Kr.R_take (m := ((l0.length : Int) : Int).toNat) h0_ (by simp)
          have ht_ : (l0 ++ [7, 7, 7]).take ((l0.length : Int) : Int).toNat = l0 := by rw [Int.toNat_natCast, List.take_left]
          rw [ht_] at hr_
          simp only [Int.toNat_natCast] at hcut hr_
          have HO_8 := Aside0.mk hr_
          rw [HM3.out] at h0_
          have HO_7 := Aside0.mk h0_
          clear hr_ h0_ ht_ hi0_ hsz0_ hcc_ c5
          have c6b1 : decide (0 ≤ (l0.length : Int)) = true := decide_eq_true (by omega)
          have c7b1 : decide ((l0.length : Int) ≤ (m3 : Int)) = true := decide_eq_true (by have := HM3.out; omega)
          have c8b1 := eq_true (show (l0.length : Int) ≤ (m3 : Int) by have := HM3.out; omega)
          go_wp2
          go_ret
          refine ⟨_, rfl, by (with_reducible repeat (first | apply Kr.R_alloc | apply Kr.R_drewN | apply Kr.R_drew)); exact HO_8.out, ?_, by repeat (first | (with_reducible first | exact HB.out | apply below_alloc | apply pw_below_drewN | apply below_drew1) | exact HB.out)⟩
          show Kr.R (Kd.int .u8) 5 _ _ _ (.slice A_ (l0.length + 3) co_) _
          (with_reducible repeat (first | apply Kr.R_alloc | apply Kr.R_drewN | apply Kr.R_drew)); exact HO_7.out

/-! ### garderobelaw04_TypesFresh: function 6 -/
def garderobelaw04_TypesFresh.f (k : Nat) (l0_0 : List (S25)) (a0_1 : Int) (a0_2 : Int) (l1 : List Int) (a2 : Int) : Option (Bool) := if ([] : List (S25)).length + l0_0.length < 35184372088832 then ((some (([] : List (S25)) ++ l0_0 : List (S25))).bind fun y235 => ((types_PutSig.f k y235 a0_1 a0_2).bind fun bt238 => ((garderoberef00_Spoil.f k bt238.1 1).bind fun t242 => ((garderoberef00_Wide.f k l1).bind fun t243 => ((types_GetSig.f k t243 a2).bind fun bt246 => ((garderoberef00_Spoil.f k t243 1).bind fun t254 => ((types_GetSig.f k l1 a2).bind fun bt255 => ((garderoberef00_Types.f k y235 l0_0).bind fun t263 => (if t263 = true then (if bt246.2.2.2.2 = bt255.2.2.2.2 then (if (bt246.2.1 == bt255.2.1 && (bt246.2.2.1 == bt255.2.2.1)) = true then ((garderoberef00_Types.f k bt246.1 bt255.1).bind fun t264 => (if t264 = true then ((garderobelaw04_works.f k).bind fun t265 => (some t265)) else (none))) else (none)) else (none)) else (none)))))))))) else (none)
theorem garderobelaw04_TypesFresh.mono : ∀ a0 a1 a2 a3 a4 k, LeO (garderobelaw04_TypesFresh.f k a0 a1 a2 a3 a4) (garderobelaw04_TypesFresh.f (k + 1) a0 a1 a2 a3 a4) := by
  intro a0 a1 a2 a3 a4 k
  unfold garderobelaw04_TypesFresh.f
  repeat' first
      | (with_reducible exact garderobelaw04_works.mono _)
      | (with_reducible exact garderoberef00_Spoil.mono _ _ _)
      | (with_reducible exact garderoberef00_Types.mono _ _ _)
      | (with_reducible exact garderoberef00_Wide.mono _ _)
      | (with_reducible exact types_GetSig.mono _ _ _)
      | (with_reducible exact types_PutSig.mono _ _ _ _)
      | (with_reducible exact LeO.refl _)
      | (with_reducible exact LeO.none _)
      | (with_reducible refine LeO.ite ?_ ?_)
      | (with_reducible refine LeO.bind ?_ (fun _ => ?_))
      | exact garderobelaw04_works.mono _
      | exact garderoberef00_Spoil.mono _ _ _
      | exact garderoberef00_Types.mono _ _ _
      | exact garderoberef00_Wide.mono _ _
      | exact types_GetSig.mono _ _ _
      | exact types_PutSig.mono _ _ _ _
      | exact LeO.none _
      | refine LeO.ite ?_ ?_
      | refine LeO.bind ?_ (fun _ => ?_)
set_option maxHeartbeats 8000000 in
set_option maxRecDepth 100000 in
theorem garderobelaw04_TypesFresh.calls (k : Nat) (A0_0 : Option Addr) (c0_0 : Nat) (l0_0 : List (S25)) (a0_1 : Int) (a0_2 : Int) (A1 : Option Addr) (c1 : Nat) (l1 : List Int) (a2 : Int) (r : Bool) (w : World) (hr0_0 : Kd.C k25 w A0_0 l0_0.length l0_0) (hc0_0 : l0_0.length ≤ c0_0) (hr1 : Kd.C (Kd.int .u8) w A1 l1.length l1) (hc1 : l1.length ≤ c1) (h : garderobelaw04_TypesFresh.f k l0_0 a0_1 a0_2 l1 a2 = some r) :
    Calls Try.prog 6 #[.agg #[.slice A0_0 l0_0.length c0_0, .int .u8 a0_1, .int .u16 a0_2], .slice A1 l1.length c1, .int .i64 a2] w fun e w' => e = .returned (.bool r) ∧ Below w.heap.size w w' := by
  have hu28 := Try.underlying28
  have hu25 := Try.underlying25
  have HR0_0 := Aside0.mk hr0_0
  have HC0_0 := Aside0.mk hc0_0
  clear hr0_0 hc0_0
  have HR1 := Aside0.mk hr1
  have HC1 := Aside0.mk hc1
  clear hr1 hc1
  have HB := Aside0.mk (Below.refl w.heap.size w)
  have H : (if ([] : List (S25)).length + l0_0.length < 35184372088832 then ((some (([] : List (S25)) ++ l0_0 : List (S25))).bind fun y235 => ((types_PutSig.f k y235 a0_1 a0_2).bind fun bt238 => ((garderoberef00_Spoil.f k bt238.1 1).bind fun t242 => ((garderoberef00_Wide.f k l1).bind fun t243 => ((types_GetSig.f k t243 a2).bind fun bt246 => ((garderoberef00_Spoil.f k t243 1).bind fun t254 => ((types_GetSig.f k l1 a2).bind fun bt255 => ((garderoberef00_Types.f k y235 l0_0).bind fun t263 => (if t263 = true then (if bt246.2.2.2.2 = bt255.2.2.2.2 then (if (bt246.2.1 == bt255.2.1 && (bt246.2.2.1 == bt255.2.2.1)) = true then ((garderoberef00_Types.f k bt246.1 bt255.1).bind fun t264 => (if t264 = true then ((garderobelaw04_works.f k).bind fun t265 => (some t265)) else (none))) else (none)) else (none)) else (none)))))))))) else (none)) = some r := h
  clear h
  by_cases c4 : ([] : List (S25)).length + l0_0.length < 35184372088832
  · rw [if_pos c4] at H
    have LMc4 := Aside0.mk c4
    clear c4
    obtain ⟨y235, hy235⟩ : ∃ y_ : List (S25), y_ = (([] : List (S25)) ++ l0_0) := ⟨_, rfl⟩
    replace H : ((types_PutSig.f k y235 a0_1 a0_2).bind fun bt238 => ((garderoberef00_Spoil.f k bt238.1 1).bind fun t242 => ((garderoberef00_Wide.f k l1).bind fun t243 => ((types_GetSig.f k t243 a2).bind fun bt246 => ((garderoberef00_Spoil.f k t243 1).bind fun t254 => ((types_GetSig.f k l1 a2).bind fun bt255 => ((garderoberef00_Types.f k y235 l0_0).bind fun t263 => (if t263 = true then (if bt246.2.2.2.2 = bt255.2.2.2.2 then (if (bt246.2.1 == bt255.2.1 && (bt246.2.2.1 == bt255.2.2.1)) = true then ((garderoberef00_Types.f k bt246.1 bt255.1).bind fun t264 => (if t264 = true then ((garderobelaw04_works.f k).bind fun t265 => (some t265)) else (none))) else (none)) else (none)) else (none))))))))) = some r := by first | (rw [hy235]; with_reducible exact H) | (have H2_ := (Option.bind_some _ _).symm.trans H; rw [hy235]; with_reducible exact H2_) | (have H2_ := (Option.bind_some _ _).symm.trans H; with_reducible exact H2_) | with_reducible exact H | (rw [hy235]; exact H) | exact H
    have Ny235 := Aside0.mk hy235
    clear hy235
    replace H := Option.bind_eq_some_iff.mp H
    obtain ⟨⟨t238, t241⟩, A50, H⟩ := H
    replace H : ((garderoberef00_Spoil.f k t238 1).bind fun t242 => ((garderoberef00_Wide.f k l1).bind fun t243 => ((types_GetSig.f k t243 a2).bind fun bt246 => ((garderoberef00_Spoil.f k t243 1).bind fun t254 => ((types_GetSig.f k l1 a2).bind fun bt255 => ((garderoberef00_Types.f k y235 l0_0).bind fun t263 => (if t263 = true then (if bt246.2.2.2.2 = bt255.2.2.2.2 then (if (bt246.2.1 == bt255.2.1 && (bt246.2.2.1 == bt255.2.2.1)) = true then ((garderoberef00_Types.f k bt246.1 bt255.1).bind fun t264 => (if t264 = true then ((garderobelaw04_works.f k).bind fun t265 => (some t265)) else (none))) else (none)) else (none)) else (none)))))))) = some r := H
    have A5 := Aside0.mk A50
    clear A50
    replace H := Option.bind_eq_some_iff.mp H
    obtain ⟨t242, A60, H⟩ := H
    replace H : ((garderoberef00_Wide.f k l1).bind fun t243 => ((types_GetSig.f k t243 a2).bind fun bt246 => ((garderoberef00_Spoil.f k t243 1).bind fun t254 => ((types_GetSig.f k l1 a2).bind fun bt255 => ((garderoberef00_Types.f k y235 l0_0).bind fun t263 => (if t263 = true then (if bt246.2.2.2.2 = bt255.2.2.2.2 then (if (bt246.2.1 == bt255.2.1 && (bt246.2.2.1 == bt255.2.2.1)) = true then ((garderoberef00_Types.f k bt246.1 bt255.1).bind fun t264 => (if t264 = true then ((garderobelaw04_works.f k).bind fun t265 => (some t265)) else (none))) else (none)) else (none)) else (none))))))) = some r := H
    have A6 := Aside0.mk A60
    clear A60
    replace H := Option.bind_eq_some_iff.mp H
    obtain ⟨t243, A70, H⟩ := H
    replace H : ((types_GetSig.f k t243 a2).bind fun bt246 => ((garderoberef00_Spoil.f k t243 1).bind fun t254 => ((types_GetSig.f k l1 a2).bind fun bt255 => ((garderoberef00_Types.f k y235 l0_0).bind fun t263 => (if t263 = true then (if bt246.2.2.2.2 = bt255.2.2.2.2 then (if (bt246.2.1 == bt255.2.1 && (bt246.2.2.1 == bt255.2.2.1)) = true then ((garderoberef00_Types.f k bt246.1 bt255.1).bind fun t264 => (if t264 = true then ((garderobelaw04_works.f k).bind fun t265 => (some t265)) else (none))) else (none)) else (none)) else (none)))))) = some r := H
    have A7 := Aside0.mk A70
    clear A70
    replace H := Option.bind_eq_some_iff.mp H
    obtain ⟨⟨t246, t249, t250, t251, t252⟩, A80, H⟩ := H
    replace H : ((garderoberef00_Spoil.f k t243 1).bind fun t254 => ((types_GetSig.f k l1 a2).bind fun bt255 => ((garderoberef00_Types.f k y235 l0_0).bind fun t263 => (if t263 = true then (if t252 = bt255.2.2.2.2 then (if (t249 == bt255.2.1 && (t250 == bt255.2.2.1)) = true then ((garderoberef00_Types.f k t246 bt255.1).bind fun t264 => (if t264 = true then ((garderobelaw04_works.f k).bind fun t265 => (some t265)) else (none))) else (none)) else (none)) else (none))))) = some r := H
    have A8 := Aside0.mk A80
    clear A80
    replace H := Option.bind_eq_some_iff.mp H
    obtain ⟨t254, A90, H⟩ := H
    replace H : ((types_GetSig.f k l1 a2).bind fun bt255 => ((garderoberef00_Types.f k y235 l0_0).bind fun t263 => (if t263 = true then (if t252 = bt255.2.2.2.2 then (if (t249 == bt255.2.1 && (t250 == bt255.2.2.1)) = true then ((garderoberef00_Types.f k t246 bt255.1).bind fun t264 => (if t264 = true then ((garderobelaw04_works.f k).bind fun t265 => (some t265)) else (none))) else (none)) else (none)) else (none)))) = some r := H
    have A9 := Aside0.mk A90
    clear A90
    replace H := Option.bind_eq_some_iff.mp H
    obtain ⟨⟨t255, t258, t259, t260, t261⟩, A100, H⟩ := H
    replace H : ((garderoberef00_Types.f k y235 l0_0).bind fun t263 => (if t263 = true then (if t252 = t261 then (if (t249 == t258 && (t250 == t259)) = true then ((garderoberef00_Types.f k t246 t255).bind fun t264 => (if t264 = true then ((garderobelaw04_works.f k).bind fun t265 => (some t265)) else (none))) else (none)) else (none)) else (none))) = some r := H
    have A10 := Aside0.mk A100
    clear A100
    replace H := Option.bind_eq_some_iff.mp H
    obtain ⟨t263, A110, H⟩ := H
    replace H : (if t263 = true then (if t252 = t261 then (if (t249 == t258 && (t250 == t259)) = true then ((garderoberef00_Types.f k t246 t255).bind fun t264 => (if t264 = true then ((garderobelaw04_works.f k).bind fun t265 => (some t265)) else (none))) else (none)) else (none)) else (none)) = some r := H
    have A11 := Aside0.mk A110
    clear A110
    by_cases c12 : t263 = true
    · subst c12
      have H1 : (if t252 = t261 then (if (t249 == t258 && (t250 == t259)) = true then ((garderoberef00_Types.f k t246 t255).bind fun t264 => (if t264 = true then ((garderobelaw04_works.f k).bind fun t265 => (some t265)) else (none))) else (none)) else (none)) = some r := by rw [if_pos rfl] at H; exact H
      clear H
      have H := H1
      clear H1
      by_cases c13 : t252 = t261
      · rw [if_pos c13] at H
        have c13b0 : (t252 == t261) = true := beq_iff_eq.mpr c13
        have c13b1 : (t252 != t261) = false := bne_eq_false_iff_eq.mpr c13
        clear c13
        by_cases c14 : (t249 == t258 && (t250 == t259)) = true
        · rw [if_pos c14] at H
          have c14b0 : (t249 == t258 && (t250 == t259)) = true := c14
          (try (have c14b1 : decide (t249 = t258 && (t250 == t259)) = true := by simpa using c14))
          (try (have c14b2 : (t249 == t258 && (t250 == t259)) = true := by simpa using c14))
          clear c14
          replace H := Option.bind_eq_some_iff.mp H
          obtain ⟨t264, A150, H⟩ := H
          replace H : (if t264 = true then ((garderobelaw04_works.f k).bind fun t265 => (some t265)) else (none)) = some r := H
          have A15 := Aside0.mk A150
          clear A150
          by_cases c16 : t264 = true
          · subst c16
            have H1 : ((garderobelaw04_works.f k).bind fun t265 => (some t265)) = some r := by rw [if_pos rfl] at H; exact H
            clear H
            have H := H1
            clear H1
            replace H := Option.bind_eq_some_iff.mp H
            obtain ⟨t265, A170, H⟩ := H
            replace H : (some t265) = some r := H
            have A17 := Aside0.mk A170
            clear A170
            obtain rfl := Option.some.inj H
            go_enter Try.func6, Try.ntmps6
            go_wp2_with (first | ((with_reducible refine gate_dst (N := 3) rfl ?_); refine box_event ?hg (N := 3) ?hd (cs := #[.slice A0_0 l0_0.length c0_0, .int .u8 a0_1, .int .u16 a0_2]) (t := 28) ?hr ?_; (case hd => rfl); (case hg => rfl); (case hr => first | (go_simp; done) | (go_simp; rfl)); intro gb233 hg w18 hbox hb; have n0_ := Aside0.mk (below_step (by repeat (first | (with_reducible first | exact HB.out | apply below_alloc | apply pw_below_drewN | apply below_drew1) | exact HB.out)) hb); have n1_ := Aside0.mk (hbox); have n2_ := Aside0.mk ((by rw [hg]; exact (below_size (by repeat (first | (with_reducible first | exact HB.out | apply below_alloc | apply pw_below_drewN | apply below_drew1) | exact HB.out))) : w.heap.size ≤ gb233)); have n3_ := Aside0.mk ((by rw [hg]; exact (below_size (by repeat (first | (with_reducible first | exact HB.out | apply below_alloc | apply pw_below_drewN | apply below_drew1) | exact HB.out))) : w.heap.size ≤ gb233)); clear HB; have HB := n0_; have BK233 := n1_; have GW233 := n2_; have GE233 := n3_; clear n0_ n1_ n2_ n3_; clear hb hbox hg; have hcz19_0 : w18.cell? ⟨gb233, 0, none⟩ = some (.slice A0_0 l0_0.length c0_0) := (blk_cell BK233.out 0).trans rfl; have hcz19_1 : w18.cell? ⟨gb233, 1, none⟩ = some (.int .u8 a0_1) := (blk_cell BK233.out 1).trans rfl; have hcz19_2 : w18.cell? ⟨gb233, 2, none⟩ = some (.int .u16 a0_2) := (blk_cell BK233.out 2).trans rfl; have hfz19_0 := blk_frozen BK233.out 0; have hfz19_1 := blk_frozen BK233.out 1; have hfz19_2 := blk_frozen BK233.out 2) | ((with_reducible refine gate_dst (N := 7) rfl ?_); refine box_event ?hg (N := 7) ?hd (cs := #[.slice none 0 0, .int .u8 0, .int .u16 0]) (t := 28) ?hr ?_; (case hd => rfl); (case hg => rfl); (case hr => first | (go_simp; done) | (go_simp; rfl)); intro gb234 hg w20 hbox hb; have n0_ := Aside0.mk (blk_below (g := gb233) (o := .cells #[.slice A0_0 l0_0.length c0_0, .int .u8 a0_1, .int .u16 a0_2] 28 (0, 0)) (by (with_reducible repeat (first | refine blk_drewN ?_ _ | refine blk_drew ?_ | refine blk_alloc ?_ _)); exact BK233.out) hb); have n1_ := Aside0.mk (below_step (by repeat (first | (with_reducible first | exact HB.out | apply below_alloc | apply pw_below_drewN | apply below_drew1 | refine below_set ?_ GE233.out) | exact HB.out)) hb); have n2_ := Aside0.mk (hbox); have n3_ := Aside0.mk ((by rw [hg]; exact (below_size (by repeat (first | (with_reducible first | exact HB.out | apply below_alloc | apply pw_below_drewN | apply below_drew1 | refine below_set ?_ GE233.out) | exact HB.out))) : w.heap.size ≤ gb234)); have n4_ := Aside0.mk ((by rw [hg]; exact (below_size (by repeat (first | (with_reducible first | exact HB.out | apply below_alloc | apply pw_below_drewN | apply below_drew1 | refine below_set ?_ GE233.out) | exact HB.out))) : w.heap.size ≤ gb234)); have n5_ := Aside0.mk ((by rw [hg]; exact Nat.ne_of_lt (blk_lt (g := gb233) (o := .cells #[.slice A0_0 l0_0.length c0_0, .int .u8 a0_1, .int .u16 a0_2] 28 (0, 0)) (by (with_reducible repeat (first | refine blk_drewN ?_ _ | refine blk_drew ?_ | refine blk_alloc ?_ _)); exact BK233.out)) : gb233 ≠ gb234)); have n6_ := Aside0.mk ((by rw [hg]; exact Nat.ne_of_gt (blk_lt (g := gb233) (o := .cells #[.slice A0_0 l0_0.length c0_0, .int .u8 a0_1, .int .u16 a0_2] 28 (0, 0)) (by (with_reducible repeat (first | refine blk_drewN ?_ _ | refine blk_drew ?_ | refine blk_alloc ?_ _)); exact BK233.out)) : gb234 ≠ gb233)); clear BK233; clear HB; have BK233 := n0_; have HB := n1_; have BK234 := n2_; have GW234 := n3_; have GE234 := n4_; have NB233_234 := n5_; have NB234_233 := n6_; clear n0_ n1_ n2_ n3_ n4_ n5_ n6_; clear hb hbox hg; have hnb21 := NB234_233.out; have hnc21 := NB233_234.out; have hcz22_0 : w20.cell? ⟨gb234, 0, none⟩ = some (.slice none 0 0) := (blk_cell BK234.out 0).trans rfl; have hcz22_1 : w20.cell? ⟨gb234, 1, none⟩ = some (.int .u8 0) := (blk_cell BK234.out 1).trans rfl; have hcz22_2 : w20.cell? ⟨gb234, 2, none⟩ = some (.int .u16 0) := (blk_cell BK234.out 2).trans rfl; have hfz22_0 := blk_frozen BK234.out 0; have hfz22_1 := blk_frozen BK234.out 1; have hfz22_2 := blk_frozen BK234.out 2; have hcz23_0 : w20.cell? ⟨gb233, 0, none⟩ = some (.slice A0_0 l0_0.length c0_0) := (blk_cell BK233.out 0).trans rfl; have hcz23_1 : w20.cell? ⟨gb233, 1, none⟩ = some (.int .u8 a0_1) := (blk_cell BK233.out 1).trans rfl; have hcz23_2 : w20.cell? ⟨gb233, 2, none⟩ = some (.int .u16 a0_2) := (blk_cell BK233.out 2).trans rfl; have hfz23_0 := blk_frozen BK233.out 0; have hfz23_1 := blk_frozen BK233.out 1; have hfz23_2 := blk_frozen BK233.out 2) | ((with_reducible refine gate_builtin (b := .append) (xs := #[.tmp 21, .tmp 23]) rfl ?_); at_builtin; refine Kr.R_append_rows k25 (w0 := w) w.heap.size rfl (.tmp 21) (.tmp 23) 26 25 (.agg #[(.int .u8 0), (.int .u16 0)]) 4 rfl Try.underlying26 info25 rfl (by decide) (by omega) (.slice none 0 0) ([] : List (S25)) l0_0 _ _ _ (fun _ => True) (fun _ => False) rfl rfl ?aO ?aR (fun _ _ h => h) (fun _ h => h.elim) ?aF ?aB ?aS ?aL ?_; (case aR => exact Kd.C_below HR0_0.out (by repeat (first | (with_reducible first | exact HB.out | apply below_alloc | apply pw_below_drewN | apply below_drew1 | refine below_set ?_ GE233.out | refine below_set ?_ GE234.out) | exact HB.out))); (case aB => exact (by repeat (first | (with_reducible first | exact HB.out | apply below_alloc | apply pw_below_drewN | apply below_drew1 | refine below_set ?_ GE233.out | refine below_set ?_ GE234.out) | exact HB.out))); (case aF => exact (fun _ _ => trivial)); (case aO => exact ((Kr.R_nil _ _ _ _ (fun _ => True)))); (case aS => exact (below_size (by repeat (first | (with_reducible first | exact HB.out | apply below_alloc | apply pw_below_drewN | apply below_drew1 | refine below_set ?_ GE233.out | refine below_set ?_ GE234.out) | exact HB.out)))); (case aL => have := LMc4.out; omega); intro v236 w24 ho hb hg hat; rw [← Ny235.out] at ho; have n0_ := Aside0.mk (blk_grown (g := gb233) (o := .cells #[.slice A0_0 l0_0.length c0_0, .int .u8 a0_1, .int .u16 a0_2] 28 (0, 0)) (by (with_reducible repeat (first | refine blk_drewN ?_ _ | refine blk_drew ?_ | refine blk_alloc ?_ _)); refine blk_far ?_ NB233_234.out _; (with_reducible repeat (first | refine blk_drewN ?_ _ | refine blk_drew ?_ | refine blk_alloc ?_ _)); refine blk_far ?_ NB233_234.out _; (with_reducible repeat (first | refine blk_drewN ?_ _ | refine blk_drew ?_ | refine blk_alloc ?_ _)); refine blk_far ?_ NB233_234.out _; (with_reducible repeat (first | refine blk_drewN ?_ _ | refine blk_drew ?_ | refine blk_alloc ?_ _)); exact BK233.out) hg (by simp [Value.ownBlock])); have n1_ := Aside0.mk (blk_grown (g := gb234) (o := .cells #[.slice none 0 0, .int .u8 a0_1, .int .u16 a0_2] 28 (0, 0)) (by (with_reducible repeat (first | refine blk_drewN ?_ _ | refine blk_drew ?_ | refine blk_alloc ?_ _)); refine blk_put (cs := #[.slice none 0 0, .int .u8 a0_1, .int .u16 0]) ?_ 2 _ rfl; (with_reducible repeat (first | refine blk_drewN ?_ _ | refine blk_drew ?_ | refine blk_alloc ?_ _)); refine blk_put (cs := #[.slice none 0 0, .int .u8 0, .int .u16 0]) ?_ 1 _ rfl; (with_reducible repeat (first | refine blk_drewN ?_ _ | refine blk_drew ?_ | refine blk_alloc ?_ _)); refine blk_put (cs := #[.slice none 0 0, .int .u8 0, .int .u16 0]) ?_ 0 _ rfl; (with_reducible repeat (first | refine blk_drewN ?_ _ | refine blk_drew ?_ | refine blk_alloc ?_ _)); exact BK234.out) hg (by simp [Value.ownBlock])); have n2_ := Aside0.mk (hb); have n3_ := Aside0.mk (ho); clear BK233; clear BK234; clear HB; have BK233 := n0_; have BK234 := n1_; have HB := n2_; have HO237 := n3_; clear n0_ n1_ n2_ n3_; clear ho hb hg hat; obtain ⟨Ao25, co25, eo25⟩ := Kr.R_slice HO237.out; subst eo25; have hcz26_0 : w24.cell? ⟨gb234, 0, none⟩ = some (.slice none 0 0) := (blk_cell BK234.out 0).trans rfl; have hcz26_1 : w24.cell? ⟨gb234, 1, none⟩ = some (.int .u8 a0_1) := (blk_cell BK234.out 1).trans rfl; have hcz26_2 : w24.cell? ⟨gb234, 2, none⟩ = some (.int .u16 a0_2) := (blk_cell BK234.out 2).trans rfl; have hfz26_0 := blk_frozen BK234.out 0; have hfz26_1 := blk_frozen BK234.out 1; have hfz26_2 := blk_frozen BK234.out 2) | ((with_reducible refine gate_callee (f := 10) rfl ?_); refine goesL_ (some 28) rfl rfl Try.func10 (by kernel_rfl) rfl #[.agg #[.slice Ao25 y235.length co25, .int .u8 a0_1, .int .u16 a0_2]] rfl (by (try simp only [List.map_toArray, List.map_cons, List.map_nil]); first | done | rfl | (simp only [List.length_drop, List.length_take]; rfl)) ?_; (with_reducible refine (types_PutSig.calls k _ _ y235 a0_1 a0_2 t238 t241 _ ?side1 ?side2 A5.out).mono ?_); (case side1 => refine (Kr.R_reads' (e := 25) (base := w.heap.size) (ok := fun k_ => True) (n := y235.length) (c := co25) ?_).2.2; exact (by (with_reducible repeat (first | apply Kr.R_alloc | apply Kr.R_drewN | apply Kr.R_drew)); exact (Kr.R_mono (Kr.R_far (p := ⟨gb234, 0, none⟩) (Kr.R_types HO237.out BK234.out (by decide)) (fun _ hk => hk.2) (.slice Ao25 y235.length co25)) (fun _ h_ => h_.1)))); (case side2 => exact (Kr.R_reads' HO237.out).2.1); rintro e w27 ⟨v239, rfl, ho0, hb⟩; refine ⟨_, rfl, ?_⟩; have n0_ := Aside0.mk (Kr.R_below (by (with_reducible repeat (first | apply Kr.R_alloc | apply Kr.R_drewN | apply Kr.R_drew)); exact (Kr.R_mono (Kr.R_far (p := ⟨gb234, 0, none⟩) (Kr.R_types HO237.out BK234.out (by decide)) (fun _ hk => hk.2) (.slice Ao25 y235.length co25)) (fun _ h_ => h_.1))) hb); have n1_ := Aside0.mk (Kr.R_lower ho0 (below_size (by repeat (first | (with_reducible first | exact HB.out | apply below_alloc | apply pw_below_drewN | apply below_drew1 | refine below_set ?_ GE233.out | refine below_set ?_ GE234.out) | exact HB.out)))); have n2_ := Aside0.mk (blk_below (g := gb233) (o := .cells #[.slice A0_0 l0_0.length c0_0, .int .u8 a0_1, .int .u16 a0_2] 28 (0, 0)) (by (with_reducible repeat (first | refine blk_drewN ?_ _ | refine blk_drew ?_ | refine blk_alloc ?_ _)); refine blk_far ?_ NB233_234.out _; (with_reducible repeat (first | refine blk_drewN ?_ _ | refine blk_drew ?_ | refine blk_alloc ?_ _)); exact BK233.out) hb); have n3_ := Aside0.mk (blk_below (g := gb234) (o := .cells #[.slice Ao25 y235.length co25, .int .u8 a0_1, .int .u16 a0_2] 28 (0, 0)) (by (with_reducible repeat (first | refine blk_drewN ?_ _ | refine blk_drew ?_ | refine blk_alloc ?_ _)); refine blk_put (cs := #[.slice none 0 0, .int .u8 a0_1, .int .u16 a0_2]) ?_ 0 _ rfl; (with_reducible repeat (first | refine blk_drewN ?_ _ | refine blk_drew ?_ | refine blk_alloc ?_ _)); exact BK234.out) hb); have n4_ := Aside0.mk (below_step (by repeat (first | (with_reducible first | exact HB.out | apply below_alloc | apply pw_below_drewN | apply below_drew1 | refine below_set ?_ GE233.out | refine below_set ?_ GE234.out) | exact HB.out)) hb); clear HO237; clear BK233; clear BK234; clear HB; have HO237 := n0_; have HO240 := n1_; have BK233 := n2_; have BK234 := n3_; have HB := n4_; clear n0_ n1_ n2_ n3_ n4_; (try clear hb); (try clear hb2); (try clear hk); (try clear hi); (try clear ho0); obtain ⟨Ao28, co28, eo28⟩ := Kr.R_slice HO240.out; subst eo28) | ((with_reducible refine gate_callee (f := 29) rfl ?_); refine goesL_ (some 32) rfl rfl Try.func29 (by kernel_rfl) rfl #[.slice Ao28 t238.length co28, .int .u8 1] rfl (by (try simp only [List.map_toArray, List.map_cons, List.map_nil]); first | done | rfl | (simp only [List.length_drop, List.length_take]; rfl)) ?_; (with_reducible refine (garderoberef00_Spoil.calls k (fun k_ => some k_ = (.slice Ao28 t238.length co28 : Value).ownBlock) (.slice Ao28 t238.length co28) t238 1 t242 w _ ?side1 ?side2 A6.out).mono ?_); (case side1 => repeat (first | (with_reducible first | exact HB.out | apply below_alloc | apply pw_below_drewN | apply below_drew1 | refine below_set ?_ GE233.out | refine below_set ?_ GE234.out) | exact HB.out)); (case side2 => exact Kr.R_tight rfl HO240.out); rintro e w29 ⟨rfl, hy0, hb, hkp⟩; refine ⟨_, rfl, ?_⟩; have n0_ := Aside0.mk (blk_kept (by (with_reducible repeat (first | refine blk_drewN ?_ _ | refine blk_drew ?_ | refine blk_alloc ?_ _)); exact BK233.out) hkp (fun hs_ => (fun e_ => (Kr.R_ne HO240.out BK233.out (by decide)) e_) hs_)); have n1_ := Aside0.mk (blk_kept (by (with_reducible repeat (first | refine blk_drewN ?_ _ | refine blk_drew ?_ | refine blk_alloc ?_ _)); exact BK234.out) hkp (fun hs_ => (fun e_ => (Kr.R_ne HO240.out BK234.out (by decide)) e_) hs_)); have n2_ := Aside0.mk (Kr.R_mono (ok' := fun k_ => True) (Kr.R_keptB ((Kr.R_apart' HO237.out (Kr.R_typed HO240.out) (by decide))) hkp (fun k_ hk_ hs_ => (hk_.2) hs_)) (fun k_ hk_ => trivial)); have n3_ := Aside0.mk (Kr.R_reok rfl hy0 (fun k_ e_ => HO240.out.1.1 k_ e_)); have n4_ := Aside0.mk (hb); clear BK233; clear BK234; clear HO237; clear HO240; clear HB; have BK233 := n0_; have BK234 := n1_; have HO237 := n2_; have HO240 := n3_; have HB := n4_; clear n0_ n1_ n2_ n3_ n4_; (try clear hb); (try clear hkp); (try clear hy0)) | ((with_reducible refine gate_callee (f := 30) rfl ?_); refine goesL_ (some 34) rfl rfl Try.func30 (by kernel_rfl) rfl #[.slice A1 l1.length c1] rfl (by (try simp only [List.map_toArray, List.map_cons, List.map_nil]); first | done | rfl | (simp only [List.length_drop, List.length_take]; rfl)) ?_; (with_reducible refine (garderoberef00_Wide.calls k _ _ l1 t243 _ ?side1 ?side2 A7.out).mono ?_); (case side1 => repeat (first | exact (Kd.C_below HR1.out HB.out) | (with_reducible refine Kd.C_alloc ?_ _) | (with_reducible refine Kd.C_drewN ?_ _) | (with_reducible refine Kd.C_drew ?_))); (case side2 => exact HC1.out); rintro e w30 ⟨v244, rfl, ho0, -, hb⟩; refine ⟨_, rfl, ?_⟩; have n0_ := Aside0.mk (Kr.R_below (by (with_reducible repeat (first | apply Kr.R_alloc | apply Kr.R_drewN | apply Kr.R_drew)); exact HO237.out) hb); have n1_ := Aside0.mk (Kr.R_elder' (by (with_reducible repeat (first | apply Kr.R_alloc | apply Kr.R_drewN | apply Kr.R_drew)); exact HO240.out) (Kr.R_base ho0) hb); have n2_ := Aside0.mk (Kr.R_lower (Kr.R_new' ho0 (Kr.R_lt (by (with_reducible repeat (first | apply Kr.R_alloc | apply Kr.R_drewN | apply Kr.R_drew)); exact HO240.out))) (below_size (by repeat (first | (with_reducible first | exact HB.out | apply below_alloc | apply pw_below_drewN | apply below_drew1 | refine below_set ?_ GE233.out | refine below_set ?_ GE234.out) | exact HB.out)))); have n3_ := Aside0.mk (blk_below (g := gb233) (o := .cells #[.slice A0_0 l0_0.length c0_0, .int .u8 a0_1, .int .u16 a0_2] 28 (0, 0)) (by (with_reducible repeat (first | refine blk_drewN ?_ _ | refine blk_drew ?_ | refine blk_alloc ?_ _)); exact BK233.out) hb); have n4_ := Aside0.mk (blk_below (g := gb234) (o := .cells #[.slice Ao25 y235.length co25, .int .u8 a0_1, .int .u16 a0_2] 28 (0, 0)) (by (with_reducible repeat (first | refine blk_drewN ?_ _ | refine blk_drew ?_ | refine blk_alloc ?_ _)); exact BK234.out) hb); have n5_ := Aside0.mk (below_step (by repeat (first | (with_reducible first | exact HB.out | apply below_alloc | apply pw_below_drewN | apply below_drew1 | refine below_set ?_ GE233.out | refine below_set ?_ GE234.out) | exact HB.out)) hb); clear HO237; clear HO240; clear BK233; clear BK234; clear HB; have HO237 := n0_; have HO240 := n1_; have HO245 := n2_; have BK233 := n3_; have BK234 := n4_; have HB := n5_; clear n0_ n1_ n2_ n3_ n4_ n5_; (try clear hb); (try clear hb2); (try clear hk); (try clear hi); (try clear ho0); obtain ⟨Ao31, co31, eo31⟩ := Kr.R_slice HO245.out; subst eo31) | ((with_reducible refine gate_callee (f := 26) rfl ?_); refine goesL_ (some 38) rfl rfl Try.func26 (by kernel_rfl) rfl #[.slice Ao31 t243.length co31, .int .i64 a2] rfl (by (try simp only [List.map_toArray, List.map_cons, List.map_nil]); first | done | rfl | (simp only [List.length_drop, List.length_take]; rfl)) ?_; (with_reducible refine (types_GetSig.calls k _ _ t243 a2 t246 t249 t250 t251 t252 _ ?side1 ?side2 A8.out).mono ?_); (case side1 => repeat (first | exact (Kr.R_reads' HO245.out).2.2 | (with_reducible refine Kd.C_alloc ?_ _) | (with_reducible refine Kd.C_drewN ?_ _) | (with_reducible refine Kd.C_drew ?_))); (case side2 => exact (Kr.R_reads' HO245.out).2.1); rintro e w32 ⟨v247, rfl, ho0, hb⟩; refine ⟨_, rfl, ?_⟩; have n0_ := Aside0.mk (Kr.R_elder' (by (with_reducible repeat (first | apply Kr.R_alloc | apply Kr.R_drewN | apply Kr.R_drew)); exact HO237.out) (Kr.R_base ho0) hb); have n1_ := Aside0.mk (Kr.R_below (by (with_reducible repeat (first | apply Kr.R_alloc | apply Kr.R_drewN | apply Kr.R_drew)); exact HO240.out) hb); have n2_ := Aside0.mk (Kr.R_below (by (with_reducible repeat (first | apply Kr.R_alloc | apply Kr.R_drewN | apply Kr.R_drew)); exact HO245.out) hb); have n3_ := Aside0.mk (Kr.R_lower (Kr.R_new' ho0 (Kr.R_lt (by (with_reducible repeat (first | apply Kr.R_alloc | apply Kr.R_drewN | apply Kr.R_drew)); exact HO237.out))) (below_size (by repeat (first | (with_reducible first | exact HB.out | apply below_alloc | apply pw_below_drewN | apply below_drew1 | refine below_set ?_ GE233.out | refine below_set ?_ GE234.out) | exact HB.out)))); have n4_ := Aside0.mk (blk_below (g := gb233) (o := .cells #[.slice A0_0 l0_0.length c0_0, .int .u8 a0_1, .int .u16 a0_2] 28 (0, 0)) (by (with_reducible repeat (first | refine blk_drewN ?_ _ | refine blk_drew ?_ | refine blk_alloc ?_ _)); exact BK233.out) hb); have n5_ := Aside0.mk (blk_below (g := gb234) (o := .cells #[.slice Ao25 y235.length co25, .int .u8 a0_1, .int .u16 a0_2] 28 (0, 0)) (by (with_reducible repeat (first | refine blk_drewN ?_ _ | refine blk_drew ?_ | refine blk_alloc ?_ _)); exact BK234.out) hb); have n6_ := Aside0.mk (below_step (by repeat (first | (with_reducible first | exact HB.out | apply below_alloc | apply pw_below_drewN | apply below_drew1 | refine below_set ?_ GE233.out | refine below_set ?_ GE234.out) | exact HB.out)) hb); clear HO237; clear HO240; clear HO245; clear BK233; clear BK234; clear HB; have HO237 := n0_; have HO240 := n1_; have HO245 := n2_; have HO248 := n3_; have BK233 := n4_; have BK234 := n5_; have HB := n6_; clear n0_ n1_ n2_ n3_ n4_ n5_ n6_; (try clear hb); (try clear hb2); (try clear hk); (try clear hi); (try clear ho0)) | ((with_reducible refine gate_dst (N := 11) rfl ?_); refine box_event ?hg (N := 11) ?hd (cs := #[.slice none 0 0, .int .u8 0, .int .u16 0]) (t := 28) ?hr ?_; (case hd => rfl); (case hg => rfl); (case hr => first | (go_simp; done) | (go_simp; rfl)); intro gb253 hg w33 hbox hb; have n0_ := Aside0.mk (Kr.R_below (by (with_reducible repeat (first | apply Kr.R_alloc | apply Kr.R_drewN | apply Kr.R_drew)); exact HO237.out) hb); have n1_ := Aside0.mk (Kr.R_below (by (with_reducible repeat (first | apply Kr.R_alloc | apply Kr.R_drewN | apply Kr.R_drew)); exact HO240.out) hb); have n2_ := Aside0.mk (Kr.R_below (by (with_reducible repeat (first | apply Kr.R_alloc | apply Kr.R_drewN | apply Kr.R_drew)); exact HO245.out) hb); have n3_ := Aside0.mk (Kr.R_below (by (with_reducible repeat (first | apply Kr.R_alloc | apply Kr.R_drewN | apply Kr.R_drew)); exact HO248.out) hb); have n4_ := Aside0.mk (blk_below (g := gb233) (o := .cells #[.slice A0_0 l0_0.length c0_0, .int .u8 a0_1, .int .u16 a0_2] 28 (0, 0)) (by (with_reducible repeat (first | refine blk_drewN ?_ _ | refine blk_drew ?_ | refine blk_alloc ?_ _)); exact BK233.out) hb); have n5_ := Aside0.mk (blk_below (g := gb234) (o := .cells #[.slice Ao25 y235.length co25, .int .u8 a0_1, .int .u16 a0_2] 28 (0, 0)) (by (with_reducible repeat (first | refine blk_drewN ?_ _ | refine blk_drew ?_ | refine blk_alloc ?_ _)); exact BK234.out) hb); have n6_ := Aside0.mk (below_step (by repeat (first | (with_reducible first | exact HB.out | apply below_alloc | apply pw_below_drewN | apply below_drew1 | refine below_set ?_ GE233.out | refine below_set ?_ GE234.out) | exact HB.out)) hb); have n7_ := Aside0.mk (hbox); have n8_ := Aside0.mk ((by rw [hg]; exact (below_size (by repeat (first | (with_reducible first | exact HB.out | apply below_alloc | apply pw_below_drewN | apply below_drew1 | refine below_set ?_ GE233.out | refine below_set ?_ GE234.out) | exact HB.out))) : w.heap.size ≤ gb253)); have n9_ := Aside0.mk ((by rw [hg]; exact (below_size (by repeat (first | (with_reducible first | exact HB.out | apply below_alloc | apply pw_below_drewN | apply below_drew1 | refine below_set ?_ GE233.out | refine below_set ?_ GE234.out) | exact HB.out))) : w.heap.size ≤ gb253)); have n10_ := Aside0.mk ((by rw [hg]; exact Nat.ne_of_lt (blk_lt (g := gb233) (o := .cells #[.slice A0_0 l0_0.length c0_0, .int .u8 a0_1, .int .u16 a0_2] 28 (0, 0)) (by (with_reducible repeat (first | refine blk_drewN ?_ _ | refine blk_drew ?_ | refine blk_alloc ?_ _)); exact BK233.out)) : gb233 ≠ gb253)); have n11_ := Aside0.mk ((by rw [hg]; exact Nat.ne_of_gt (blk_lt (g := gb233) (o := .cells #[.slice A0_0 l0_0.length c0_0, .int .u8 a0_1, .int .u16 a0_2] 28 (0, 0)) (by (with_reducible repeat (first | refine blk_drewN ?_ _ | refine blk_drew ?_ | refine blk_alloc ?_ _)); exact BK233.out)) : gb253 ≠ gb233)); have n12_ := Aside0.mk ((by rw [hg]; exact Nat.ne_of_lt (blk_lt (g := gb234) (o := .cells #[.slice Ao25 y235.length co25, .int .u8 a0_1, .int .u16 a0_2] 28 (0, 0)) (by (with_reducible repeat (first | refine blk_drewN ?_ _ | refine blk_drew ?_ | refine blk_alloc ?_ _)); exact BK234.out)) : gb234 ≠ gb253)); have n13_ := Aside0.mk ((by rw [hg]; exact Nat.ne_of_gt (blk_lt (g := gb234) (o := .cells #[.slice Ao25 y235.length co25, .int .u8 a0_1, .int .u16 a0_2] 28 (0, 0)) (by (with_reducible repeat (first | refine blk_drewN ?_ _ | refine blk_drew ?_ | refine blk_alloc ?_ _)); exact BK234.out)) : gb253 ≠ gb234)); clear HO237; clear HO240; clear HO245; clear HO248; clear BK233; clear BK234; clear HB; have HO237 := n0_; have HO240 := n1_; have HO245 := n2_; have HO248 := n3_; have BK233 := n4_; have BK234 := n5_; have HB := n6_; have BK253 := n7_; have GW253 := n8_; have GE253 := n9_; have NB233_253 := n10_; have NB253_233 := n11_; have NB234_253 := n12_; have NB253_234 := n13_; clear n0_ n1_ n2_ n3_ n4_ n5_ n6_ n7_ n8_ n9_ n10_ n11_ n12_ n13_; clear hb hbox hg; obtain ⟨Ao34, co34, eo34⟩ := Kr.R_slice HO248.out; subst eo34; have hnb35 := NB253_233.out; have hnc35 := NB233_253.out; have hnb36 := NB253_234.out; have hnc36 := NB234_253.out; have hcz37_0 : w33.cell? ⟨gb253, 0, none⟩ = some (.slice none 0 0) := (blk_cell BK253.out 0).trans rfl; have hcz37_1 : w33.cell? ⟨gb253, 1, none⟩ = some (.int .u8 0) := (blk_cell BK253.out 1).trans rfl; have hcz37_2 : w33.cell? ⟨gb253, 2, none⟩ = some (.int .u16 0) := (blk_cell BK253.out 2).trans rfl; have hfz37_0 := blk_frozen BK253.out 0; have hfz37_1 := blk_frozen BK253.out 1; have hfz37_2 := blk_frozen BK253.out 2) | ((with_reducible refine gate_store (t := 28) (p := 11) rfl ?_); refine store_event (t := 28) (p := 11) (v := ?vo_w38) (w1 := (((w33.setCell ⟨gb253, 0, none⟩ (.slice Ao34 t246.length co34)).setCell ⟨gb253, 1, none⟩ (.int .u8 t249)).setCell ⟨gb253, 2, none⟩ (.int .u16 t250))) ?hg ?ho ?hn ?hr ?_; (case ho => rfl); (case hg => rfl); (case hn => rfl); (case hr => first | (go_simp; done) | (go_simp; rfl)); intro w38 hw; have n0_ : Aside0 (Kr.R k25 25 w38 w.heap.size (fun k_ => some k_ ≠ (.slice Ao34 t246.length co34 : Value).ownBlock) (.slice Ao25 y235.length co25) y235) := ⟨(by rw [hw]; exact (by (with_reducible repeat (first | apply Kr.R_alloc | apply Kr.R_drewN | apply Kr.R_drew)); exact Kr.R_mono (Kr.R_far (p := ⟨gb253, 2, none⟩) (Kr.R_far (p := ⟨gb253, 1, none⟩) (Kr.R_far (p := ⟨gb253, 0, none⟩) (Kr.R_types HO237.out BK253.out (by decide)) (fun _ hk => hk.2) (.slice Ao34 t246.length co34)) (fun _ hk => hk.2) (.int .u8 t249)) (fun _ hk => hk.2) (.int .u16 t250)) (fun _ hk => hk.1.2)))⟩; have n1_ : Aside0 (Kr.R (Kd.int .u8) 5 w38 w.heap.size (fun k_ => some k_ ≠ (.slice Ao31 t243.length co31 : Value).ownBlock) (.slice Ao28 t238.length co28) t242) := ⟨(by rw [hw]; exact (by (with_reducible repeat (first | apply Kr.R_alloc | apply Kr.R_drewN | apply Kr.R_drew)); exact Kr.R_mono (Kr.R_far (p := ⟨gb253, 2, none⟩) (Kr.R_far (p := ⟨gb253, 1, none⟩) (Kr.R_far (p := ⟨gb253, 0, none⟩) (Kr.R_types HO240.out BK253.out (by decide)) (fun _ hk => hk.2) (.slice Ao34 t246.length co34)) (fun _ hk => hk.2) (.int .u8 t249)) (fun _ hk => hk.2) (.int .u16 t250)) (fun _ hk => hk.1.2)))⟩; have n2_ : Aside0 (Kr.R (Kd.int .u8) 5 w38 w.heap.size (fun k_ => some k_ ≠ (.slice Ao28 t238.length co28 : Value).ownBlock) (.slice Ao31 t243.length co31) t243) := ⟨(by rw [hw]; exact (by (with_reducible repeat (first | apply Kr.R_alloc | apply Kr.R_drewN | apply Kr.R_drew)); exact Kr.R_mono (Kr.R_far (p := ⟨gb253, 2, none⟩) (Kr.R_far (p := ⟨gb253, 1, none⟩) (Kr.R_far (p := ⟨gb253, 0, none⟩) (Kr.R_types HO245.out BK253.out (by decide)) (fun _ hk => hk.2) (.slice Ao34 t246.length co34)) (fun _ hk => hk.2) (.int .u8 t249)) (fun _ hk => hk.2) (.int .u16 t250)) (fun _ hk => hk.1.2)))⟩; have n3_ : Aside0 (Kr.R k25 25 w38 w.heap.size (fun k_ => some k_ ≠ (.slice Ao25 y235.length co25 : Value).ownBlock) (.slice Ao34 t246.length co34) t246) := ⟨(by rw [hw]; exact (by (with_reducible repeat (first | apply Kr.R_alloc | apply Kr.R_drewN | apply Kr.R_drew)); exact Kr.R_mono (Kr.R_far (p := ⟨gb253, 2, none⟩) (Kr.R_far (p := ⟨gb253, 1, none⟩) (Kr.R_far (p := ⟨gb253, 0, none⟩) (Kr.R_types HO248.out BK253.out (by decide)) (fun _ hk => hk.2) (.slice Ao34 t246.length co34)) (fun _ hk => hk.2) (.int .u8 t249)) (fun _ hk => hk.2) (.int .u16 t250)) (fun _ hk => hk.1.2)))⟩; have n4_ : Aside0 (w38.heap[gb233]? = some (.cells #[.slice A0_0 l0_0.length c0_0, .int .u8 a0_1, .int .u16 a0_2] 28 (0, 0))) := ⟨(by rw [hw]; exact (by (with_reducible repeat (first | refine blk_drewN ?_ _ | refine blk_drew ?_ | refine blk_alloc ?_ _)); refine blk_far ?_ NB233_253.out _; (with_reducible repeat (first | refine blk_drewN ?_ _ | refine blk_drew ?_ | refine blk_alloc ?_ _)); refine blk_far ?_ NB233_253.out _; (with_reducible repeat (first | refine blk_drewN ?_ _ | refine blk_drew ?_ | refine blk_alloc ?_ _)); refine blk_far ?_ NB233_253.out _; (with_reducible repeat (first | refine blk_drewN ?_ _ | refine blk_drew ?_ | refine blk_alloc ?_ _)); exact BK233.out))⟩; have n5_ : Aside0 (w38.heap[gb234]? = some (.cells #[.slice Ao25 y235.length co25, .int .u8 a0_1, .int .u16 a0_2] 28 (0, 0))) := ⟨(by rw [hw]; exact (by (with_reducible repeat (first | refine blk_drewN ?_ _ | refine blk_drew ?_ | refine blk_alloc ?_ _)); refine blk_far ?_ NB234_253.out _; (with_reducible repeat (first | refine blk_drewN ?_ _ | refine blk_drew ?_ | refine blk_alloc ?_ _)); refine blk_far ?_ NB234_253.out _; (with_reducible repeat (first | refine blk_drewN ?_ _ | refine blk_drew ?_ | refine blk_alloc ?_ _)); refine blk_far ?_ NB234_253.out _; (with_reducible repeat (first | refine blk_drewN ?_ _ | refine blk_drew ?_ | refine blk_alloc ?_ _)); exact BK234.out))⟩; have n6_ : Aside0 (w38.heap[gb253]? = some (.cells #[.slice Ao34 t246.length co34, .int .u8 t249, .int .u16 t250] 28 (0, 0))) := ⟨(by rw [hw]; exact (by (with_reducible repeat (first | refine blk_drewN ?_ _ | refine blk_drew ?_ | refine blk_alloc ?_ _)); refine blk_put (cs := #[.slice Ao34 t246.length co34, .int .u8 t249, .int .u16 0]) ?_ 2 _ rfl; (with_reducible repeat (first | refine blk_drewN ?_ _ | refine blk_drew ?_ | refine blk_alloc ?_ _)); refine blk_put (cs := #[.slice Ao34 t246.length co34, .int .u8 0, .int .u16 0]) ?_ 1 _ rfl; (with_reducible repeat (first | refine blk_drewN ?_ _ | refine blk_drew ?_ | refine blk_alloc ?_ _)); refine blk_put (cs := #[.slice none 0 0, .int .u8 0, .int .u16 0]) ?_ 0 _ rfl; (with_reducible repeat (first | refine blk_drewN ?_ _ | refine blk_drew ?_ | refine blk_alloc ?_ _)); exact BK253.out))⟩; have n7_ : Aside0 (Below w.heap.size w w38) := ⟨(by rw [hw]; exact (by repeat (first | (with_reducible first | exact HB.out | apply below_alloc | apply pw_below_drewN | apply below_drew1 | refine below_set ?_ GE233.out | refine below_set ?_ GE234.out | refine below_set ?_ GE253.out) | exact HB.out)))⟩; clear hw; clear HO237; clear HO240; clear HO245; clear HO248; clear BK233; clear BK234; clear BK253; clear HB; have HO237 := n0_; have HO240 := n1_; have HO245 := n2_; have HO248 := n3_; have BK233 := n4_; have BK234 := n5_; have BK253 := n6_; have HB := n7_; clear n0_ n1_ n2_ n3_ n4_ n5_ n6_ n7_) | ((with_reducible refine gate_callee (f := 29) rfl ?_); refine goesL_ (some 43) rfl rfl Try.func29 (by kernel_rfl) rfl #[.slice Ao31 t243.length co31, .int .u8 1] rfl (by (try simp only [List.map_toArray, List.map_cons, List.map_nil]); first | done | rfl | (simp only [List.length_drop, List.length_take]; rfl)) ?_; (with_reducible refine (garderoberef00_Spoil.calls k (fun k_ => some k_ = (.slice Ao31 t243.length co31 : Value).ownBlock) (.slice Ao31 t243.length co31) t243 1 t254 w _ ?side1 ?side2 A9.out).mono ?_); (case side1 => repeat (first | (with_reducible first | exact HB.out | apply below_alloc | apply pw_below_drewN | apply below_drew1 | refine below_set ?_ GE233.out | refine below_set ?_ GE234.out | refine below_set ?_ GE253.out) | exact HB.out)); (case side2 => exact Kr.R_tight rfl HO245.out); rintro e w39 ⟨rfl, hy0, hb, hkp⟩; refine ⟨_, rfl, ?_⟩; have n0_ := Aside0.mk (blk_kept (by (with_reducible repeat (first | refine blk_drewN ?_ _ | refine blk_drew ?_ | refine blk_alloc ?_ _)); exact BK233.out) hkp (fun hs_ => (fun e_ => (Kr.R_ne HO245.out BK233.out (by decide)) e_) hs_)); have n1_ := Aside0.mk (blk_kept (by (with_reducible repeat (first | refine blk_drewN ?_ _ | refine blk_drew ?_ | refine blk_alloc ?_ _)); exact BK234.out) hkp (fun hs_ => (fun e_ => (Kr.R_ne HO245.out BK234.out (by decide)) e_) hs_)); have n2_ := Aside0.mk (Kr.R_mono (ok' := fun k_ => some k_ ≠ (.slice Ao34 t246.length co34 : Value).ownBlock) (Kr.R_keptB ((Kr.R_apart' HO237.out (Kr.R_typed HO245.out) (by decide))) hkp (fun k_ hk_ hs_ => (hk_.2) hs_)) (fun k_ hk_ => hk_.1.1)); have n3_ := Aside0.mk (Kr.R_mono (ok' := fun k_ => some k_ ≠ (.slice Ao31 t243.length co31 : Value).ownBlock) (Kr.R_keptB (HO240.out) hkp (fun k_ hk_ hs_ => (hk_) hs_)) (fun k_ hk_ => hk_.1)); have n4_ := Aside0.mk (Kr.R_reok rfl hy0 (fun k_ e_ => HO245.out.1.1 k_ e_)); have n5_ := Aside0.mk (Kr.R_mono (ok' := fun k_ => some k_ ≠ (.slice Ao25 y235.length co25 : Value).ownBlock) (Kr.R_keptB ((Kr.R_apart' HO248.out (Kr.R_typed HO245.out) (by decide))) hkp (fun k_ hk_ hs_ => (hk_.2) hs_)) (fun k_ hk_ => hk_.1.1)); have n6_ := Aside0.mk (blk_kept (by (with_reducible repeat (first | refine blk_drewN ?_ _ | refine blk_drew ?_ | refine blk_alloc ?_ _)); exact BK253.out) hkp (fun hs_ => (fun e_ => (Kr.R_ne HO245.out BK253.out (by decide)) e_) hs_)); have n7_ := Aside0.mk (hb); clear BK233; clear BK234; clear HO237; clear HO240; clear HO245; clear HO248; clear BK253; clear HB; have BK233 := n0_; have BK234 := n1_; have HO237 := n2_; have HO240 := n3_; have HO245 := n4_; have HO248 := n5_; have BK253 := n6_; have HB := n7_; clear n0_ n1_ n2_ n3_ n4_ n5_ n6_ n7_; (try clear hb); (try clear hkp); (try clear hy0)) | ((with_reducible refine gate_callee (f := 26) rfl ?_); refine goesL_ (some 47) rfl rfl Try.func26 (by kernel_rfl) rfl #[.slice A1 l1.length c1, .int .i64 a2] rfl (by (try simp only [List.map_toArray, List.map_cons, List.map_nil]); first | done | rfl | (simp only [List.length_drop, List.length_take]; rfl)) ?_; (with_reducible refine (types_GetSig.calls k _ _ l1 a2 t255 t258 t259 t260 t261 _ ?side1 ?side2 A10.out).mono ?_); (case side1 => repeat (first | exact (Kd.C_below HR1.out HB.out) | (with_reducible refine Kd.C_alloc ?_ _) | (with_reducible refine Kd.C_drewN ?_ _) | (with_reducible refine Kd.C_drew ?_))); (case side2 => exact HC1.out); rintro e w40 ⟨v256, rfl, ho0, hb⟩; refine ⟨_, rfl, ?_⟩; have n0_ := Aside0.mk (Kr.R_elder' (by (with_reducible repeat (first | apply Kr.R_alloc | apply Kr.R_drewN | apply Kr.R_drew)); exact HO237.out) (Kr.R_base ho0) hb); have n1_ := Aside0.mk (Kr.R_below (by (with_reducible repeat (first | apply Kr.R_alloc | apply Kr.R_drewN | apply Kr.R_drew)); exact HO240.out) hb); have n2_ := Aside0.mk (Kr.R_below (by (with_reducible repeat (first | apply Kr.R_alloc | apply Kr.R_drewN | apply Kr.R_drew)); exact HO245.out) hb); have n3_ := Aside0.mk (Kr.R_elder' (by (with_reducible repeat (first | apply Kr.R_alloc | apply Kr.R_drewN | apply Kr.R_drew)); exact HO248.out) (Kr.R_base ho0) hb); have n4_ := Aside0.mk (Kr.R_lower (Kr.R_new' (Kr.R_new' ho0 (Kr.R_lt (by (with_reducible repeat (first | apply Kr.R_alloc | apply Kr.R_drewN | apply Kr.R_drew)); exact HO237.out))) (Kr.R_lt (by (with_reducible repeat (first | apply Kr.R_alloc | apply Kr.R_drewN | apply Kr.R_drew)); exact HO248.out))) (below_size (by repeat (first | (with_reducible first | exact HB.out | apply below_alloc | apply pw_below_drewN | apply below_drew1 | refine below_set ?_ GE233.out | refine below_set ?_ GE234.out | refine below_set ?_ GE253.out) | exact HB.out)))); have n5_ := Aside0.mk (blk_below (g := gb233) (o := .cells #[.slice A0_0 l0_0.length c0_0, .int .u8 a0_1, .int .u16 a0_2] 28 (0, 0)) (by (with_reducible repeat (first | refine blk_drewN ?_ _ | refine blk_drew ?_ | refine blk_alloc ?_ _)); exact BK233.out) hb); have n6_ := Aside0.mk (blk_below (g := gb234) (o := .cells #[.slice Ao25 y235.length co25, .int .u8 a0_1, .int .u16 a0_2] 28 (0, 0)) (by (with_reducible repeat (first | refine blk_drewN ?_ _ | refine blk_drew ?_ | refine blk_alloc ?_ _)); exact BK234.out) hb); have n7_ := Aside0.mk (blk_below (g := gb253) (o := .cells #[.slice Ao34 t246.length co34, .int .u8 t249, .int .u16 t250] 28 (0, 0)) (by (with_reducible repeat (first | refine blk_drewN ?_ _ | refine blk_drew ?_ | refine blk_alloc ?_ _)); exact BK253.out) hb); have n8_ := Aside0.mk (below_step (by repeat (first | (with_reducible first | exact HB.out | apply below_alloc | apply pw_below_drewN | apply below_drew1 | refine below_set ?_ GE233.out | refine below_set ?_ GE234.out | refine below_set ?_ GE253.out) | exact HB.out)) hb); clear HO237; clear HO240; clear HO245; clear HO248; clear BK233; clear BK234; clear BK253; clear HB; have HO237 := n0_; have HO240 := n1_; have HO245 := n2_; have HO248 := n3_; have HO257 := n4_; have BK233 := n5_; have BK234 := n6_; have BK253 := n7_; have HB := n8_; clear n0_ n1_ n2_ n3_ n4_ n5_ n6_ n7_ n8_; (try clear hb); (try clear hb2); (try clear hk); (try clear hi); (try clear ho0)) | ((with_reducible refine gate_dst (N := 14) rfl ?_); refine box_event ?hg (N := 14) ?hd (cs := #[.slice none 0 0, .int .u8 0, .int .u16 0]) (t := 28) ?hr ?_; (case hd => rfl); (case hg => rfl); (case hr => first | (go_simp; done) | (go_simp; rfl)); intro gb262 hg w41 hbox hb; have n0_ := Aside0.mk (Kr.R_below (by (with_reducible repeat (first | apply Kr.R_alloc | apply Kr.R_drewN | apply Kr.R_drew)); exact HO237.out) hb); have n1_ := Aside0.mk (Kr.R_below (by (with_reducible repeat (first | apply Kr.R_alloc | apply Kr.R_drewN | apply Kr.R_drew)); exact HO240.out) hb); have n2_ := Aside0.mk (Kr.R_below (by (with_reducible repeat (first | apply Kr.R_alloc | apply Kr.R_drewN | apply Kr.R_drew)); exact HO245.out) hb); have n3_ := Aside0.mk (Kr.R_below (by (with_reducible repeat (first | apply Kr.R_alloc | apply Kr.R_drewN | apply Kr.R_drew)); exact HO248.out) hb); have n4_ := Aside0.mk (Kr.R_below (by (with_reducible repeat (first | apply Kr.R_alloc | apply Kr.R_drewN | apply Kr.R_drew)); exact HO257.out) hb); have n5_ := Aside0.mk (blk_below (g := gb233) (o := .cells #[.slice A0_0 l0_0.length c0_0, .int .u8 a0_1, .int .u16 a0_2] 28 (0, 0)) (by (with_reducible repeat (first | refine blk_drewN ?_ _ | refine blk_drew ?_ | refine blk_alloc ?_ _)); exact BK233.out) hb); have n6_ := Aside0.mk (blk_below (g := gb234) (o := .cells #[.slice Ao25 y235.length co25, .int .u8 a0_1, .int .u16 a0_2] 28 (0, 0)) (by (with_reducible repeat (first | refine blk_drewN ?_ _ | refine blk_drew ?_ | refine blk_alloc ?_ _)); exact BK234.out) hb); have n7_ := Aside0.mk (blk_below (g := gb253) (o := .cells #[.slice Ao34 t246.length co34, .int .u8 t249, .int .u16 t250] 28 (0, 0)) (by (with_reducible repeat (first | refine blk_drewN ?_ _ | refine blk_drew ?_ | refine blk_alloc ?_ _)); exact BK253.out) hb); have n8_ := Aside0.mk (below_step (by repeat (first | (with_reducible first | exact HB.out | apply below_alloc | apply pw_below_drewN | apply below_drew1 | refine below_set ?_ GE233.out | refine below_set ?_ GE234.out | refine below_set ?_ GE253.out) | exact HB.out)) hb); have n9_ := Aside0.mk (hbox); have n10_ := Aside0.mk ((by rw [hg]; exact (below_size (by repeat (first | (with_reducible first | exact HB.out | apply below_alloc | apply pw_below_drewN | apply below_drew1 | refine below_set ?_ GE233.out | refine below_set ?_ GE234.out | refine below_set ?_ GE253.out) | exact HB.out))) : w.heap.size ≤ gb262)); have n11_ := Aside0.mk ((by rw [hg]; exact (below_size (by repeat (first | (with_reducible first | exact HB.out | apply below_alloc | apply pw_below_drewN | apply below_drew1 | refine below_set ?_ GE233.out | refine below_set ?_ GE234.out | refine below_set ?_ GE253.out) | exact HB.out))) : w.heap.size ≤ gb262)); have n12_ := Aside0.mk ((by rw [hg]; exact Nat.ne_of_lt (blk_lt (g := gb233) (o := .cells #[.slice A0_0 l0_0.length c0_0, .int .u8 a0_1, .int .u16 a0_2] 28 (0, 0)) (by (with_reducible repeat (first | refine blk_drewN ?_ _ | refine blk_drew ?_ | refine blk_alloc ?_ _)); exact BK233.out)) : gb233 ≠ gb262)); have n13_ := Aside0.mk ((by rw [hg]; exact Nat.ne_of_gt (blk_lt (g := gb233) (o := .cells #[.slice A0_0 l0_0.length c0_0, .int .u8 a0_1, .int .u16 a0_2] 28 (0, 0)) (by (with_reducible repeat (first | refine blk_drewN ?_ _ | refine blk_drew ?_ | refine blk_alloc ?_ _)); exact BK233.out)) : gb262 ≠ gb233)); have n14_ := Aside0.mk ((by rw [hg]; exact Nat.ne_of_lt (blk_lt (g := gb234) (o := .cells #[.slice Ao25 y235.length co25, .int .u8 a0_1, .int .u16 a0_2] 28 (0, 0)) (by (with_reducible repeat (first | refine blk_drewN ?_ _ | refine blk_drew ?_ | refine blk_alloc ?_ _)); exact BK234.out)) : gb234 ≠ gb262)); have n15_ := Aside0.mk ((by rw [hg]; exact Nat.ne_of_gt (blk_lt (g := gb234) (o := .cells #[.slice Ao25 y235.length co25, .int .u8 a0_1, .int .u16 a0_2] 28 (0, 0)) (by (with_reducible repeat (first | refine blk_drewN ?_ _ | refine blk_drew ?_ | refine blk_alloc ?_ _)); exact BK234.out)) : gb262 ≠ gb234)); have n16_ := Aside0.mk ((by rw [hg]; exact Nat.ne_of_lt (blk_lt (g := gb253) (o := .cells #[.slice Ao34 t246.length co34, .int .u8 t249, .int .u16 t250] 28 (0, 0)) (by (with_reducible repeat (first | refine blk_drewN ?_ _ | refine blk_drew ?_ | refine blk_alloc ?_ _)); exact BK253.out)) : gb253 ≠ gb262)); have n17_ := Aside0.mk ((by rw [hg]; exact Nat.ne_of_gt (blk_lt (g := gb253) (o := .cells #[.slice Ao34 t246.length co34, .int .u8 t249, .int .u16 t250] 28 (0, 0)) (by (with_reducible repeat (first | refine blk_drewN ?_ _ | refine blk_drew ?_ | refine blk_alloc ?_ _)); exact BK253.out)) : gb262 ≠ gb253)); clear HO237; clear HO240; clear HO245; clear HO248; clear HO257; clear BK233; clear BK234; clear BK253; clear HB; have HO237 := n0_; have HO240 := n1_; have HO245 := n2_; have HO248 := n3_; have HO257 := n4_; have BK233 := n5_; have BK234 := n6_; have BK253 := n7_; have HB := n8_; have BK262 := n9_; have GW262 := n10_; have GE262 := n11_; have NB233_262 := n12_; have NB262_233 := n13_; have NB234_262 := n14_; have NB262_234 := n15_; have NB253_262 := n16_; have NB262_253 := n17_; clear n0_ n1_ n2_ n3_ n4_ n5_ n6_ n7_ n8_ n9_ n10_ n11_ n12_ n13_ n14_ n15_ n16_ n17_; clear hb hbox hg; obtain ⟨Ao42, co42, eo42⟩ := Kr.R_slice HO257.out; subst eo42; have hnb43 := NB262_233.out; have hnc43 := NB233_262.out; have hnb44 := NB262_234.out; have hnc44 := NB234_262.out; have hnb45 := NB262_253.out; have hnc45 := NB253_262.out; have hcz46_0 : w41.cell? ⟨gb262, 0, none⟩ = some (.slice none 0 0) := (blk_cell BK262.out 0).trans rfl; have hcz46_1 : w41.cell? ⟨gb262, 1, none⟩ = some (.int .u8 0) := (blk_cell BK262.out 1).trans rfl; have hcz46_2 : w41.cell? ⟨gb262, 2, none⟩ = some (.int .u16 0) := (blk_cell BK262.out 2).trans rfl; have hfz46_0 := blk_frozen BK262.out 0; have hfz46_1 := blk_frozen BK262.out 1; have hfz46_2 := blk_frozen BK262.out 2; have hcz47_0 : w41.cell? ⟨gb234, 0, none⟩ = some (.slice Ao25 y235.length co25) := (blk_cell BK234.out 0).trans rfl; have hcz47_1 : w41.cell? ⟨gb234, 1, none⟩ = some (.int .u8 a0_1) := (blk_cell BK234.out 1).trans rfl; have hcz47_2 : w41.cell? ⟨gb234, 2, none⟩ = some (.int .u16 a0_2) := (blk_cell BK234.out 2).trans rfl; have hfz47_0 := blk_frozen BK234.out 0; have hfz47_1 := blk_frozen BK234.out 1; have hfz47_2 := blk_frozen BK234.out 2; have hcz48_0 : w41.cell? ⟨gb233, 0, none⟩ = some (.slice A0_0 l0_0.length c0_0) := (blk_cell BK233.out 0).trans rfl; have hcz48_1 : w41.cell? ⟨gb233, 1, none⟩ = some (.int .u8 a0_1) := (blk_cell BK233.out 1).trans rfl; have hcz48_2 : w41.cell? ⟨gb233, 2, none⟩ = some (.int .u16 a0_2) := (blk_cell BK233.out 2).trans rfl; have hfz48_0 := blk_frozen BK233.out 0; have hfz48_1 := blk_frozen BK233.out 1; have hfz48_2 := blk_frozen BK233.out 2) | ((with_reducible refine gate_callee (f := 28) rfl ?_); refine goesL_ (some 55) rfl rfl Try.func28 (by kernel_rfl) rfl #[.slice Ao25 y235.length co25, .slice A0_0 l0_0.length c0_0] rfl (by (try simp only [List.map_toArray, List.map_cons, List.map_nil]); first | done | rfl | (simp only [List.length_drop, List.length_take]; rfl)) ?_; (with_reducible refine (garderoberef00_Types.calls k _ _ y235 _ _ l0_0 true _ ?side1 ?side2 ?side3 ?side4 A11.out).mono ?_); (case side1 => refine (Kr.R_reads' (e := 25) (base := w.heap.size) (ok := fun k_ => (some k_ ≠ (.slice Ao34 t246.length co34 : Value).ownBlock ∧ some k_ ≠ (.slice Ao42 t255.length co42 : Value).ownBlock)) (n := y235.length) (c := co25) ?_).2.2; exact (by (with_reducible repeat (first | apply Kr.R_alloc | apply Kr.R_drewN | apply Kr.R_drew)); exact (Kr.R_mono (Kr.R_far (p := ⟨gb262, 2, none⟩) (Kr.R_far (p := ⟨gb262, 1, none⟩) (Kr.R_far (p := ⟨gb262, 0, none⟩) (Kr.R_types HO237.out BK262.out (by decide)) (fun _ hk => hk.2) (.slice Ao42 t255.length co42)) (fun _ hk => hk.2) (.int .u8 t258)) (fun _ hk => hk.2) (.int .u16 t259)) (fun _ h_ => h_.1)))); (case side2 => exact (Kr.R_reads' HO237.out).2.1); (case side3 => exact Kd.C_below HR0_0.out (by repeat (first | (with_reducible first | exact HB.out | apply below_alloc | apply pw_below_drewN | apply below_drew1 | refine below_set ?_ GE233.out | refine below_set ?_ GE234.out | refine below_set ?_ GE253.out | refine below_set ?_ GE262.out) | exact HB.out))); (case side4 => exact HC0_0.out); rintro e w' ⟨rfl, ⟨nd, rfl⟩⟩; refine ⟨_, rfl, ?_⟩; have hcz49_0 : w41.cell? ⟨gb253, 0, none⟩ = some (.slice Ao34 t246.length co34) := (blk_cell BK253.out 0).trans rfl; have hcz49_1 : w41.cell? ⟨gb253, 1, none⟩ = some (.int .u8 t249) := (blk_cell BK253.out 1).trans rfl; have hcz49_2 : w41.cell? ⟨gb253, 2, none⟩ = some (.int .u16 t250) := (blk_cell BK253.out 2).trans rfl; have hfz49_0 := blk_frozen BK253.out 0; have hfz49_1 := blk_frozen BK253.out 1; have hfz49_2 := blk_frozen BK253.out 2) | (go_at_call 28; (with_reducible refine (garderoberef00_Types.calls k _ _ t246 _ _ t255 true _ ?side1 ?side2 ?side3 ?side4 A15.out).mono ?_); (case side1 => refine (Kr.R_reads' (e := 25) (base := w.heap.size) (ok := fun k_ => (some k_ ≠ (.slice Ao25 y235.length co25 : Value).ownBlock ∧ some k_ ≠ (.slice Ao42 t255.length co42 : Value).ownBlock)) (n := t246.length) (c := co34) ?_).2.2; exact (by (with_reducible repeat (first | apply Kr.R_alloc | apply Kr.R_drewN | apply Kr.R_drew)); exact (Kr.R_mono (Kr.R_far (p := ⟨gb262, 2, none⟩) (Kr.R_far (p := ⟨gb262, 1, none⟩) (Kr.R_far (p := ⟨gb262, 0, none⟩) (Kr.R_types HO248.out BK262.out (by decide)) (fun _ hk => hk.2) (.slice Ao42 t255.length co42)) (fun _ hk => hk.2) (.int .u8 t258)) (fun _ hk => hk.2) (.int .u16 t259)) (fun _ h_ => h_.1)))); (case side2 => exact (Kr.R_reads' HO248.out).2.1); (case side3 => refine (Kr.R_reads' (e := 25) (base := w.heap.size) (ok := fun k_ => ((True ∧ some k_ ≠ (.slice Ao25 y235.length co25 : Value).ownBlock) ∧ some k_ ≠ (.slice Ao34 t246.length co34 : Value).ownBlock)) (n := t255.length) (c := co42) ?_).2.2; exact (by (with_reducible repeat (first | apply Kr.R_alloc | apply Kr.R_drewN | apply Kr.R_drew)); exact (Kr.R_mono (Kr.R_far (p := ⟨gb262, 2, none⟩) (Kr.R_far (p := ⟨gb262, 1, none⟩) (Kr.R_far (p := ⟨gb262, 0, none⟩) (Kr.R_types HO257.out BK262.out (by decide)) (fun _ hk => hk.2) (.slice Ao42 t255.length co42)) (fun _ hk => hk.2) (.int .u8 t258)) (fun _ hk => hk.2) (.int .u16 t259)) (fun _ h_ => h_.1)))); (case side4 => exact (Kr.R_reads' HO257.out).2.1); rintro e w' ⟨rfl, ⟨nd, rfl⟩⟩) | (go_at_call 21; (with_reducible refine (garderobelaw04_works.calls k  t265 _ A17.out).mono ?_); rintro e w50 ⟨rfl, hb⟩; have n0_ := Aside0.mk (Kr.R_below (by (with_reducible repeat (first | apply Kr.R_alloc | apply Kr.R_drewN | apply Kr.R_drew)); exact (Kr.R_mono (Kr.R_far (p := ⟨gb262, 2, none⟩) (Kr.R_far (p := ⟨gb262, 1, none⟩) (Kr.R_far (p := ⟨gb262, 0, none⟩) (Kr.R_types HO237.out BK262.out (by decide)) (fun _ hk => hk.2) (.slice Ao42 t255.length co42)) (fun _ hk => hk.2) (.int .u8 t258)) (fun _ hk => hk.2) (.int .u16 t259)) (fun _ h_ => h_.1))) hb); have n1_ := Aside0.mk (Kr.R_below (by (with_reducible repeat (first | apply Kr.R_alloc | apply Kr.R_drewN | apply Kr.R_drew)); exact (Kr.R_mono (Kr.R_far (p := ⟨gb262, 2, none⟩) (Kr.R_far (p := ⟨gb262, 1, none⟩) (Kr.R_far (p := ⟨gb262, 0, none⟩) (Kr.R_types HO240.out BK262.out (by decide)) (fun _ hk => hk.2) (.slice Ao42 t255.length co42)) (fun _ hk => hk.2) (.int .u8 t258)) (fun _ hk => hk.2) (.int .u16 t259)) (fun _ h_ => h_.1))) hb); have n2_ := Aside0.mk (Kr.R_below (by (with_reducible repeat (first | apply Kr.R_alloc | apply Kr.R_drewN | apply Kr.R_drew)); exact (Kr.R_mono (Kr.R_far (p := ⟨gb262, 2, none⟩) (Kr.R_far (p := ⟨gb262, 1, none⟩) (Kr.R_far (p := ⟨gb262, 0, none⟩) (Kr.R_types HO245.out BK262.out (by decide)) (fun _ hk => hk.2) (.slice Ao42 t255.length co42)) (fun _ hk => hk.2) (.int .u8 t258)) (fun _ hk => hk.2) (.int .u16 t259)) (fun _ h_ => h_.1))) hb); have n3_ := Aside0.mk (Kr.R_below (by (with_reducible repeat (first | apply Kr.R_alloc | apply Kr.R_drewN | apply Kr.R_drew)); exact (Kr.R_mono (Kr.R_far (p := ⟨gb262, 2, none⟩) (Kr.R_far (p := ⟨gb262, 1, none⟩) (Kr.R_far (p := ⟨gb262, 0, none⟩) (Kr.R_types HO248.out BK262.out (by decide)) (fun _ hk => hk.2) (.slice Ao42 t255.length co42)) (fun _ hk => hk.2) (.int .u8 t258)) (fun _ hk => hk.2) (.int .u16 t259)) (fun _ h_ => h_.1))) hb); have n4_ := Aside0.mk (Kr.R_below (by (with_reducible repeat (first | apply Kr.R_alloc | apply Kr.R_drewN | apply Kr.R_drew)); exact (Kr.R_mono (Kr.R_far (p := ⟨gb262, 2, none⟩) (Kr.R_far (p := ⟨gb262, 1, none⟩) (Kr.R_far (p := ⟨gb262, 0, none⟩) (Kr.R_types HO257.out BK262.out (by decide)) (fun _ hk => hk.2) (.slice Ao42 t255.length co42)) (fun _ hk => hk.2) (.int .u8 t258)) (fun _ hk => hk.2) (.int .u16 t259)) (fun _ h_ => h_.1))) hb); have n5_ := Aside0.mk (blk_below (g := gb233) (o := .cells #[.slice A0_0 l0_0.length c0_0, .int .u8 a0_1, .int .u16 a0_2] 28 (0, 0)) (by (with_reducible repeat (first | refine blk_drewN ?_ _ | refine blk_drew ?_ | refine blk_alloc ?_ _)); refine blk_far ?_ NB233_262.out _; (with_reducible repeat (first | refine blk_drewN ?_ _ | refine blk_drew ?_ | refine blk_alloc ?_ _)); refine blk_far ?_ NB233_262.out _; (with_reducible repeat (first | refine blk_drewN ?_ _ | refine blk_drew ?_ | refine blk_alloc ?_ _)); refine blk_far ?_ NB233_262.out _; (with_reducible repeat (first | refine blk_drewN ?_ _ | refine blk_drew ?_ | refine blk_alloc ?_ _)); exact BK233.out) hb); have n6_ := Aside0.mk (blk_below (g := gb234) (o := .cells #[.slice Ao25 y235.length co25, .int .u8 a0_1, .int .u16 a0_2] 28 (0, 0)) (by (with_reducible repeat (first | refine blk_drewN ?_ _ | refine blk_drew ?_ | refine blk_alloc ?_ _)); refine blk_far ?_ NB234_262.out _; (with_reducible repeat (first | refine blk_drewN ?_ _ | refine blk_drew ?_ | refine blk_alloc ?_ _)); refine blk_far ?_ NB234_262.out _; (with_reducible repeat (first | refine blk_drewN ?_ _ | refine blk_drew ?_ | refine blk_alloc ?_ _)); refine blk_far ?_ NB234_262.out _; (with_reducible repeat (first | refine blk_drewN ?_ _ | refine blk_drew ?_ | refine blk_alloc ?_ _)); exact BK234.out) hb); have n7_ := Aside0.mk (blk_below (g := gb253) (o := .cells #[.slice Ao34 t246.length co34, .int .u8 t249, .int .u16 t250] 28 (0, 0)) (by (with_reducible repeat (first | refine blk_drewN ?_ _ | refine blk_drew ?_ | refine blk_alloc ?_ _)); refine blk_far ?_ NB253_262.out _; (with_reducible repeat (first | refine blk_drewN ?_ _ | refine blk_drew ?_ | refine blk_alloc ?_ _)); refine blk_far ?_ NB253_262.out _; (with_reducible repeat (first | refine blk_drewN ?_ _ | refine blk_drew ?_ | refine blk_alloc ?_ _)); refine blk_far ?_ NB253_262.out _; (with_reducible repeat (first | refine blk_drewN ?_ _ | refine blk_drew ?_ | refine blk_alloc ?_ _)); exact BK253.out) hb); have n8_ := Aside0.mk (blk_below (g := gb262) (o := .cells #[.slice Ao42 t255.length co42, .int .u8 t258, .int .u16 t259] 28 (0, 0)) (by (with_reducible repeat (first | refine blk_drewN ?_ _ | refine blk_drew ?_ | refine blk_alloc ?_ _)); refine blk_put (cs := #[.slice Ao42 t255.length co42, .int .u8 t258, .int .u16 0]) ?_ 2 _ rfl; (with_reducible repeat (first | refine blk_drewN ?_ _ | refine blk_drew ?_ | refine blk_alloc ?_ _)); refine blk_put (cs := #[.slice Ao42 t255.length co42, .int .u8 0, .int .u16 0]) ?_ 1 _ rfl; (with_reducible repeat (first | refine blk_drewN ?_ _ | refine blk_drew ?_ | refine blk_alloc ?_ _)); refine blk_put (cs := #[.slice none 0 0, .int .u8 0, .int .u16 0]) ?_ 0 _ rfl; (with_reducible repeat (first | refine blk_drewN ?_ _ | refine blk_drew ?_ | refine blk_alloc ?_ _)); exact BK262.out) hb); have n9_ := Aside0.mk (below_step (by repeat (first | (with_reducible first | exact HB.out | apply below_alloc | apply pw_below_drewN | apply below_drew1 | refine below_set ?_ GE233.out | refine below_set ?_ GE234.out | refine below_set ?_ GE253.out | refine below_set ?_ GE262.out) | exact HB.out)) hb); clear HO237; clear HO240; clear HO245; clear HO248; clear HO257; clear BK233; clear BK234; clear BK253; clear BK262; clear HB; have HO237 := n0_; have HO240 := n1_; have HO245 := n2_; have HO248 := n3_; have HO257 := n4_; have BK233 := n5_; have BK234 := n6_; have BK253 := n7_; have BK262 := n8_; have HB := n9_; clear n0_ n1_ n2_ n3_ n4_ n5_ n6_ n7_ n8_ n9_; (try clear hb); (try clear hb2); (try clear hk); (try clear hi)))
            go_ret
            exact ⟨by first | rfl | (simp [errW_none, errW_some] <;> rfl) | (simp [*, errW_none, errW_some] <;> rfl), by repeat (first | (with_reducible first | exact HB.out | apply below_alloc | apply pw_below_drewN | apply below_drew1 | refine below_set ?_ GE233.out | refine below_set ?_ GE234.out | refine below_set ?_ GE253.out | refine below_set ?_ GE262.out) | exact HB.out)⟩
          · replace c16 := Bool.eq_false_iff.mpr c16
            subst c16
            have H1 : (none) = some r := by rw [if_neg (show ¬ (false = true) by decide)] at H; exact H
            clear H
            have H := H1
            clear H1
            exact absurd H (by simp)
        · rw [if_neg c14] at H
          exact absurd H (by simp)
      · rw [if_neg c13] at H
        exact absurd H (by simp)
    · replace c12 := Bool.eq_false_iff.mpr c12
      subst c12
      have H1 : (none) = some r := by rw [if_neg (show ¬ (false = true) by decide)] at H; exact H
      clear H
      have H := H1
      clear H1
      exact absurd H (by simp)
  · rw [if_neg c4] at H
    exact absurd H (by simp)

end Go.Proofs.Ytlkpgoddljjlbaa.PTypesFresh
