-- laid by fake.py, a program of this session's, over the kit's print
import Derived.Test.YtjbpdmkalegacaaPClassPutsx0
import Derived.Test.YtjbpdmkalegacaaPClassPutsx3
import Derived.Test.YtjbpdmkalegacaaPClassPutsx5
import Derived.Test.YtjbpdmkalegacaaPClassPutsx6
import Derived.Test.YtjbpdmkalegacaaPClassPutsx8
namespace Go.Proofs.Ytjbpdmkalegacaa.PClassPuts
open Go.RowKit Go.Proofs.YtjbpdmkalegacaaW.PrintWords Go.Proofs.YtjbpdmkalegacaaW.PrintLast Go.Proofs.YtjbpdmkalegacaaW.PrintMore Go.Proofs.YtjbpdmkalegacaaW.Mine
attribute [local go_sem] Go.Proofs.YtjbpdmkalegacaaW.Mine.isSome_set max2_int min2_int max_two min_two max_three min_three max_four min_four   -- for this text's walks alone
set_option linter.unusedVariables false
set_option linter.unusedSimpArgs false

/-! ### garderoberef08_Put: function 17 -/
mutual
def garderoberef08_Put.l0 : Nat → List (S38) → Int → Option (List Int × Int)
  | 0, _, _ => none
  | k + 1, x0, x4 => if x4 < (x0.length : Int) then (if 0 ≤ x4 then ((garderoberef08_May.f k ((rd_T38 x0 x4).f0) ((rd_T38 x0 x4).f1) ((rd_T38 x0 x4).f2) ((rd_T38 x0 x4).f3) ((rd_T38 x0 x4).f4) ((rd_T38 x0 x4).f5)).bind fun t410 => (if t410 = true then (garderoberef08_Put.l0 k x0 (wrap64 (x4 + 1))) else (some (([] : List Int), 2)))) else (none)) else (if (x0.length : Int) > 64 then (some (([] : List Int), 3)) else (garderoberef08_Put.l1 k x0 (([((x0.length : Int)) % 256] : List Int)) 0))
def garderoberef08_Put.l1 : Nat → List (S38) → List Int → Int → Option (List Int × Int)
  | 0, _, _, _ => none
  | k + 1, x0, x5, x6 => if x6 < (x0.length : Int) then (if 0 ≤ x6 then ((garderoberef08_bytes.f k ((rd_T38 x0 x6).f0) ((rd_T38 x0 x6).f1) ((rd_T38 x0 x6).f2) ((rd_T38 x0 x6).f3) ((rd_T38 x0 x6).f4) ((rd_T38 x0 x6).f5)).bind fun t415 => (if x5.length + t415.length < 140737488355328 then (garderoberef08_Put.l1 k x0 (x5 ++ t415) (wrap64 (x6 + 1))) else (none))) else (none)) else (some (x5, 0))
end
def garderoberef08_Put.f (k : Nat) (l0 : List (S38)) : Option (List Int × Int) := garderoberef08_Put.l0 k l0 0
theorem garderoberef08_Put.mono_l : ∀ k, (∀ y0 y1, LeO (garderoberef08_Put.l0 k y0 y1) (garderoberef08_Put.l0 (k + 1) y0 y1)) ∧ (∀ y0 y1 y2, LeO (garderoberef08_Put.l1 k y0 y1 y2) (garderoberef08_Put.l1 (k + 1) y0 y1 y2))
  | 0 => ⟨fun _ _ r h => by simp [garderoberef08_Put.l0] at h, fun _ _ _ r h => by simp [garderoberef08_Put.l1] at h⟩
  | k + 1 => by
    obtain ⟨ih0, ih1⟩ := garderoberef08_Put.mono_l k
    refine ⟨?_, ?_⟩
    · intro y0 y1
      unfold garderoberef08_Put.l0
      repeat' first
      | (with_reducible exact ih0 _ _)
      | (with_reducible exact ih1 _ _ _)
      | (with_reducible exact garderoberef08_May.mono _ _ _ _ _ _ _)
      | (with_reducible exact garderoberef08_bytes.mono _ _ _ _ _ _ _)
      | (with_reducible exact LeO.refl _)
      | (with_reducible exact LeO.none _)
      | (with_reducible refine LeO.ite ?_ ?_)
      | (with_reducible refine LeO.bind ?_ (fun _ => ?_))
      | exact ih0 _ _
      | exact ih1 _ _ _
      | exact garderoberef08_May.mono _ _ _ _ _ _ _
      | exact garderoberef08_bytes.mono _ _ _ _ _ _ _
      | exact LeO.none _
      | refine LeO.ite ?_ ?_
      | refine LeO.bind ?_ (fun _ => ?_)
    · intro y0 y1 y2
      unfold garderoberef08_Put.l1
      repeat' first
      | (with_reducible exact ih0 _ _)
      | (with_reducible exact ih1 _ _ _)
      | (with_reducible exact garderoberef08_May.mono _ _ _ _ _ _ _)
      | (with_reducible exact garderoberef08_bytes.mono _ _ _ _ _ _ _)
      | (with_reducible exact LeO.refl _)
      | (with_reducible exact LeO.none _)
      | (with_reducible refine LeO.ite ?_ ?_)
      | (with_reducible refine LeO.bind ?_ (fun _ => ?_))
      | exact ih0 _ _
      | exact ih1 _ _ _
      | exact garderoberef08_May.mono _ _ _ _ _ _ _
      | exact garderoberef08_bytes.mono _ _ _ _ _ _ _
      | exact LeO.none _
      | refine LeO.ite ?_ ?_
      | refine LeO.bind ?_ (fun _ => ?_)
theorem garderoberef08_Put.mono : ∀ a0 k, LeO (garderoberef08_Put.f k a0) (garderoberef08_Put.f (k + 1) a0) := by
  intro a0 k
  obtain ⟨ih0, ih1⟩ := garderoberef08_Put.mono_l k
  unfold garderoberef08_Put.f
  repeat' first
      | (with_reducible exact ih0 _ _)
      | (with_reducible exact ih1 _ _ _)
      | (with_reducible exact garderoberef08_May.mono _ _ _ _ _ _ _)
      | (with_reducible exact garderoberef08_bytes.mono _ _ _ _ _ _ _)
      | (with_reducible exact LeO.refl _)
      | (with_reducible exact LeO.none _)
      | (with_reducible refine LeO.ite ?_ ?_)
      | (with_reducible refine LeO.bind ?_ (fun _ => ?_))
      | exact ih0 _ _
      | exact ih1 _ _ _
      | exact garderoberef08_May.mono _ _ _ _ _ _ _
      | exact garderoberef08_bytes.mono _ _ _ _ _ _ _
      | exact LeO.none _
      | refine LeO.ite ?_ ?_
      | refine LeO.bind ?_ (fun _ => ?_)
set_option maxHeartbeats 8000000 in
set_option maxRecDepth 100000 in
theorem garderoberef08_Put.calls (k : Nat) (A0 : Option Addr) (c0 : Nat) (l0 : List (S38)) (r1 : List Int) (r2 : Int) (w : World) (hr0 : Kd.C k38 w A0 l0.length l0) (hc0 : l0.length ≤ c0) (h : garderoberef08_Put.f k l0 = some (r1, r2)) :
    Calls Try.prog 17 #[.slice A0 l0.length c0] w fun e w' => ∃ v0_ : Value, e = .returned (.tuple #[v0_, .int .i64 r2]) ∧ Kd.R (Kd.int .u8) 5 w' w.heap.size (fun _ => True) v0_ r1 ∧ Below w.heap.size w w' := by
  have hu38 := Try.underlying38
  have HR0 := Aside0.mk hr0
  have HC0 := Aside0.mk hc0
  clear hr0 hc0
  have HB := Aside0.mk (Below.refl w.heap.size w)
  have H : (garderoberef08_Put.l0 k l0 0) = some (r1, r2) := h
  clear h
  have H' := Aside0.mk H
  clear H
  go_enter Try.func17, Try.ntmps17
  go_wp2
  go_loopg [4] k (fun kq v4 w' => ∃ (x4_1 : Int), v4 = .int .i64 x4_1 ∧ Aside0 (garderoberef08_Put.l0 kq l0 x4_1 = some (r1, r2)) ∧ Aside0 (kq ≤ k) ∧ Aside0 (Below w.heap.size w w'))
  case atStart => exact ⟨(0), (by first | rfl | (simp; done) | (simp [*]; done)), H', ⟨Nat.le_refl _⟩, ⟨zb⟩⟩
  case round =>
    clear H'
    try clear c1
    obtain ⟨x4_1, rfl, HA, HK1, HB⟩ := hrel
    cases gk with
    | zero => exact absurd HA.out (by simp [garderoberef08_Put.l0])
    | succ k1 =>
      have H := HA.out
      clear HA
      simp only [garderoberef08_Put.l0] at H
      by_cases c2 : x4_1 < (l0.length : Int)
      · rw [if_pos c2] at H
        have c2b0 : decide (x4_1 < (l0.length : Int)) = true := decide_eq_true c2
        clear c2
        by_cases c3 : 0 ≤ x4_1
        · rw [if_pos c3] at H
          have c3b0 : decide (0 ≤ x4_1) = true := decide_eq_true c3
          clear c3
          replace H := Option.bind_eq_some_iff.mp H
          obtain ⟨t410, A40, H⟩ := H
          replace H : (if t410 = true then (garderoberef08_Put.l0 k1 l0 (wrap64 (x4_1 + 1))) else (some (([] : List Int), 2))) = some (r1, r2) := H
          have A4 := Aside0.mk A40
          clear A40
          by_cases c5 : t410 = true
          · subst c5
            have H1 : (garderoberef08_Put.l0 k1 l0 (wrap64 (x4_1 + 1))) = some (r1, r2) := by rw [if_pos rfl] at H; exact H
            clear H
            have H := H1
            clear H1
            have H' := Aside0.mk H
            clear H
            have p409 : 0 ≤ (x4_1 : Int) := of_decide_eq_true (by first | (with_reducible assumption) | assumption)
            have q409 : x4_1 < (l0.length : Int) := of_decide_eq_true (by first | (with_reducible assumption) | assumption)
            obtain ⟨ad409, A409_2, c409_2, A409_3, c409_3, A409_4, c409_4, A409_5, c409_5, e409, hx409_0, hx409_1, hx409_2, hx409_3, hx409_4, hx409_5, hl409_2, hi409_2, hl409_3, hi409_3, hl409_4, hi409_4, hl409_5, hi409_5⟩ := at_T38 HR0.out x4_1 p409 q409
            cases e409
            replace hx409_0 := (HB.out.cell (World.block_lt_of_cell? w _ hx409_0)).trans hx409_0
            replace hx409_1 := (HB.out.cell (World.block_lt_of_cell? w _ hx409_1)).trans hx409_1
            replace hx409_2 := (HB.out.cell (World.block_lt_of_cell? w _ hx409_2)).trans hx409_2
            replace hx409_3 := (HB.out.cell (World.block_lt_of_cell? w _ hx409_3)).trans hx409_3
            replace hx409_4 := (HB.out.cell (World.block_lt_of_cell? w _ hx409_4)).trans hx409_4
            replace hx409_5 := (HB.out.cell (World.block_lt_of_cell? w _ hx409_5)).trans hx409_5
            have HR409_2 := Aside0.mk hi409_2
            have HC409_2 := Aside0.mk hl409_2
            clear hi409_2 hl409_2
            have HR409_3 := Aside0.mk hi409_3
            have HC409_3 := Aside0.mk hl409_3
            clear hi409_3 hl409_3
            have HR409_4 := Aside0.mk hi409_4
            have HC409_4 := Aside0.mk hl409_4
            clear hi409_4 hl409_4
            have HR409_5 := Aside0.mk hi409_5
            have HC409_5 := Aside0.mk hl409_5
            clear hi409_5 hl409_5
            replace p409 := eq_true p409
            replace q409 := eq_true q409
            go_wp2_with (first | ((with_reducible refine gate_callee (f := 16) rfl ?_); refine goesL_ (some 17) rfl rfl Try.func16 (by kernel_rfl) rfl #[.agg #[.int .u8 ((rd_T38 l0 x4_1).f0), .int .u16 ((rd_T38 l0 x4_1).f1), .slice A409_2 ((rd_T38 l0 x4_1).f2).length c409_2, .slice A409_3 ((rd_T38 l0 x4_1).f3).length c409_3, .slice A409_4 ((rd_T38 l0 x4_1).f4).length c409_4, .slice A409_5 ((rd_T38 l0 x4_1).f5).length c409_5]] rfl zargs ?_; (with_reducible refine (garderoberef08_May.calls k1 ((rd_T38 l0 x4_1).f0) ((rd_T38 l0 x4_1).f1) _ _ ((rd_T38 l0 x4_1).f2) _ _ ((rd_T38 l0 x4_1).f3) _ _ ((rd_T38 l0 x4_1).f4) _ _ ((rd_T38 l0 x4_1).f5) true _ ?side1 ?side2 ?side3 ?side4 ?side5 ?side6 ?side7 ?side8 A4.out).mono ?_); (case side1 => repeat (first | exact (Kd.C_below HR409_2.out HB.out) | (with_reducible refine Kd.C_alloc ?_ _) | (with_reducible refine Kd.C_drewN ?_ _) | (with_reducible refine Kd.C_drew ?_))); (case side2 => exact HC409_2.out); (case side3 => repeat (first | exact (Kd.C_below HR409_3.out HB.out) | (with_reducible refine Kd.C_alloc ?_ _) | (with_reducible refine Kd.C_drewN ?_ _) | (with_reducible refine Kd.C_drew ?_))); (case side4 => exact HC409_3.out); (case side5 => repeat (first | exact (Kd.C_below HR409_4.out HB.out) | (with_reducible refine Kd.C_alloc ?_ _) | (with_reducible refine Kd.C_drewN ?_ _) | (with_reducible refine Kd.C_drew ?_))); (case side6 => exact HC409_4.out); (case side7 => repeat (first | exact (Kd.C_below HR409_5.out HB.out) | (with_reducible refine Kd.C_alloc ?_ _) | (with_reducible refine Kd.C_drewN ?_ _) | (with_reducible refine Kd.C_drew ?_))); (case side8 => exact HC409_5.out); rintro e w6 ⟨rfl, hb⟩; refine ⟨_, rfl, ?_⟩; have n0_ := Aside0.mk (below_step (zb) hb); clear HB; have HB := n0_; clear n0_; (try clear hb); (try clear hb2); (try clear hk); (try clear hi)))
            go_roundg k1
            case measure => have := HK1.out; omega
            case rel => exact ⟨(wrap64 (x4_1 + 1)), (by first | rfl | (simp; done) | (simp [*]; done)), H', ⟨by have := HK1.out; omega⟩, ⟨zb⟩⟩
          · replace c5 := Bool.eq_false_iff.mpr c5
            subst c5
            have H1 : (some (([] : List Int), 2)) = some (r1, r2) := by rw [if_neg (show ¬ (false = true) by decide)] at H; exact H
            clear H
            have H := H1
            clear H1
            simp only [Option.some.injEq, Prod.mk.injEq] at H
            obtain ⟨rfl, rfl⟩ := H
            have p409 : 0 ≤ (x4_1 : Int) := of_decide_eq_true (by first | (with_reducible assumption) | assumption)
            have q409 : x4_1 < (l0.length : Int) := of_decide_eq_true (by first | (with_reducible assumption) | assumption)
            obtain ⟨ad409, A409_2, c409_2, A409_3, c409_3, A409_4, c409_4, A409_5, c409_5, e409, hx409_0, hx409_1, hx409_2, hx409_3, hx409_4, hx409_5, hl409_2, hi409_2, hl409_3, hi409_3, hl409_4, hi409_4, hl409_5, hi409_5⟩ := at_T38 HR0.out x4_1 p409 q409
            cases e409
            replace hx409_0 := (HB.out.cell (World.block_lt_of_cell? w _ hx409_0)).trans hx409_0
            replace hx409_1 := (HB.out.cell (World.block_lt_of_cell? w _ hx409_1)).trans hx409_1
            replace hx409_2 := (HB.out.cell (World.block_lt_of_cell? w _ hx409_2)).trans hx409_2
            replace hx409_3 := (HB.out.cell (World.block_lt_of_cell? w _ hx409_3)).trans hx409_3
            replace hx409_4 := (HB.out.cell (World.block_lt_of_cell? w _ hx409_4)).trans hx409_4
            replace hx409_5 := (HB.out.cell (World.block_lt_of_cell? w _ hx409_5)).trans hx409_5
            have HR409_2 := Aside0.mk hi409_2
            have HC409_2 := Aside0.mk hl409_2
            clear hi409_2 hl409_2
            have HR409_3 := Aside0.mk hi409_3
            have HC409_3 := Aside0.mk hl409_3
            clear hi409_3 hl409_3
            have HR409_4 := Aside0.mk hi409_4
            have HC409_4 := Aside0.mk hl409_4
            clear hi409_4 hl409_4
            have HR409_5 := Aside0.mk hi409_5
            have HC409_5 := Aside0.mk hl409_5
            clear hi409_5 hl409_5
            replace p409 := eq_true p409
            replace q409 := eq_true q409
            go_wp2_with (first | ((with_reducible refine gate_callee (f := 16) rfl ?_); refine goesL_ (some 17) rfl rfl Try.func16 (by kernel_rfl) rfl #[.agg #[.int .u8 ((rd_T38 l0 x4_1).f0), .int .u16 ((rd_T38 l0 x4_1).f1), .slice A409_2 ((rd_T38 l0 x4_1).f2).length c409_2, .slice A409_3 ((rd_T38 l0 x4_1).f3).length c409_3, .slice A409_4 ((rd_T38 l0 x4_1).f4).length c409_4, .slice A409_5 ((rd_T38 l0 x4_1).f5).length c409_5]] rfl zargs ?_; (with_reducible refine (garderoberef08_May.calls k1 ((rd_T38 l0 x4_1).f0) ((rd_T38 l0 x4_1).f1) _ _ ((rd_T38 l0 x4_1).f2) _ _ ((rd_T38 l0 x4_1).f3) _ _ ((rd_T38 l0 x4_1).f4) _ _ ((rd_T38 l0 x4_1).f5) false _ ?side1 ?side2 ?side3 ?side4 ?side5 ?side6 ?side7 ?side8 A4.out).mono ?_); (case side1 => repeat (first | exact (Kd.C_below HR409_2.out HB.out) | (with_reducible refine Kd.C_alloc ?_ _) | (with_reducible refine Kd.C_drewN ?_ _) | (with_reducible refine Kd.C_drew ?_))); (case side2 => exact HC409_2.out); (case side3 => repeat (first | exact (Kd.C_below HR409_3.out HB.out) | (with_reducible refine Kd.C_alloc ?_ _) | (with_reducible refine Kd.C_drewN ?_ _) | (with_reducible refine Kd.C_drew ?_))); (case side4 => exact HC409_3.out); (case side5 => repeat (first | exact (Kd.C_below HR409_4.out HB.out) | (with_reducible refine Kd.C_alloc ?_ _) | (with_reducible refine Kd.C_drewN ?_ _) | (with_reducible refine Kd.C_drew ?_))); (case side6 => exact HC409_4.out); (case side7 => repeat (first | exact (Kd.C_below HR409_5.out HB.out) | (with_reducible refine Kd.C_alloc ?_ _) | (with_reducible refine Kd.C_drewN ?_ _) | (with_reducible refine Kd.C_drew ?_))); (case side8 => exact HC409_5.out); rintro e w7 ⟨rfl, hb⟩; refine ⟨_, rfl, ?_⟩; have n0_ := Aside0.mk (below_step (zb) hb); clear HB; have HB := n0_; clear n0_; (try clear hb); (try clear hb2); (try clear hk); (try clear hi)))
            go_ret2
            exact ⟨_, by first | rfl | (simp [errW_none, errW_some] <;> rfl) | (simp [*, errW_none, errW_some] <;> rfl), by first | exact Kd.R_nil _ _ _ _ _ | exact Kd.N_nil _ _ _ _ _ | exact Kd.V_nil _ _ _ _ _ | exact Kd.Q_nil _ _ _ _ _ | exact Kd.S_nil _ _ _ _ _, zb⟩
        · rw [if_neg c3] at H
          exact absurd H (by simp)
      · rw [if_neg c2] at H
        have c2b0 : decide (x4_1 < (l0.length : Int)) = false := decide_eq_false c2
        clear c2
        by_cases c8 : (l0.length : Int) > 64
        · rw [if_pos c8] at H
          have c8b0 : decide (64 < (l0.length : Int)) = true := decide_eq_true c8
          have c8b1 : decide (64 < l0.length) = true := decide_eq_true (by omega)
          clear c8
          simp only [Option.some.injEq, Prod.mk.injEq] at H
          obtain ⟨rfl, rfl⟩ := H
          go_wp2
          go_ret2
          exact ⟨_, by first | rfl | (simp [errW_none, errW_some] <;> rfl) | (simp [*, errW_none, errW_some] <;> rfl), by first | exact Kd.R_nil _ _ _ _ _ | exact Kd.N_nil _ _ _ _ _ | exact Kd.V_nil _ _ _ _ _ | exact Kd.Q_nil _ _ _ _ _ | exact Kd.S_nil _ _ _ _ _, zb⟩
        · rw [if_neg c8] at H
          have c8b0 : decide (64 < (l0.length : Int)) = false := decide_eq_false c8
          have c8b1 : decide (64 < l0.length) = false := decide_eq_false (by omega)
          clear c8
          obtain ⟨y411, hy411⟩ : ∃ y_ : List Int, y_ = (([((l0.length : Int)) % 256] : List Int)) := ⟨_, rfl⟩
          replace H : (garderoberef08_Put.l1 k1 l0 y411 0) = some (r1, r2) := by first | (rw [hy411]; with_reducible exact H) | (have H2_ := (Option.bind_some _ _).symm.trans H; rw [hy411]; with_reducible exact H2_) | (have H2_ := (Option.bind_some _ _).symm.trans H; with_reducible exact H2_) | with_reducible exact H | (rw [hy411]; exact H) | exact H
          have Ny411 := Aside0.mk hy411
          clear hy411
          have H' := Aside0.mk H
          clear H
          go_wp2_with (first | ((with_reducible refine gate_dst (N := 25) rfl ?_); refine Kd.R_lit (Kd.int .u8) _ 5 ?hg (N := 25) ?hd (xs := ([((l0.length : Int)) % 256] : List Int)) (inner := [.int .u8 (((l0.length : Int)) % 256)]) (ok := fun _ => True) (okp := fun _ => True) ?hr ?hp (fun _ hk => hk) trivial (Below.refl _ _) (Nat.le_refl _) (by simp) ?_; (case hd => rfl); (case hg => rfl); (case hr => first | (go_simp; done) | (go_simp; rfl)); (case hp => exact (Reps.one (show Kd.M (Kd.int .u8) _ _ _ (((l0.length : Int)) % 256) [.int .u8 (((l0.length : Int)) % 256)] from rfl) (Reps.none _ _))); intro v412 w9 ho10 hb hg_ hnew_; clear hg_ hnew_; (first | rw [← Ny411.out] at ho10 | (simp only [Int.reduceToNat] at ho10; rw [← Ny411.out] at ho10)); have n0_ := Aside0.mk (Kd.R_lower ho10 (below_size (zb))); have n1_ := Aside0.mk (below_step (zb) hb); clear HB; have HO413 := n0_; have HB := n1_; clear n0_ n1_; clear hb ho10))
          go_loopg [5, 6] k1 (fun kq v5 v6 w' => ∃ (x5_2 : List Int) (x6_2 : Int), v6 = .int .i64 x6_2 ∧ Aside0 (garderoberef08_Put.l1 kq l0 x5_2 x6_2 = some (r1, r2)) ∧ Aside0 (kq ≤ k1) ∧ Aside0 (Kd.R (Kd.int .u8) 5 w' w.heap.size (fun _ => True) v5 x5_2) ∧ Aside0 (Below w.heap.size w w'))
          case atStart => exact ⟨(y411), (0), (by first | rfl | (simp; done) | (simp [*]; done)), H', ⟨Nat.le_refl _⟩, ⟨by (with_reducible repeat (first | apply Kd.R_alloc | apply Kd.R_drewN | apply Kd.R_drew)); exact HO413.out⟩, ⟨zb⟩⟩
          case round =>
            clear H'
            try clear c1
            try clear c2
            try clear c2b0
            try clear p2
            try clear c3
            try clear c3b0
            try clear c4
            try clear p4
            try clear q4
            try clear hx4
            try clear c5
            try clear p6
            try clear c8
            try clear c8b0
            try clear c8b1
            try clear hx409_0
            try clear hx409_1
            try clear hx409_2
            try clear hx409_3
            try clear hx409_4
            try clear hx409_5
            try clear p409
            try clear q409
            obtain ⟨x5_2, x6_2, rfl, HA, HK2, HO_5, HB⟩ := hrel
            cases gk with
            | zero => exact absurd HA.out (by simp [garderoberef08_Put.l1])
            | succ k2 =>
              have H := HA.out
              clear HA
              simp only [garderoberef08_Put.l1] at H
              by_cases c11 : x6_2 < (l0.length : Int)
              · rw [if_pos c11] at H
                have c11b0 : decide (x6_2 < (l0.length : Int)) = true := decide_eq_true c11
                clear c11
                by_cases c12 : 0 ≤ x6_2
                · rw [if_pos c12] at H
                  have c12b0 : decide (0 ≤ x6_2) = true := decide_eq_true c12
                  clear c12
                  replace H := Option.bind_eq_some_iff.mp H
                  obtain ⟨t415, A130, H⟩ := H
                  replace H : (if x5_2.length + t415.length < 140737488355328 then (garderoberef08_Put.l1 k2 l0 (x5_2 ++ t415) (wrap64 (x6_2 + 1))) else (none)) = some (r1, r2) := H
                  have A13 := Aside0.mk A130
                  clear A130
                  by_cases c14 : x5_2.length + t415.length < 140737488355328
                  · rw [if_pos c14] at H
                    have LMc14 := Aside0.mk c14
                    clear c14
                    obtain ⟨y418, hy418⟩ : ∃ y_ : List Int, y_ = (x5_2 ++ t415) := ⟨_, rfl⟩
                    replace H : (garderoberef08_Put.l1 k2 l0 y418 (wrap64 (x6_2 + 1))) = some (r1, r2) := by first | (rw [hy418]; with_reducible exact H) | (have H2_ := (Option.bind_some _ _).symm.trans H; rw [hy418]; with_reducible exact H2_) | (have H2_ := (Option.bind_some _ _).symm.trans H; with_reducible exact H2_) | with_reducible exact H | (rw [hy418]; exact H) | exact H
                    have Ny418 := Aside0.mk hy418
                    clear hy418
                    have H' := Aside0.mk H
                    clear H
                    have p414 : 0 ≤ (x6_2 : Int) := of_decide_eq_true (by first | (with_reducible assumption) | assumption)
                    have q414 : x6_2 < (l0.length : Int) := of_decide_eq_true (by first | (with_reducible assumption) | assumption)
                    obtain ⟨ad414, A414_2, c414_2, A414_3, c414_3, A414_4, c414_4, A414_5, c414_5, e414, hx414_0, hx414_1, hx414_2, hx414_3, hx414_4, hx414_5, hl414_2, hi414_2, hl414_3, hi414_3, hl414_4, hi414_4, hl414_5, hi414_5⟩ := at_T38 HR0.out x6_2 p414 q414
                    cases e414
                    replace hx414_0 := (HB.out.cell (World.block_lt_of_cell? w _ hx414_0)).trans hx414_0
                    replace hx414_1 := (HB.out.cell (World.block_lt_of_cell? w _ hx414_1)).trans hx414_1
                    replace hx414_2 := (HB.out.cell (World.block_lt_of_cell? w _ hx414_2)).trans hx414_2
                    replace hx414_3 := (HB.out.cell (World.block_lt_of_cell? w _ hx414_3)).trans hx414_3
                    replace hx414_4 := (HB.out.cell (World.block_lt_of_cell? w _ hx414_4)).trans hx414_4
                    replace hx414_5 := (HB.out.cell (World.block_lt_of_cell? w _ hx414_5)).trans hx414_5
                    have HR414_2 := Aside0.mk hi414_2
                    have HC414_2 := Aside0.mk hl414_2
                    clear hi414_2 hl414_2
                    have HR414_3 := Aside0.mk hi414_3
                    have HC414_3 := Aside0.mk hl414_3
                    clear hi414_3 hl414_3
                    have HR414_4 := Aside0.mk hi414_4
                    have HC414_4 := Aside0.mk hl414_4
                    clear hi414_4 hl414_4
                    have HR414_5 := Aside0.mk hi414_5
                    have HC414_5 := Aside0.mk hl414_5
                    clear hi414_5 hl414_5
                    replace p414 := eq_true p414
                    replace q414 := eq_true q414
                    go_wp2_with (first | ((with_reducible refine gate_callee (f := 25) rfl ?_); refine goesL_ (some 37) rfl rfl Try.func25 (by kernel_rfl) rfl #[.agg #[.int .u8 ((rd_T38 l0 x6_2).f0), .int .u16 ((rd_T38 l0 x6_2).f1), .slice A414_2 ((rd_T38 l0 x6_2).f2).length c414_2, .slice A414_3 ((rd_T38 l0 x6_2).f3).length c414_3, .slice A414_4 ((rd_T38 l0 x6_2).f4).length c414_4, .slice A414_5 ((rd_T38 l0 x6_2).f5).length c414_5]] rfl zargs ?_; (with_reducible refine (garderoberef08_bytes.calls k2 ((rd_T38 l0 x6_2).f0) ((rd_T38 l0 x6_2).f1) _ _ ((rd_T38 l0 x6_2).f2) _ _ ((rd_T38 l0 x6_2).f3) _ _ ((rd_T38 l0 x6_2).f4) _ _ ((rd_T38 l0 x6_2).f5) t415 _ ?side1 ?side2 ?side3 ?side4 ?side5 ?side6 ?side7 ?side8 A13.out).mono ?_); (case side1 => repeat (first | exact (Kd.C_below HR414_2.out HB.out) | (with_reducible refine Kd.C_alloc ?_ _) | (with_reducible refine Kd.C_drewN ?_ _) | (with_reducible refine Kd.C_drew ?_))); (case side2 => exact HC414_2.out); (case side3 => repeat (first | exact (Kd.C_below HR414_3.out HB.out) | (with_reducible refine Kd.C_alloc ?_ _) | (with_reducible refine Kd.C_drewN ?_ _) | (with_reducible refine Kd.C_drew ?_))); (case side4 => exact HC414_3.out); (case side5 => repeat (first | exact (Kd.C_below HR414_4.out HB.out) | (with_reducible refine Kd.C_alloc ?_ _) | (with_reducible refine Kd.C_drewN ?_ _) | (with_reducible refine Kd.C_drew ?_))); (case side6 => exact HC414_4.out); (case side7 => repeat (first | exact (Kd.C_below HR414_5.out HB.out) | (with_reducible refine Kd.C_alloc ?_ _) | (with_reducible refine Kd.C_drewN ?_ _) | (with_reducible refine Kd.C_drew ?_))); (case side8 => exact HC414_5.out); rintro e w15 ⟨v416, rfl, ho0, hb⟩; refine ⟨_, rfl, ?_⟩; have n0_ := Aside0.mk (Kd.R_elder' (by (with_reducible repeat (first | apply Kd.R_alloc | apply Kd.R_drewN | apply Kd.R_drew)); exact HO_5.out) (Kd.R_base ho0) hb); have n1_ := Aside0.mk (Kd.R_lower (Kd.R_new' ho0 (Kd.R_lt (by (with_reducible repeat (first | apply Kd.R_alloc | apply Kd.R_drewN | apply Kd.R_drew)); exact HO_5.out))) (below_size (zb))); have n2_ := Aside0.mk (below_step (zb) hb); clear HO_5; clear HB; have HO_5 := n0_; have HO417 := n1_; have HB := n2_; clear n0_ n1_ n2_; (try clear hb); (try clear hb2); (try clear hk); (try clear hi); (try clear ho0); obtain ⟨Ao17, co17, eo17⟩ := Kd.R_slice HO417.out; subst eo17) | ((with_reducible refine gate_builtin (b := .append) (xs := #[.tmp 32, .tmp 37]) rfl ?_); at_builtin; refine Kd.R_append_rows (Kd.int .u8) (w0 := w) w.heap.size rfl (.tmp 32) (.tmp 37) 24 5 (.int .u8 0) 1 rfl Try.underlying24 info5 rfl (by decide) (by omega) u5 x5_2 t415 _ _ _ (fun k_ => some k_ ≠ (.slice Ao17 t415.length co17 : Value).ownBlock) (fun _ => False) rfl rfl ?aO ?aR (fun _ _ h => h) (fun _ h => h.elim) ?aF ?aB ?aS ?aL ?_; (case aR => repeat (first | exact (Kd.R_reads' HO417.out).2.2 | (with_reducible refine Kd.C_alloc ?_ _) | (with_reducible refine Kd.C_drewN ?_ _) | (with_reducible refine Kd.C_drew ?_))); (case aB => exact (zb)); (case aF => exact (fun k_ hk => Kd.fresh' (Kd.R_lt (by (with_reducible repeat (first | apply Kd.R_alloc | apply Kd.R_drewN | apply Kd.R_drew)); exact HO417.out)) k_ hk)); (case aO => exact (by (with_reducible repeat (first | apply Kd.R_alloc | apply Kd.R_drewN | apply Kd.R_drew)); exact Kd.R_mono HO_5.out (fun _ hk => hk.2))); (case aS => exact (below_size (zb))); (case aL => have := LMc14.out; omega); intro v419 w16 ho hb hg hat; rw [← Ny418.out] at ho; have n0_ := Aside0.mk (Kd.R_after (ok := (fun _ => True)) (by (with_reducible repeat (first | apply Kd.R_alloc | apply Kd.R_drewN | apply Kd.R_drew)); exact HO417.out) hg hat); have n1_ := Aside0.mk (hb); have n2_ := Aside0.mk (ho); clear HO417; clear HB; clear HO_5; have HO417 := n0_; have HB := n1_; have HO420 := n2_; clear n0_ n1_ n2_; clear ho hb hg hat))
                    go_roundg k2
                    case measure => have := HK1.out; have := HK2.out; omega
                    case rel => exact ⟨(y418), (wrap64 (x6_2 + 1)), (by first | rfl | (simp; done) | (simp [*]; done)), H', ⟨by have := HK1.out; have := HK2.out; omega⟩, ⟨by (with_reducible repeat (first | apply Kd.R_alloc | apply Kd.R_drewN | apply Kd.R_drew)); exact Kd.R_mono HO420.out (fun _ hk => trivial)⟩, ⟨zb⟩⟩
                  · rw [if_neg c14] at H
                    exact absurd H (by simp)
                · rw [if_neg c12] at H
                  exact absurd H (by simp)
              · rw [if_neg c11] at H
                have c11b0 : decide (x6_2 < (l0.length : Int)) = false := decide_eq_false c11
                clear c11
                simp only [Option.some.injEq, Prod.mk.injEq] at H
                obtain ⟨rfl, rfl⟩ := H
                go_wp2
                go_ret2
                exact ⟨_, by first | rfl | (simp [errW_none, errW_some] <;> rfl) | (simp [*, errW_none, errW_some] <;> rfl), by (with_reducible repeat (first | apply Kd.R_alloc | apply Kd.R_drewN | apply Kd.R_drew)); exact HO_5.out, zb⟩

/-! ### garderoberef00_Same: function 18 -/
def garderoberef00_Same.l0 : Nat → List Int → List Int → Int → Option (Bool)
  | 0, _, _, _ => none
  | k + 1, x0, x1, x5 => if x5 < (x0.length : Int) then (if 0 ≤ x5 then (if x5 < (x1.length : Int) then (if (rd x0 x5) = (rd x1 x5) then (garderoberef00_Same.l0 k x0 x1 (wrap64 (x5 + 1))) else (some false)) else (none)) else (none)) else (some true)
def garderoberef00_Same.f (k : Nat) (l0 : List Int) (l1 : List Int) : Option (Bool) := if (l0.length : Int) = (l1.length : Int) then (garderoberef00_Same.l0 k l0 l1 0) else (some false)
theorem garderoberef00_Same.mono_l : ∀ k, (∀ y0 y1 y2, LeO (garderoberef00_Same.l0 k y0 y1 y2) (garderoberef00_Same.l0 (k + 1) y0 y1 y2))
  | 0 => fun _ _ _ r h => by simp [garderoberef00_Same.l0] at h
  | k + 1 => by
    have ih0 := garderoberef00_Same.mono_l k
    · intro y0 y1 y2
      unfold garderoberef00_Same.l0
      repeat' first
      | (with_reducible exact ih0 _ _ _)
      | (with_reducible exact LeO.refl _)
      | (with_reducible exact LeO.none _)
      | (with_reducible refine LeO.ite ?_ ?_)
      | (with_reducible refine LeO.bind ?_ (fun _ => ?_))
      | exact ih0 _ _ _
      | exact LeO.none _
      | refine LeO.ite ?_ ?_
      | refine LeO.bind ?_ (fun _ => ?_)
theorem garderoberef00_Same.mono : ∀ a0 a1 k, LeO (garderoberef00_Same.f k a0 a1) (garderoberef00_Same.f (k + 1) a0 a1) := by
  intro a0 a1 k
  have ih0 := garderoberef00_Same.mono_l k
  unfold garderoberef00_Same.f
  repeat' first
      | (with_reducible exact ih0 _ _ _)
      | (with_reducible exact LeO.refl _)
      | (with_reducible exact LeO.none _)
      | (with_reducible refine LeO.ite ?_ ?_)
      | (with_reducible refine LeO.bind ?_ (fun _ => ?_))
      | exact ih0 _ _ _
      | exact LeO.none _
      | refine LeO.ite ?_ ?_
      | refine LeO.bind ?_ (fun _ => ?_)
set_option maxHeartbeats 8000000 in
set_option maxRecDepth 100000 in
theorem garderoberef00_Same.calls (k : Nat) (A0 : Option Addr) (c0 : Nat) (l0 : List Int) (A1 : Option Addr) (c1 : Nat) (l1 : List Int) (r : Bool) (w : World) (hr0 : Kd.C (Kd.int .u8) w A0 l0.length l0) (hc0 : l0.length ≤ c0) (hr1 : Kd.C (Kd.int .u8) w A1 l1.length l1) (hc1 : l1.length ≤ c1) (h : garderoberef00_Same.f k l0 l1 = some r) :
    Calls Try.prog 18 #[.slice A0 l0.length c0, .slice A1 l1.length c1] w fun e w' => e = .returned (.bool r) ∧ Drawn0 w w' := by
  have HR0 := Aside0.mk hr0
  have HC0 := Aside0.mk hc0
  clear hr0 hc0
  have HR1 := Aside0.mk hr1
  have HC1 := Aside0.mk hc1
  clear hr1 hc1
  have H : (if (l0.length : Int) = (l1.length : Int) then (garderoberef00_Same.l0 k l0 l1 0) else (some false)) = some r := h
  clear h
  by_cases c3 : (l0.length : Int) = (l1.length : Int)
  · rw [if_pos c3] at H
    have c3b0 : ((l0.length : Int) == (l1.length : Int)) = true := beq_iff_eq.mpr c3
    have c3b1 : ((l0.length : Int) != (l1.length : Int)) = false := bne_eq_false_iff_eq.mpr c3
    have c3b2 : (l0.length == l1.length) = true := by first | simpa using c3 | (simp at c3 ⊢; omega)
    clear c3
    have H' := Aside0.mk H
    clear H
    go_enter Try.func18, Try.ntmps18
    go_wp2
    repeat (go_quiet (fail); try go_wp2)
    go_loopg [5] k (fun kq v5 w' => ∃ (x5_1 : Int), v5 = .int .i64 x5_1 ∧ Aside0 (garderoberef00_Same.l0 kq l0 l1 x5_1 = some r) ∧ Aside0 (kq ≤ k) ∧ Drawn0 w w')
    case atStart => exact ⟨(0), (by first | rfl | (simp; done) | (simp [*]; done)), H', ⟨Nat.le_refl _⟩, by repeat (first | exact Drawn0.refl _ | apply Drawn0.step)⟩
    case round =>
      clear H'
      try clear c1
      try clear p2
      try clear c3
      try clear c3b0
      try clear c3b1
      try clear c3b2
      obtain ⟨x5_1, rfl, HA, HK1, ⟨m1, rfl⟩⟩ := hrel
      cases gk with
      | zero => exact absurd HA.out (by simp [garderoberef00_Same.l0])
      | succ k1 =>
        have H := HA.out
        clear HA
        simp only [garderoberef00_Same.l0] at H
        by_cases c4 : x5_1 < (l0.length : Int)
        · rw [if_pos c4] at H
          have c4b0 : decide (x5_1 < (l0.length : Int)) = true := decide_eq_true c4
          clear c4
          by_cases c5 : 0 ≤ x5_1
          · rw [if_pos c5] at H
            have c5b0 : decide (0 ≤ x5_1) = true := decide_eq_true c5
            clear c5
            by_cases c6 : x5_1 < (l1.length : Int)
            · rw [if_pos c6] at H
              have c6b0 : decide (x5_1 < (l1.length : Int)) = true := decide_eq_true c6
              clear c6
              by_cases c7 : (rd l0 x5_1) = (rd l1 x5_1)
              · rw [if_pos c7] at H
                have c7b0 : ((rd l0 x5_1) == (rd l1 x5_1)) = true := beq_iff_eq.mpr c7
                have c7b1 : ((rd l0 x5_1) != (rd l1 x5_1)) = false := bne_eq_false_iff_eq.mpr c7
                clear c7
                have H' := Aside0.mk H
                clear H
                have p421 : 0 ≤ (x5_1 : Int) := of_decide_eq_true (by first | (with_reducible assumption) | assumption)
                have q421 : x5_1 < (l0.length : Int) := of_decide_eq_true (by first | (with_reducible assumption) | assumption)
                obtain ⟨ad421, e421, hx421_0⟩ := Kd.at_int HR0.out x5_1 p421 q421
                cases e421
                replace p421 := eq_true p421
                replace q421 := eq_true q421
                have p422 : 0 ≤ (x5_1 : Int) := of_decide_eq_true (by first | (with_reducible assumption) | assumption)
                have q422 : x5_1 < (l1.length : Int) := of_decide_eq_true (by first | (with_reducible assumption) | assumption)
                obtain ⟨ad422, e422, hx422_0⟩ := Kd.at_int HR1.out x5_1 p422 q422
                cases e422
                replace p422 := eq_true p422
                replace q422 := eq_true q422
                go_wp2
                repeat (go_quiet (fail); try go_wp2)
                go_roundg k1
                case measure => have := HK1.out; omega
                case rel => exact ⟨(wrap64 (x5_1 + 1)), (by first | rfl | (simp; done) | (simp [*]; done)), H', ⟨by have := HK1.out; omega⟩, by repeat (first | exact Drawn0.refl _ | apply Drawn0.step)⟩
              · rw [if_neg c7] at H
                have c7b0 : ((rd l0 x5_1) == (rd l1 x5_1)) = false := beq_eq_false_iff_ne.mpr c7
                have c7b1 : ((rd l0 x5_1) != (rd l1 x5_1)) = true := bne_iff_ne.mpr c7
                obtain rfl := Option.some.inj H
                have p421 : 0 ≤ (x5_1 : Int) := of_decide_eq_true (by first | (with_reducible assumption) | assumption)
                have q421 : x5_1 < (l0.length : Int) := of_decide_eq_true (by first | (with_reducible assumption) | assumption)
                obtain ⟨ad421, e421, hx421_0⟩ := Kd.at_int HR0.out x5_1 p421 q421
                cases e421
                replace p421 := eq_true p421
                replace q421 := eq_true q421
                have p422 : 0 ≤ (x5_1 : Int) := of_decide_eq_true (by first | (with_reducible assumption) | assumption)
                have q422 : x5_1 < (l1.length : Int) := of_decide_eq_true (by first | (with_reducible assumption) | assumption)
                obtain ⟨ad422, e422, hx422_0⟩ := Kd.at_int HR1.out x5_1 p422 q422
                cases e422
                replace p422 := eq_true p422
                replace q422 := eq_true q422
                go_wp2
                repeat (go_quiet (fail); try go_wp2)
                go_ret
                exact ⟨by first | rfl | (simp; done) | (simp [*]; done), by repeat (first | exact Drawn0.refl _ | apply Drawn0.step)⟩
            · rw [if_neg c6] at H
              exact absurd H (by simp)
          · rw [if_neg c5] at H
            exact absurd H (by simp)
        · rw [if_neg c4] at H
          have c4b0 : decide (x5_1 < (l0.length : Int)) = false := decide_eq_false c4
          clear c4
          obtain rfl := Option.some.inj H
          go_wp2
          repeat (go_quiet (fail); try go_wp2)
          go_ret
          exact ⟨by first | rfl | (simp; done) | (simp [*]; done), by repeat (first | exact Drawn0.refl _ | apply Drawn0.step)⟩
  · rw [if_neg c3] at H
    have c3b0 : ((l0.length : Int) == (l1.length : Int)) = false := beq_eq_false_iff_ne.mpr c3
    have c3b1 : ((l0.length : Int) != (l1.length : Int)) = true := bne_iff_ne.mpr c3
    have c3b2 : (l0.length == l1.length) = false := by first | simpa using c3 | (simp at c3 ⊢; omega)
    obtain rfl := Option.some.inj H
    go_enter Try.func18, Try.ntmps18
    go_wp2
    repeat (go_quiet (fail); try go_wp2)
    go_ret
    exact ⟨by first | rfl | (simp; done) | (simp [*]; done), by repeat (first | exact Drawn0.refl _ | apply Drawn0.step)⟩

/-! ### garderobelaw08_ClassPuts: function 5 -/
def garderobelaw08_ClassPuts.l0 : Nat → List (S38) → Int → Option (Bool)
  | 0, _, _ => none
  | k + 1, x0, x3 => if x3 < (x0.length : Int) then (if 0 ≤ x3 then ((class_May.f ((rd_T38 x0 x3).f0) ((rd_T38 x0 x3).f1) ((rd_T38 x0 x3).f2) ((rd_T38 x0 x3).f3) ((rd_T38 x0 x3).f4) ((rd_T38 x0 x3).f5)).bind fun t424 => ((garderoberef08_May.f k ((rd_T38 x0 x3).f0) ((rd_T38 x0 x3).f1) ((rd_T38 x0 x3).f2) ((rd_T38 x0 x3).f3) ((rd_T38 x0 x3).f4) ((rd_T38 x0 x3).f5)).bind fun t426 => (if (t424 != t426) = true then (none) else (garderobelaw08_ClassPuts.l0 k x0 (wrap64 (x3 + 1)))))) else (none)) else ((class_Put.f x0).bind fun bt427 => ((garderoberef08_Put.f k x0).bind fun bt431 => ((garderoberef00_Same.f k bt427.1 bt431.1).bind fun t435 => (if t435 = true then (if bt427.2 = bt431.2 then ((garderobelaw08_works.f k).bind fun t436 => (some t436)) else (none)) else (none)))))
def garderobelaw08_ClassPuts.f (k : Nat) (l0 : List (S38)) : Option (Bool) := garderobelaw08_ClassPuts.l0 k l0 0
theorem garderobelaw08_ClassPuts.mono_l : ∀ k, (∀ y0 y1, LeO (garderobelaw08_ClassPuts.l0 k y0 y1) (garderobelaw08_ClassPuts.l0 (k + 1) y0 y1))
  | 0 => fun _ _ r h => by simp [garderobelaw08_ClassPuts.l0] at h
  | k + 1 => by
    have ih0 := garderobelaw08_ClassPuts.mono_l k
    · intro y0 y1
      unfold garderobelaw08_ClassPuts.l0
      repeat' first
      | (with_reducible exact ih0 _ _)
      | (with_reducible exact garderobelaw08_works.mono _)
      | (with_reducible exact garderoberef00_Same.mono _ _ _)
      | (with_reducible exact garderoberef08_May.mono _ _ _ _ _ _ _)
      | (with_reducible exact garderoberef08_Put.mono _ _)
      | (with_reducible exact LeO.refl _)
      | (with_reducible exact LeO.none _)
      | (with_reducible refine LeO.ite ?_ ?_)
      | (with_reducible refine LeO.bind ?_ (fun _ => ?_))
      | exact ih0 _ _
      | exact garderobelaw08_works.mono _
      | exact garderoberef00_Same.mono _ _ _
      | exact garderoberef08_May.mono _ _ _ _ _ _ _
      | exact garderoberef08_Put.mono _ _
      | exact LeO.none _
      | refine LeO.ite ?_ ?_
      | refine LeO.bind ?_ (fun _ => ?_)
theorem garderobelaw08_ClassPuts.mono : ∀ a0 k, LeO (garderobelaw08_ClassPuts.f k a0) (garderobelaw08_ClassPuts.f (k + 1) a0) := by
  intro a0 k
  have ih0 := garderobelaw08_ClassPuts.mono_l k
  unfold garderobelaw08_ClassPuts.f
  repeat' first
      | (with_reducible exact ih0 _ _)
      | (with_reducible exact garderobelaw08_works.mono _)
      | (with_reducible exact garderoberef00_Same.mono _ _ _)
      | (with_reducible exact garderoberef08_May.mono _ _ _ _ _ _ _)
      | (with_reducible exact garderoberef08_Put.mono _ _)
      | (with_reducible exact LeO.refl _)
      | (with_reducible exact LeO.none _)
      | (with_reducible refine LeO.ite ?_ ?_)
      | (with_reducible refine LeO.bind ?_ (fun _ => ?_))
      | exact ih0 _ _
      | exact garderobelaw08_works.mono _
      | exact garderoberef00_Same.mono _ _ _
      | exact garderoberef08_May.mono _ _ _ _ _ _ _
      | exact garderoberef08_Put.mono _ _
      | exact LeO.none _
      | refine LeO.ite ?_ ?_
      | refine LeO.bind ?_ (fun _ => ?_)
def garderobelaw08_ClassPuts.T4 : Bool × List (List Nat × List Nat) := (true, [([], []), ([], []), ([0, 1], [0, 1]), ([2], [2]), ([3], [3]), ([], []), ([], []), ([5, 6], [5, 6]), ([7], [7]), ([8, 4], [8]), ([4, 9], [4, 9])])
def garderobelaw08_ClassPuts.B4 : List Nat := [0, 0, 3, 7, 15, 0, 0, 96, 224, 511, 1023]
theorem garderobelaw08_ClassPuts.tab4 : rtab .any (opsOf Try.f5 4) = garderobelaw08_ClassPuts.T4 := by kernel_rfl
theorem garderobelaw08_ClassPuts.bits4 : waitsOk garderobelaw08_ClassPuts.T4.2 garderobelaw08_ClassPuts.B4 = true := by kernel_rfl
set_option maxHeartbeats 8000000 in
set_option maxRecDepth 100000 in
theorem garderobelaw08_ClassPuts.calls (k : Nat) (A0 : Option Addr) (c0 : Nat) (l0 : List (S38)) (r : Bool) (w : World) (hr0 : Kd.C k38 w A0 l0.length l0) (hc0 : l0.length ≤ c0) (h : garderobelaw08_ClassPuts.f k l0 = some r) :
    Calls Try.prog 5 #[.slice A0 l0.length c0] w fun e w' => e = .returned (.bool r) ∧ Below w.heap.size w w' := by
  have hu38 := Try.underlying38
  have HR0 := Aside0.mk hr0
  have HC0 := Aside0.mk hc0
  clear hr0 hc0
  have HB := Aside0.mk (Below.refl w.heap.size w)
  have H : (garderobelaw08_ClassPuts.l0 k l0 0) = some r := h
  clear h
  have H' := Aside0.mk H
  clear H
  go_enter Try.func5, Try.ntmps5
  go_wp2
  go_loopg [3] k (fun kq v3 w' => ∃ (x3_1 : Int), v3 = .int .i64 x3_1 ∧ Aside0 (garderobelaw08_ClassPuts.l0 kq l0 x3_1 = some r) ∧ Aside0 (kq ≤ k) ∧ Aside0 (Below w.heap.size w w'))
  case atStart => exact ⟨(0), (by first | rfl | (simp; done) | (simp [*]; done)), H', ⟨Nat.le_refl _⟩, ⟨zb⟩⟩
  case round =>
    clear H'
    obtain ⟨x3_1, rfl, HA, HK1, HB⟩ := hrel
    cases gk with
    | zero => exact absurd HA.out (by simp [garderobelaw08_ClassPuts.l0])
    | succ k1 =>
      have H := HA.out
      clear HA
      simp only [garderobelaw08_ClassPuts.l0] at H
      by_cases c2 : x3_1 < (l0.length : Int)
      · rw [if_pos c2] at H
        have c2b0 : decide (x3_1 < (l0.length : Int)) = true := decide_eq_true c2
        clear c2
        by_cases c3 : 0 ≤ x3_1
        · rw [if_pos c3] at H
          have c3b0 : decide (0 ≤ x3_1) = true := decide_eq_true c3
          clear c3
          replace H := Option.bind_eq_some_iff.mp H
          obtain ⟨t424, A40, H⟩ := H
          replace H : ((garderoberef08_May.f k1 ((rd_T38 l0 x3_1).f0) ((rd_T38 l0 x3_1).f1) ((rd_T38 l0 x3_1).f2) ((rd_T38 l0 x3_1).f3) ((rd_T38 l0 x3_1).f4) ((rd_T38 l0 x3_1).f5)).bind fun t426 => (if (t424 != t426) = true then (none) else (garderobelaw08_ClassPuts.l0 k1 l0 (wrap64 (x3_1 + 1))))) = some r := H
          have A4 := Aside0.mk A40
          clear A40
          replace H := Option.bind_eq_some_iff.mp H
          obtain ⟨t426, A50, H⟩ := H
          replace H : (if (t424 != t426) = true then (none) else (garderobelaw08_ClassPuts.l0 k1 l0 (wrap64 (x3_1 + 1)))) = some r := H
          have A5 := Aside0.mk A50
          clear A50
          by_cases c6 : (t424 != t426) = true
          · rw [if_pos c6] at H
            exact absurd H (by simp)
          · rw [if_neg c6] at H
            have c6b0 : (t424 != t426) = false := by simpa using c6
            (try (have c6b1 : decide (t424 = t426) = true := by simpa using c6))
            (try (have c6b2 : (t424 == t426) = true := by simpa using c6))
            clear c6
            have H' := Aside0.mk H
            clear H
            try go_wp2
            have n0_ := Aside0.mk (below_drew1 HB.out)
            clear HB
            have HB := n0_
            clear n0_
            have p423 : 0 ≤ (x3_1 : Int) := of_decide_eq_true (by first | (with_reducible assumption) | assumption)
            have q423 : x3_1 < (l0.length : Int) := of_decide_eq_true (by first | (with_reducible assumption) | assumption)
            obtain ⟨ad423, A423_2, c423_2, A423_3, c423_3, A423_4, c423_4, A423_5, c423_5, e423, hx423_0, hx423_1, hx423_2, hx423_3, hx423_4, hx423_5, hl423_2, hi423_2, hl423_3, hi423_3, hl423_4, hi423_4, hl423_5, hi423_5⟩ := at_T38 HR0.out x3_1 p423 q423
            have hw423_5 := hx423_5
            have hw423_4 := hx423_4
            have hw423_3 := hx423_3
            have hw423_2 := hx423_2
            have hw423_1 := hx423_1
            have hw423_0 := hx423_0
            cases e423
            replace hx423_0 := (HB.out.cell (World.block_lt_of_cell? w _ hx423_0)).trans hx423_0
            replace hx423_1 := (HB.out.cell (World.block_lt_of_cell? w _ hx423_1)).trans hx423_1
            replace hx423_2 := (HB.out.cell (World.block_lt_of_cell? w _ hx423_2)).trans hx423_2
            replace hx423_3 := (HB.out.cell (World.block_lt_of_cell? w _ hx423_3)).trans hx423_3
            replace hx423_4 := (HB.out.cell (World.block_lt_of_cell? w _ hx423_4)).trans hx423_4
            replace hx423_5 := (HB.out.cell (World.block_lt_of_cell? w _ hx423_5)).trans hx423_5
            have HR423_2 := Aside0.mk hi423_2
            have HC423_2 := Aside0.mk hl423_2
            clear hi423_2 hl423_2
            have HR423_3 := Aside0.mk hi423_3
            have HC423_3 := Aside0.mk hl423_3
            clear hi423_3 hl423_3
            have HR423_4 := Aside0.mk hi423_4
            have HC423_4 := Aside0.mk hl423_4
            clear hi423_4 hl423_4
            have HR423_5 := Aside0.mk hi423_5
            have HC423_5 := Aside0.mk hl423_5
            clear hi423_5 hl423_5
            replace p423 := eq_true p423
            replace q423 := eq_true q423
            have p425 : 0 ≤ (x3_1 : Int) := of_decide_eq_true (by first | (with_reducible assumption) | assumption)
            have q425 : x3_1 < (l0.length : Int) := of_decide_eq_true (by first | (with_reducible assumption) | assumption)
            obtain ⟨ad425, A425_2, c425_2, A425_3, c425_3, A425_4, c425_4, A425_5, c425_5, e425, hx425_0, hx425_1, hx425_2, hx425_3, hx425_4, hx425_5, hl425_2, hi425_2, hl425_3, hi425_3, hl425_4, hi425_4, hl425_5, hi425_5⟩ := at_T38 HR0.out x3_1 p425 q425
            have hw425_5 := hx425_5
            have hw425_4 := hx425_4
            have hw425_3 := hx425_3
            have hw425_2 := hx425_2
            have hw425_1 := hx425_1
            have hw425_0 := hx425_0
            obtain rfl : ad423 = ad425 := (by injection e425)
            replace hx425_0 := (HB.out.cell (World.block_lt_of_cell? w _ hx425_0)).trans hx425_0
            replace hx425_1 := (HB.out.cell (World.block_lt_of_cell? w _ hx425_1)).trans hx425_1
            replace hx425_2 := (HB.out.cell (World.block_lt_of_cell? w _ hx425_2)).trans hx425_2
            replace hx425_3 := (HB.out.cell (World.block_lt_of_cell? w _ hx425_3)).trans hx425_3
            replace hx425_4 := (HB.out.cell (World.block_lt_of_cell? w _ hx425_4)).trans hx425_4
            replace hx425_5 := (HB.out.cell (World.block_lt_of_cell? w _ hx425_5)).trans hx425_5
            have HR425_2 := Aside0.mk hi425_2
            have HC425_2 := Aside0.mk hl425_2
            clear hi425_2 hl425_2
            have HR425_3 := Aside0.mk hi425_3
            have HC425_3 := Aside0.mk hl425_3
            clear hi425_3 hl425_3
            have HR425_4 := Aside0.mk hi425_4
            have HC425_4 := Aside0.mk hl425_4
            clear hi425_4 hl425_4
            have HR425_5 := Aside0.mk hi425_5
            have HC425_5 := Aside0.mk hl425_5
            clear hi425_5 hl425_5
            replace p425 := eq_true p425
            replace q425 := eq_true q425
            have ea_ := Option.some.inj (hx423_2.symm.trans hx425_2)
            injection ea_ with ea_ en_ ec_
            subst ea_
            subst ec_
            clear en_
            have ea_ := Option.some.inj (hx423_3.symm.trans hx425_3)
            injection ea_ with ea_ en_ ec_
            subst ea_
            subst ec_
            clear en_
            have ea_ := Option.some.inj (hx423_4.symm.trans hx425_4)
            injection ea_ with ea_ en_ ec_
            subst ea_
            subst ec_
            clear en_
            have ea_ := Option.some.inj (hx423_5.symm.trans hx425_5)
            injection ea_ with ea_ en_ ec_
            subst ea_
            subst ec_
            clear en_
            refine start_ (n := 11) (S := fun w' => w'.cell? (ad423.add ((x3_1).toNat * 6)) = some (.int .u8 ((rd_T38 l0 x3_1).f0)) ∧ w'.cell? ⟨(ad423.add ((x3_1).toNat * 6)).block, (ad423.add ((x3_1).toNat * 6)).off + 1, none⟩ = some (.int .u16 ((rd_T38 l0 x3_1).f1)) ∧ w'.cell? ⟨(ad423.add ((x3_1).toNat * 6)).block, (ad423.add ((x3_1).toNat * 6)).off + 2, none⟩ = some (.slice A423_2 ((rd_T38 l0 x3_1).f2).length c423_2) ∧ w'.cell? ⟨(ad423.add ((x3_1).toNat * 6)).block, (ad423.add ((x3_1).toNat * 6)).off + 3, none⟩ = some (.slice A423_3 ((rd_T38 l0 x3_1).f3).length c423_3) ∧ w'.cell? ⟨(ad423.add ((x3_1).toNat * 6)).block, (ad423.add ((x3_1).toNat * 6)).off + 4, none⟩ = some (.slice A423_4 ((rd_T38 l0 x3_1).f4).length c423_4) ∧ w'.cell? ⟨(ad423.add ((x3_1).toNat * 6)).block, (ad423.add ((x3_1).toNat * 6)).off + 5, none⟩ = some (.slice A423_5 ((rd_T38 l0 x3_1).f5).length c423_5) ∧ w'.cell? (ad423.add ((x3_1).toNat * 6)) = some (.int .u8 ((rd_T38 l0 x3_1).f0)) ∧ w'.cell? ⟨(ad423.add ((x3_1).toNat * 6)).block, (ad423.add ((x3_1).toNat * 6)).off + 1, none⟩ = some (.int .u16 ((rd_T38 l0 x3_1).f1)) ∧ w'.cell? ⟨(ad423.add ((x3_1).toNat * 6)).block, (ad423.add ((x3_1).toNat * 6)).off + 2, none⟩ = some (.slice A423_2 ((rd_T38 l0 x3_1).f2).length c423_2) ∧ w'.cell? ⟨(ad423.add ((x3_1).toNat * 6)).block, (ad423.add ((x3_1).toNat * 6)).off + 3, none⟩ = some (.slice A423_3 ((rd_T38 l0 x3_1).f3).length c423_3) ∧ w'.cell? ⟨(ad423.add ((x3_1).toNat * 6)).block, (ad423.add ((x3_1).toNat * 6)).off + 4, none⟩ = some (.slice A423_4 ((rd_T38 l0 x3_1).f4).length c423_4) ∧ w'.cell? ⟨(ad423.add ((x3_1).toNat * 6)).block, (ad423.add ((x3_1).toNat * 6)).off + 5, none⟩ = some (.slice A423_5 ((rd_T38 l0 x3_1).f5).length c423_5)) (ds := []) #[false, false, false, false, false, false, false, false, false, false, false] (by kernel_rfl) rfl rfl ⟨((HB.out.cell (World.block_lt_of_cell? w _ hw423_0)).trans hw423_0), ((HB.out.cell (World.block_lt_of_cell? w _ hw423_1)).trans hw423_1), ((HB.out.cell (World.block_lt_of_cell? w _ hw423_2)).trans hw423_2), ((HB.out.cell (World.block_lt_of_cell? w _ hw423_3)).trans hw423_3), ((HB.out.cell (World.block_lt_of_cell? w _ hw423_4)).trans hw423_4), ((HB.out.cell (World.block_lt_of_cell? w _ hw423_5)).trans hw423_5), ((HB.out.cell (World.block_lt_of_cell? w _ hw425_0)).trans hw425_0), ((HB.out.cell (World.block_lt_of_cell? w _ hw425_1)).trans hw425_1), ((HB.out.cell (World.block_lt_of_cell? w _ hw425_2)).trans hw425_2), ((HB.out.cell (World.block_lt_of_cell? w _ hw425_3)).trans hw425_3), ((HB.out.cell (World.block_lt_of_cell? w _ hw425_4)).trans hw425_4), ((HB.out.cell (World.block_lt_of_cell? w _ hw425_5)).trans hw425_5)⟩ (fun hHeld => ?_); refine with_tabW garderobelaw08_ClassPuts.tab4 garderobelaw08_ClassPuts.bits4 (fun HT_ HW_ => ?_)
            generalize wr.drew = w7 at HB HR423_2 HR423_3 HR423_4 HR423_5 HR425_2 HR425_3 HR425_4 HR425_5 hx423_0 hx423_1 hx423_2 hx423_3 hx423_4 hx423_5 hx425_0 hx425_1 hx425_2 hx425_3 hx425_4 hx425_5 hHeld ⊢
            refine pure_ (i := 0) (N := some 14) (v := ?_) (a' := ?_) #[true, false, false, false, false, false, false, false, false, false, false] rfl rfl (any_of HT_.out (by kernel_rfl)) (fun _ _ _ h => h) (Or.inl ⟨by rfl, ?_⟩) ?_ ?_
            rotate_left
            · intro w'
              go_simp
              with_reducible rfl
            rotate_left
            · simp only [Act.put, List.setIfInBounds_toArray, List.set_cons_zero, List.set_cons_succ, i64_w, i32_w]
              rfl
            refine pure_ (i := 1) (N := some 15) (v := ?_) (a' := ?_) #[true, true, false, false, false, false, false, false, false, false, false] rfl rfl (any_of HT_.out (by kernel_rfl)) (fun _ _ _ h => h) (Or.inl ⟨by rfl, ?_⟩) ?_ ?_
            rotate_left
            · intro w'
              go_simp
              with_reducible rfl
            rotate_left
            · simp only [Act.put, List.setIfInBounds_toArray, List.set_cons_zero, List.set_cons_succ, i64_w, i32_w]
              rfl
            refine pure_ (i := 2) (N := some 16) (v := ?_) (a' := ?_) #[true, true, true, false, false, false, false, false, false, false, false] rfl rfl (any_of HT_.out (by kernel_rfl)) (fun _ _ _ h => h) (Or.inl ⟨by rfl, ?_⟩) ?_ ?_
            rotate_left
            · intro w'
              go_simp
              with_reducible rfl
            rotate_left
            · simp only [Act.put, List.setIfInBounds_toArray, List.set_cons_zero, List.set_cons_succ, i64_w, i32_w]
              rfl
            refine pure_ (i := 5) (N := some 19) (v := ?_) (a' := ?_) #[true, true, true, false, false, true, false, false, false, false, false] rfl rfl (any_of HT_.out (by kernel_rfl)) (fun _ _ _ h => h) (Or.inl ⟨by rfl, ?_⟩) ?_ ?_
            rotate_left
            · intro w'
              go_simp
              with_reducible rfl
            rotate_left
            · simp only [Act.put, List.setIfInBounds_toArray, List.set_cons_zero, List.set_cons_succ, i64_w, i32_w]
              rfl
            refine pure_ (i := 6) (N := some 20) (v := ?_) (a' := ?_) #[true, true, true, false, false, true, true, false, false, false, false] rfl rfl (any_of HT_.out (by kernel_rfl)) (fun _ _ _ h => h) (Or.inl ⟨by rfl, ?_⟩) ?_ ?_
            rotate_left
            · intro w'
              go_simp
              with_reducible rfl
            rotate_left
            · simp only [Act.put, List.setIfInBounds_toArray, List.set_cons_zero, List.set_cons_succ, i64_w, i32_w]
              rfl
            refine pure_ (i := 7) (N := some 21) (v := ?_) (a' := ?_) #[true, true, true, false, false, true, true, true, false, false, false] rfl rfl (any_of HT_.out (by kernel_rfl)) (fun _ _ _ h => h) (Or.inl ⟨by rfl, ?_⟩) ?_ ?_
            rotate_left
            · intro w'
              go_simp
              with_reducible rfl
            rotate_left
            · simp only [Act.put, List.setIfInBounds_toArray, List.set_cons_zero, List.set_cons_succ, i64_w, i32_w]
              rfl
            refine take_ (i := 3) (N := some 17) (v := ?_) (a' := ?_) #[true, true, true, true, false, true, true, true, false, false, false] rfl rfl (take_ofW HT_.out HW_.out (by kernel_rfl)) (fun _ _ _ h => h) (Or.inl ⟨by rfl, ?_⟩) hHeld ?_ ?_
            rotate_left
            · rintro w' ⟨s0, s1, s2, s3, s4, s5, s6, s7, s8, s9, s10, s11⟩
              go_simp
              with_reducible rfl
            rotate_left
            · simp only [Act.put, List.setIfInBounds_toArray, List.set_cons_zero, List.set_cons_succ, i64_w, i32_w]
              rfl
            refine take_ (i := 8) (N := some 22) (v := ?_) (a' := ?_) #[true, true, true, true, false, true, true, true, true, false, false] rfl rfl (take_ofW HT_.out HW_.out (by kernel_rfl)) (fun _ _ _ h => h) (Or.inl ⟨by rfl, ?_⟩) hHeld ?_ ?_
            rotate_left
            · rintro w' ⟨s0, s1, s2, s3, s4, s5, s6, s7, s8, s9, s10, s11⟩
              go_simp
              with_reducible rfl
            rotate_left
            · simp only [Act.put, List.setIfInBounds_toArray, List.set_cons_zero, List.set_cons_succ, i64_w, i32_w]
              rfl
            refine one_ (i := 4) (N := some 18) #[true, true, true, true, true, true, true, true, true, false, false] rfl rfl (one_of HT_.out (by kernel_rfl)) (by decide) (fun K hK => ?_)
            refine goes_ Try.func15 (by kernel_rfl) rfl #[.agg #[.int .u8 ((rd_T38 l0 x3_1).f0), .int .u16 ((rd_T38 l0 x3_1).f1), .slice A423_2 ((rd_T38 l0 x3_1).f2).length c423_2, .slice A423_3 ((rd_T38 l0 x3_1).f3).length c423_3, .slice A423_4 ((rd_T38 l0 x3_1).f4).length c423_4, .slice A423_5 ((rd_T38 l0 x3_1).f5).length c423_5]] (by rfl) rfl rfl zargs ?_
            with_reducible refine (class_May.calls ((rd_T38 l0 x3_1).f0) ((rd_T38 l0 x3_1).f1) _ _ ((rd_T38 l0 x3_1).f2) _ _ ((rd_T38 l0 x3_1).f3) _ _ ((rd_T38 l0 x3_1).f4) _ _ ((rd_T38 l0 x3_1).f5) t424 _ ?side1 ?side2 ?side3 ?side4 ?side5 ?side6 ?side7 ?side8 A4.out).mono ?_
            (case side1 => repeat (first | exact (Kd.C_below HR423_2.out HB.out) | (with_reducible refine Kd.C_alloc ?_ _) | (with_reducible refine Kd.C_drewN ?_ _) | (with_reducible refine Kd.C_drew ?_)))
            (case side2 => exact HC423_2.out)
            (case side3 => repeat (first | exact (Kd.C_below HR423_3.out HB.out) | (with_reducible refine Kd.C_alloc ?_ _) | (with_reducible refine Kd.C_drewN ?_ _) | (with_reducible refine Kd.C_drew ?_)))
            (case side4 => exact HC423_3.out)
            (case side5 => repeat (first | exact (Kd.C_below HR423_4.out HB.out) | (with_reducible refine Kd.C_alloc ?_ _) | (with_reducible refine Kd.C_drewN ?_ _) | (with_reducible refine Kd.C_drew ?_)))
            (case side6 => exact HC423_4.out)
            (case side7 => repeat (first | exact (Kd.C_below HR423_5.out HB.out) | (with_reducible refine Kd.C_alloc ?_ _) | (with_reducible refine Kd.C_drewN ?_ _) | (with_reducible refine Kd.C_drew ?_)))
            (case side8 => exact HC423_5.out)
            rintro e w8 ⟨rfl, hb⟩
            refine ⟨_, rfl, ?_⟩
            have n0_ := Aside0.mk (below_step (zb) hb)
            clear HB
            have HB := n0_
            clear n0_
            (try clear hb)
            (try clear hb2)
            (try clear hk)
            (try clear hi)
            refine hK.out _ _ ⟨((HB.out.cell (World.block_lt_of_cell? w _ hw423_0)).trans hw423_0), ((HB.out.cell (World.block_lt_of_cell? w _ hw423_1)).trans hw423_1), ((HB.out.cell (World.block_lt_of_cell? w _ hw423_2)).trans hw423_2), ((HB.out.cell (World.block_lt_of_cell? w _ hw423_3)).trans hw423_3), ((HB.out.cell (World.block_lt_of_cell? w _ hw423_4)).trans hw423_4), ((HB.out.cell (World.block_lt_of_cell? w _ hw423_5)).trans hw423_5), ((HB.out.cell (World.block_lt_of_cell? w _ hw425_0)).trans hw425_0), ((HB.out.cell (World.block_lt_of_cell? w _ hw425_1)).trans hw425_1), ((HB.out.cell (World.block_lt_of_cell? w _ hw425_2)).trans hw425_2), ((HB.out.cell (World.block_lt_of_cell? w _ hw425_3)).trans hw425_3), ((HB.out.cell (World.block_lt_of_cell? w _ hw425_4)).trans hw425_4), ((HB.out.cell (World.block_lt_of_cell? w _ hw425_5)).trans hw425_5)⟩ (fun hHeld => ?_)
            clear hK K
            refine norm_ (a' := ?_) ?_ ?_
            rotate_left
            · show Act.put _ (some 18) _ = _
              simp only [Act.put, List.setIfInBounds_toArray, List.set_cons_zero, List.set_cons_succ, i64_w, i32_w]
              rfl
            refine one_ (i := 9) (N := some 23) #[true, true, true, true, true, true, true, true, true, true, false] rfl rfl (one_of HT_.out (by kernel_rfl)) (by decide) (fun K hK => ?_)
            refine goes_ Try.func16 (by kernel_rfl) rfl #[.agg #[.int .u8 ((rd_T38 l0 x3_1).f0), .int .u16 ((rd_T38 l0 x3_1).f1), .slice A423_2 ((rd_T38 l0 x3_1).f2).length c423_2, .slice A423_3 ((rd_T38 l0 x3_1).f3).length c423_3, .slice A423_4 ((rd_T38 l0 x3_1).f4).length c423_4, .slice A423_5 ((rd_T38 l0 x3_1).f5).length c423_5]] (by rfl) rfl rfl zargs ?_
            with_reducible refine (garderoberef08_May.calls k1 ((rd_T38 l0 x3_1).f0) ((rd_T38 l0 x3_1).f1) _ _ ((rd_T38 l0 x3_1).f2) _ _ ((rd_T38 l0 x3_1).f3) _ _ ((rd_T38 l0 x3_1).f4) _ _ ((rd_T38 l0 x3_1).f5) t426 _ ?side1 ?side2 ?side3 ?side4 ?side5 ?side6 ?side7 ?side8 A5.out).mono ?_
            (case side1 => repeat (first | exact (Kd.C_below HR425_2.out HB.out) | (with_reducible refine Kd.C_alloc ?_ _) | (with_reducible refine Kd.C_drewN ?_ _) | (with_reducible refine Kd.C_drew ?_)))
            (case side2 => exact HC425_2.out)
            (case side3 => repeat (first | exact (Kd.C_below HR425_3.out HB.out) | (with_reducible refine Kd.C_alloc ?_ _) | (with_reducible refine Kd.C_drewN ?_ _) | (with_reducible refine Kd.C_drew ?_)))
            (case side4 => exact HC425_3.out)
            (case side5 => repeat (first | exact (Kd.C_below HR425_4.out HB.out) | (with_reducible refine Kd.C_alloc ?_ _) | (with_reducible refine Kd.C_drewN ?_ _) | (with_reducible refine Kd.C_drew ?_)))
            (case side6 => exact HC425_4.out)
            (case side7 => repeat (first | exact (Kd.C_below HR425_5.out HB.out) | (with_reducible refine Kd.C_alloc ?_ _) | (with_reducible refine Kd.C_drewN ?_ _) | (with_reducible refine Kd.C_drew ?_)))
            (case side8 => exact HC425_5.out)
            rintro e w9 ⟨rfl, hb⟩
            refine ⟨_, rfl, ?_⟩
            have n0_ := Aside0.mk (below_step (zb) hb)
            clear HB
            have HB := n0_
            clear n0_
            (try clear hb)
            (try clear hb2)
            (try clear hk)
            (try clear hi)
            refine hK.out _ _ ⟨((HB.out.cell (World.block_lt_of_cell? w _ hw423_0)).trans hw423_0), ((HB.out.cell (World.block_lt_of_cell? w _ hw423_1)).trans hw423_1), ((HB.out.cell (World.block_lt_of_cell? w _ hw423_2)).trans hw423_2), ((HB.out.cell (World.block_lt_of_cell? w _ hw423_3)).trans hw423_3), ((HB.out.cell (World.block_lt_of_cell? w _ hw423_4)).trans hw423_4), ((HB.out.cell (World.block_lt_of_cell? w _ hw423_5)).trans hw423_5), ((HB.out.cell (World.block_lt_of_cell? w _ hw425_0)).trans hw425_0), ((HB.out.cell (World.block_lt_of_cell? w _ hw425_1)).trans hw425_1), ((HB.out.cell (World.block_lt_of_cell? w _ hw425_2)).trans hw425_2), ((HB.out.cell (World.block_lt_of_cell? w _ hw425_3)).trans hw425_3), ((HB.out.cell (World.block_lt_of_cell? w _ hw425_4)).trans hw425_4), ((HB.out.cell (World.block_lt_of_cell? w _ hw425_5)).trans hw425_5)⟩ (fun hHeld => ?_)
            clear hK K
            refine norm_ (a' := ?_) ?_ ?_
            rotate_left
            · show Act.put _ (some 23) _ = _
              simp only [Act.put, List.setIfInBounds_toArray, List.set_cons_zero, List.set_cons_succ, i64_w, i32_w]
              rfl
            refine pure_ (i := 10) (N := some 24) (v := ?_) (a' := ?_) #[true, true, true, true, true, true, true, true, true, true, true] rfl rfl (any_of HT_.out (by kernel_rfl)) (fun _ _ _ h => h) (Or.inl ⟨by rfl, ?_⟩) ?_ ?_
            rotate_left
            · intro w'
              go_simp
              with_reducible rfl
            rotate_left
            · simp only [Act.put, List.setIfInBounds_toArray, List.set_cons_zero, List.set_cons_succ, i64_w, i32_w]
              rfl
            refine done_ (done_of HT_.out (by kernel_rfl)) ?_
            try go_wp2
            go_roundg k1
            case measure => have := HK1.out; omega
            case rel => exact ⟨(wrap64 (x3_1 + 1)), (by first | rfl | (simp; done) | (simp [*]; done)), H', ⟨by have := HK1.out; omega⟩, ⟨zb⟩⟩
        · rw [if_neg c3] at H
          exact absurd H (by simp)
      · rw [if_neg c2] at H
        have c2b0 : decide (x3_1 < (l0.length : Int)) = false := decide_eq_false c2
        clear c2
        replace H := Option.bind_eq_some_iff.mp H
        obtain ⟨⟨t427, t428⟩, A100, H⟩ := H
        replace H : ((garderoberef08_Put.f k1 l0).bind fun bt431 => ((garderoberef00_Same.f k1 t427 bt431.1).bind fun t435 => (if t435 = true then (if t428 = bt431.2 then ((garderobelaw08_works.f k1).bind fun t436 => (some t436)) else (none)) else (none)))) = some r := H
        have A10 := Aside0.mk A100
        clear A100
        replace H := Option.bind_eq_some_iff.mp H
        obtain ⟨⟨t431, t432⟩, A110, H⟩ := H
        replace H : ((garderoberef00_Same.f k1 t427 t431).bind fun t435 => (if t435 = true then (if t428 = t432 then ((garderobelaw08_works.f k1).bind fun t436 => (some t436)) else (none)) else (none))) = some r := H
        have A11 := Aside0.mk A110
        clear A110
        replace H := Option.bind_eq_some_iff.mp H
        obtain ⟨t435, A120, H⟩ := H
        replace H : (if t435 = true then (if t428 = t432 then ((garderobelaw08_works.f k1).bind fun t436 => (some t436)) else (none)) else (none)) = some r := H
        have A12 := Aside0.mk A120
        clear A120
        by_cases c13 : t435 = true
        · subst c13
          have H1 : (if t428 = t432 then ((garderobelaw08_works.f k1).bind fun t436 => (some t436)) else (none)) = some r := by rw [if_pos rfl] at H; exact H
          clear H
          have H := H1
          clear H1
          by_cases c14 : t428 = t432
          · rw [if_pos c14] at H
            have c14b0 : (t428 == t432) = true := beq_iff_eq.mpr c14
            have c14b1 : (t428 != t432) = false := bne_eq_false_iff_eq.mpr c14
            clear c14
            replace H := Option.bind_eq_some_iff.mp H
            obtain ⟨t436, A150, H⟩ := H
            replace H : (some t436) = some r := H
            have A15 := Aside0.mk A150
            clear A150
            obtain rfl := Option.some.inj H
            go_wp2_with (first | ((with_reducible refine gate_callee (f := 7) rfl ?_); refine goesL_ (some 27) rfl rfl Try.func7 (by kernel_rfl) rfl #[.slice A0 l0.length c0] rfl zargs ?_; (with_reducible refine (class_Put.calls _ _ l0 t427 t428 _ ?side1 ?side2 A10.out).mono ?_); (case side1 => repeat (first | exact (Kd.C_below HR0.out HB.out) | (with_reducible refine Kd.C_alloc ?_ _) | (with_reducible refine Kd.C_drewN ?_ _) | (with_reducible refine Kd.C_drew ?_))); (case side2 => exact HC0.out); rintro e w16 ⟨v429, rfl, ho0, hb⟩; refine ⟨_, rfl, ?_⟩; have n0_ := Aside0.mk (Kd.R_lower ho0 (below_size (zb))); have n1_ := Aside0.mk (below_step (zb) hb); clear HB; have HO430 := n0_; have HB := n1_; clear n0_ n1_; (try clear hb); (try clear hb2); (try clear hk); (try clear hi); (try clear ho0)) | ((with_reducible refine gate_callee (f := 17) rfl ?_); refine goesL_ (some 32) rfl rfl Try.func17 (by kernel_rfl) rfl #[.slice A0 l0.length c0] rfl zargs ?_; (with_reducible refine (garderoberef08_Put.calls k1 _ _ l0 t431 t432 _ ?side1 ?side2 A11.out).mono ?_); (case side1 => repeat (first | exact (Kd.C_below HR0.out HB.out) | (with_reducible refine Kd.C_alloc ?_ _) | (with_reducible refine Kd.C_drewN ?_ _) | (with_reducible refine Kd.C_drew ?_))); (case side2 => exact HC0.out); rintro e w17 ⟨v433, rfl, ho0, hb⟩; refine ⟨_, rfl, ?_⟩; have n0_ := Aside0.mk (Kd.R_elder' (by (with_reducible repeat (first | apply Kd.R_alloc | apply Kd.R_drewN | apply Kd.R_drew)); exact HO430.out) (Kd.R_base ho0) hb); have n1_ := Aside0.mk (Kd.R_lower (Kd.R_new' ho0 (Kd.R_lt (by (with_reducible repeat (first | apply Kd.R_alloc | apply Kd.R_drewN | apply Kd.R_drew)); exact HO430.out))) (below_size (zb))); have n2_ := Aside0.mk (below_step (zb) hb); clear HO430; clear HB; have HO430 := n0_; have HO434 := n1_; have HB := n2_; clear n0_ n1_ n2_; (try clear hb); (try clear hb2); (try clear hk); (try clear hi); (try clear ho0); obtain ⟨Ao18, co18, eo18⟩ := Kd.R_slice HO430.out; subst eo18; obtain ⟨Ao19, co19, eo19⟩ := Kd.R_slice HO434.out; subst eo19) | ((with_reducible refine gate_callee (f := 18) rfl ?_); refine goesL_ (some 37) rfl rfl Try.func18 (by kernel_rfl) rfl #[.slice Ao18 t427.length co18, .slice Ao19 t431.length co19] rfl zargs ?_; (with_reducible refine (garderoberef00_Same.calls k1 _ _ t427 _ _ t431 true _ ?side1 ?side2 ?side3 ?side4 A12.out).mono ?_); (case side1 => repeat (first | exact (Kd.R_reads' HO430.out).2.2 | (with_reducible refine Kd.C_alloc ?_ _) | (with_reducible refine Kd.C_drewN ?_ _) | (with_reducible refine Kd.C_drew ?_))); (case side2 => exact (Kd.R_reads' HO430.out).2.1); (case side3 => repeat (first | exact (Kd.R_reads' HO434.out).2.2 | (with_reducible refine Kd.C_alloc ?_ _) | (with_reducible refine Kd.C_drewN ?_ _) | (with_reducible refine Kd.C_drew ?_))); (case side4 => exact (Kd.R_reads' HO434.out).2.1); rintro e w' ⟨rfl, ⟨nd, rfl⟩⟩; refine ⟨_, rfl, ?_⟩) | (go_at_call 8; (with_reducible refine (garderobelaw08_works.calls k1  t436 _ A15.out).mono ?_); rintro e w20 ⟨rfl, hb⟩; have n0_ := Aside0.mk (Kd.R_below (by (with_reducible repeat (first | apply Kd.R_alloc | apply Kd.R_drewN | apply Kd.R_drew)); exact HO430.out) hb); have n1_ := Aside0.mk (Kd.R_below (by (with_reducible repeat (first | apply Kd.R_alloc | apply Kd.R_drewN | apply Kd.R_drew)); exact HO434.out) hb); have n2_ := Aside0.mk (below_step (zb) hb); clear HO430; clear HO434; clear HB; have HO430 := n0_; have HO434 := n1_; have HB := n2_; clear n0_ n1_ n2_; (try clear hb); (try clear hb2); (try clear hk); (try clear hi)))
            go_ret
            exact ⟨by first | rfl | (simp [errW_none, errW_some] <;> rfl) | (simp [*, errW_none, errW_some] <;> rfl), zb⟩
          · rw [if_neg c14] at H
            exact absurd H (by simp)
        · replace c13 := Bool.eq_false_iff.mpr c13
          subst c13
          have H1 : (none) = some r := by rw [if_neg (show ¬ (false = true) by decide)] at H; exact H
          clear H
          have H := H1
          clear H1
          exact absurd H (by simp)

end Go.Proofs.Ytjbpdmkalegacaa.PClassPuts
