-- laid by fake.py, a program of this session's, over the kit's print
import Derived.Test.YtjbpdmkalegacaaPClassBackx0
import Derived.Test.YtjbpdmkalegacaaPClassBackx6
import Derived.Test.YtjbpdmkalegacaaPClassBackx8
namespace Go.Proofs.Ytjbpdmkalegacaa.PClassBack
open Go.RowKit Go.Proofs.YtjbpdmkalegacaaW.PrintWords Go.Proofs.YtjbpdmkalegacaaW.PrintLast Go.Proofs.YtjbpdmkalegacaaW.PrintMore Go.Proofs.YtjbpdmkalegacaaW.Mine
attribute [local go_sem] Go.Proofs.YtjbpdmkalegacaaW.Mine.isSome_set max2_int min2_int max_two min_two max_three min_three max_four min_four   -- for this text's walks alone
set_option linter.unusedVariables false
set_option linter.unusedSimpArgs false

/-! ### garderoberef08_Same: function 14 -/
def garderoberef08_Same.l0 : Nat → List (S38) → List (S38) → Int → Option (Bool)
  | 0, _, _, _ => none
  | k + 1, x0, x1, x5 => if x5 < (x0.length : Int) then (if 0 ≤ x5 then ((garderoberef08_May.f k ((rd_T38 x0 x5).f0) ((rd_T38 x0 x5).f1) ((rd_T38 x0 x5).f2) ((rd_T38 x0 x5).f3) ((rd_T38 x0 x5).f4) ((rd_T38 x0 x5).f5)).bind fun t410 => (if t410 = true then (if x5 < (x1.length : Int) then ((garderoberef08_May.f k ((rd_T38 x1 x5).f0) ((rd_T38 x1 x5).f1) ((rd_T38 x1 x5).f2) ((rd_T38 x1 x5).f3) ((rd_T38 x1 x5).f4) ((rd_T38 x1 x5).f5)).bind fun t412 => (if t412 = true then ((garderoberef08_bytes.f k ((rd_T38 x0 x5).f0) ((rd_T38 x0 x5).f1) ((rd_T38 x0 x5).f2) ((rd_T38 x0 x5).f3) ((rd_T38 x0 x5).f4) ((rd_T38 x0 x5).f5)).bind fun t414 => ((garderoberef08_bytes.f k ((rd_T38 x1 x5).f0) ((rd_T38 x1 x5).f1) ((rd_T38 x1 x5).f2) ((rd_T38 x1 x5).f3) ((rd_T38 x1 x5).f4) ((rd_T38 x1 x5).f5)).bind fun t418 => (if (strOfNums t414).toList = (strOfNums t418).toList then (garderoberef08_Same.l0 k x0 x1 (wrap64 (x5 + 1))) else (none)))) else (none))) else (none)) else (none))) else (none)) else (some true)
def garderoberef08_Same.f (k : Nat) (l0 : List (S38)) (l1 : List (S38)) : Option (Bool) := if (l0.length : Int) = (l1.length : Int) then (garderoberef08_Same.l0 k l0 l1 0) else (none)
theorem garderoberef08_Same.mono_l : ∀ k, (∀ y0 y1 y2, LeO (garderoberef08_Same.l0 k y0 y1 y2) (garderoberef08_Same.l0 (k + 1) y0 y1 y2))
  | 0 => fun _ _ _ r h => by simp [garderoberef08_Same.l0] at h
  | k + 1 => by
    have ih0 := garderoberef08_Same.mono_l k
    · intro y0 y1 y2
      unfold garderoberef08_Same.l0
      repeat' first
      | (with_reducible exact ih0 _ _ _)
      | (with_reducible exact garderoberef08_May.mono _ _ _ _ _ _ _)
      | (with_reducible exact garderoberef08_bytes.mono _ _ _ _ _ _ _)
      | (with_reducible exact LeO.refl _)
      | (with_reducible exact LeO.none _)
      | (with_reducible refine LeO.ite ?_ ?_)
      | (with_reducible refine LeO.bind ?_ (fun _ => ?_))
      | exact ih0 _ _ _
      | exact garderoberef08_May.mono _ _ _ _ _ _ _
      | exact garderoberef08_bytes.mono _ _ _ _ _ _ _
      | exact LeO.none _
      | refine LeO.ite ?_ ?_
      | refine LeO.bind ?_ (fun _ => ?_)
theorem garderoberef08_Same.mono : ∀ a0 a1 k, LeO (garderoberef08_Same.f k a0 a1) (garderoberef08_Same.f (k + 1) a0 a1) := by
  intro a0 a1 k
  have ih0 := garderoberef08_Same.mono_l k
  unfold garderoberef08_Same.f
  repeat' first
      | (with_reducible exact ih0 _ _ _)
      | (with_reducible exact garderoberef08_May.mono _ _ _ _ _ _ _)
      | (with_reducible exact garderoberef08_bytes.mono _ _ _ _ _ _ _)
      | (with_reducible exact LeO.refl _)
      | (with_reducible exact LeO.none _)
      | (with_reducible refine LeO.ite ?_ ?_)
      | (with_reducible refine LeO.bind ?_ (fun _ => ?_))
      | exact ih0 _ _ _
      | exact garderoberef08_May.mono _ _ _ _ _ _ _
      | exact garderoberef08_bytes.mono _ _ _ _ _ _ _
      | exact LeO.none _
      | refine LeO.ite ?_ ?_
      | refine LeO.bind ?_ (fun _ => ?_)
def garderoberef08_Same.T6 : Bool × List (List Nat × List Nat) := (true, [([], []), ([], []), ([0, 1], [0, 1]), ([2], [2]), ([3], [3]), ([4], [4]), ([5, 4], [5]), ([6], [6]), ([6], [6]), ([7, 8, 6], [6, 7, 8]), ([9, 6], [6, 9]), ([10, 6, 6], [6, 10]), ([11, 6], [6, 11]), ([6, 12], [6, 12]), ([13, 11], [13]), ([14], [14]), ([14], [14]), ([15, 16, 14], [14, 15, 16]), ([17, 14], [14, 17]), ([18, 14, 14], [14, 18]), ([19, 14], [14, 19]), ([14], [14]), ([14], [14]), ([21, 22, 14], [14, 21, 22]), ([23, 14], [14, 23]), ([24, 19, 14], [14, 24]), ([25, 14], [14, 25]), ([20, 26, 14], [14, 20, 26]), ([14, 27], [14, 27])])
def garderoberef08_Same.B6 : List Nat := [0, 0, 3, 7, 15, 31, 63, 127, 127, 511, 1023, 2047, 4095, 8191, 16383, 32767, 32767, 131071, 262143, 524287, 1048575, 32767, 32767, 6324223, 14712831, 32505855, 66060287, 134217727, 268435455]
theorem garderoberef08_Same.tab6 : rtab .any (opsOf Try.f14 6) = garderoberef08_Same.T6 := by kernel_rfl
theorem garderoberef08_Same.bits6 : waitsOk garderoberef08_Same.T6.2 garderoberef08_Same.B6 = true := by kernel_rfl
set_option maxHeartbeats 8000000 in
set_option maxRecDepth 100000 in
theorem garderoberef08_Same.calls (k : Nat) (A0 : Option Addr) (c0 : Nat) (l0 : List (S38)) (A1 : Option Addr) (c1 : Nat) (l1 : List (S38)) (r : Bool) (w : World) (hr0 : Kd.C k38 w A0 l0.length l0) (hc0 : l0.length ≤ c0) (hr1 : Kd.C k38 w A1 l1.length l1) (hc1 : l1.length ≤ c1) (h : garderoberef08_Same.f k l0 l1 = some r) :
    Calls Try.prog 14 #[.slice A0 l0.length c0, .slice A1 l1.length c1] w fun e w' => e = .returned (.bool r) ∧ Below w.heap.size w w' := by
  have hu38 := Try.underlying38
  have HR0 := Aside0.mk hr0
  have HC0 := Aside0.mk hc0
  clear hr0 hc0
  have HR1 := Aside0.mk hr1
  have HC1 := Aside0.mk hc1
  clear hr1 hc1
  have HB := Aside0.mk (Below.refl w.heap.size w)
  have H : (if (l0.length : Int) = (l1.length : Int) then (garderoberef08_Same.l0 k l0 l1 0) else (none)) = some r := h
  clear h
  by_cases c3 : (l0.length : Int) = (l1.length : Int)
  · rw [if_pos c3] at H
    have c3b0 : ((l0.length : Int) == (l1.length : Int)) = true := beq_iff_eq.mpr c3
    have c3b1 : ((l0.length : Int) != (l1.length : Int)) = false := bne_eq_false_iff_eq.mpr c3
    have c3b2 : (l0.length == l1.length) = true := by first | simpa using c3 | (simp at c3 ⊢; omega)
    clear c3
    have H' := Aside0.mk H
    clear H
    go_enter Try.func14, Try.ntmps14
    go_wp2
    go_loopg [5] k (fun kq v5 w' => ∃ (x5_1 : Int), v5 = .int .i64 x5_1 ∧ Aside0 (garderoberef08_Same.l0 kq l0 l1 x5_1 = some r) ∧ Aside0 (kq ≤ k) ∧ Aside0 (Below w.heap.size w w'))
    case atStart => exact ⟨(0), (by first | rfl | (simp; done) | (simp [*]; done)), H', ⟨Nat.le_refl _⟩, ⟨zb⟩⟩
    case round =>
      clear H'
      try clear c1
      try clear p2
      try clear c3
      try clear c3b0
      try clear c3b1
      try clear c3b2
      obtain ⟨x5_1, rfl, HA, HK1, HB⟩ := hrel
      cases gk with
      | zero => exact absurd HA.out (by simp [garderoberef08_Same.l0])
      | succ k1 =>
        have H := HA.out
        clear HA
        simp only [garderoberef08_Same.l0] at H
        by_cases c4 : x5_1 < (l0.length : Int)
        · rw [if_pos c4] at H
          have c4b0 : decide (x5_1 < (l0.length : Int)) = true := decide_eq_true c4
          clear c4
          by_cases c5 : 0 ≤ x5_1
          · rw [if_pos c5] at H
            have c5b0 : decide (0 ≤ x5_1) = true := decide_eq_true c5
            clear c5
            replace H := Option.bind_eq_some_iff.mp H
            obtain ⟨t410, A60, H⟩ := H
            replace H : (if t410 = true then (if x5_1 < (l1.length : Int) then ((garderoberef08_May.f k1 ((rd_T38 l1 x5_1).f0) ((rd_T38 l1 x5_1).f1) ((rd_T38 l1 x5_1).f2) ((rd_T38 l1 x5_1).f3) ((rd_T38 l1 x5_1).f4) ((rd_T38 l1 x5_1).f5)).bind fun t412 => (if t412 = true then ((garderoberef08_bytes.f k1 ((rd_T38 l0 x5_1).f0) ((rd_T38 l0 x5_1).f1) ((rd_T38 l0 x5_1).f2) ((rd_T38 l0 x5_1).f3) ((rd_T38 l0 x5_1).f4) ((rd_T38 l0 x5_1).f5)).bind fun t414 => ((garderoberef08_bytes.f k1 ((rd_T38 l1 x5_1).f0) ((rd_T38 l1 x5_1).f1) ((rd_T38 l1 x5_1).f2) ((rd_T38 l1 x5_1).f3) ((rd_T38 l1 x5_1).f4) ((rd_T38 l1 x5_1).f5)).bind fun t418 => (if (strOfNums t414).toList = (strOfNums t418).toList then (garderoberef08_Same.l0 k1 l0 l1 (wrap64 (x5_1 + 1))) else (none)))) else (none))) else (none)) else (none)) = some r := H
            have A6 := Aside0.mk A60
            clear A60
            by_cases c7 : t410 = true
            · subst c7
              have H1 : (if x5_1 < (l1.length : Int) then ((garderoberef08_May.f k1 ((rd_T38 l1 x5_1).f0) ((rd_T38 l1 x5_1).f1) ((rd_T38 l1 x5_1).f2) ((rd_T38 l1 x5_1).f3) ((rd_T38 l1 x5_1).f4) ((rd_T38 l1 x5_1).f5)).bind fun t412 => (if t412 = true then ((garderoberef08_bytes.f k1 ((rd_T38 l0 x5_1).f0) ((rd_T38 l0 x5_1).f1) ((rd_T38 l0 x5_1).f2) ((rd_T38 l0 x5_1).f3) ((rd_T38 l0 x5_1).f4) ((rd_T38 l0 x5_1).f5)).bind fun t414 => ((garderoberef08_bytes.f k1 ((rd_T38 l1 x5_1).f0) ((rd_T38 l1 x5_1).f1) ((rd_T38 l1 x5_1).f2) ((rd_T38 l1 x5_1).f3) ((rd_T38 l1 x5_1).f4) ((rd_T38 l1 x5_1).f5)).bind fun t418 => (if (strOfNums t414).toList = (strOfNums t418).toList then (garderoberef08_Same.l0 k1 l0 l1 (wrap64 (x5_1 + 1))) else (none)))) else (none))) else (none)) = some r := by rw [if_pos rfl] at H; exact H
              clear H
              have H := H1
              clear H1
              by_cases c8 : x5_1 < (l1.length : Int)
              · rw [if_pos c8] at H
                have c8b0 : decide (x5_1 < (l1.length : Int)) = true := decide_eq_true c8
                clear c8
                replace H := Option.bind_eq_some_iff.mp H
                obtain ⟨t412, A90, H⟩ := H
                replace H : (if t412 = true then ((garderoberef08_bytes.f k1 ((rd_T38 l0 x5_1).f0) ((rd_T38 l0 x5_1).f1) ((rd_T38 l0 x5_1).f2) ((rd_T38 l0 x5_1).f3) ((rd_T38 l0 x5_1).f4) ((rd_T38 l0 x5_1).f5)).bind fun t414 => ((garderoberef08_bytes.f k1 ((rd_T38 l1 x5_1).f0) ((rd_T38 l1 x5_1).f1) ((rd_T38 l1 x5_1).f2) ((rd_T38 l1 x5_1).f3) ((rd_T38 l1 x5_1).f4) ((rd_T38 l1 x5_1).f5)).bind fun t418 => (if (strOfNums t414).toList = (strOfNums t418).toList then (garderoberef08_Same.l0 k1 l0 l1 (wrap64 (x5_1 + 1))) else (none)))) else (none)) = some r := H
                have A9 := Aside0.mk A90
                clear A90
                by_cases c10 : t412 = true
                · subst c10
                  have H1 : ((garderoberef08_bytes.f k1 ((rd_T38 l0 x5_1).f0) ((rd_T38 l0 x5_1).f1) ((rd_T38 l0 x5_1).f2) ((rd_T38 l0 x5_1).f3) ((rd_T38 l0 x5_1).f4) ((rd_T38 l0 x5_1).f5)).bind fun t414 => ((garderoberef08_bytes.f k1 ((rd_T38 l1 x5_1).f0) ((rd_T38 l1 x5_1).f1) ((rd_T38 l1 x5_1).f2) ((rd_T38 l1 x5_1).f3) ((rd_T38 l1 x5_1).f4) ((rd_T38 l1 x5_1).f5)).bind fun t418 => (if (strOfNums t414).toList = (strOfNums t418).toList then (garderoberef08_Same.l0 k1 l0 l1 (wrap64 (x5_1 + 1))) else (none)))) = some r := by rw [if_pos rfl] at H; exact H
                  clear H
                  have H := H1
                  clear H1
                  replace H := Option.bind_eq_some_iff.mp H
                  obtain ⟨t414, A110, H⟩ := H
                  replace H : ((garderoberef08_bytes.f k1 ((rd_T38 l1 x5_1).f0) ((rd_T38 l1 x5_1).f1) ((rd_T38 l1 x5_1).f2) ((rd_T38 l1 x5_1).f3) ((rd_T38 l1 x5_1).f4) ((rd_T38 l1 x5_1).f5)).bind fun t418 => (if (strOfNums t414).toList = (strOfNums t418).toList then (garderoberef08_Same.l0 k1 l0 l1 (wrap64 (x5_1 + 1))) else (none))) = some r := H
                  have A11 := Aside0.mk A110
                  clear A110
                  replace H := Option.bind_eq_some_iff.mp H
                  obtain ⟨t418, A120, H⟩ := H
                  replace H : (if (strOfNums t414).toList = (strOfNums t418).toList then (garderoberef08_Same.l0 k1 l0 l1 (wrap64 (x5_1 + 1))) else (none)) = some r := H
                  have A12 := Aside0.mk A120
                  clear A120
                  by_cases c13 : (strOfNums t414).toList = (strOfNums t418).toList
                  · rw [if_pos c13] at H
                    have c13b0 : ((strOfNums t414).toList == (strOfNums t418).toList) = true := beq_iff_eq.mpr c13
                    have c13b1 : ((strOfNums t414).toList != (strOfNums t418).toList) = false := bne_eq_false_iff_eq.mpr c13
                    clear c13
                    have H' := Aside0.mk H
                    clear H
                    try go_wp2
                    have n0_ := Aside0.mk (below_drew1 HB.out)
                    clear HB
                    have HB := n0_
                    clear n0_
                    have p409 : 0 ≤ (x5_1 : Int) := of_decide_eq_true (by first | (with_reducible assumption) | assumption)
                    have q409 : x5_1 < (l0.length : Int) := of_decide_eq_true (by first | (with_reducible assumption) | assumption)
                    obtain ⟨ad409, A409_2, c409_2, A409_3, c409_3, A409_4, c409_4, A409_5, c409_5, e409, hx409_0, hx409_1, hx409_2, hx409_3, hx409_4, hx409_5, hl409_2, hi409_2, hl409_3, hi409_3, hl409_4, hi409_4, hl409_5, hi409_5⟩ := at_T38 HR0.out x5_1 p409 q409
                    have hw409_5 := hx409_5
                    have hw409_4 := hx409_4
                    have hw409_3 := hx409_3
                    have hw409_2 := hx409_2
                    have hw409_1 := hx409_1
                    have hw409_0 := hx409_0
                    cases e409
                    replace hx409_0 := (HB.out.cell (World.block_lt_of_cell? w _ hx409_0)).trans hx409_0
                    replace hx409_1 := (HB.out.cell (World.block_lt_of_cell? w _ hx409_1)).trans hx409_1
                    replace hx409_2 := (HB.out.cell (World.block_lt_of_cell? w _ hx409_2)).trans hx409_2
                    replace hx409_3 := (HB.out.cell (World.block_lt_of_cell? w _ hx409_3)).trans hx409_3
                    replace hx409_4 := (HB.out.cell (World.block_lt_of_cell? w _ hx409_4)).trans hx409_4
                    replace hx409_5 := (HB.out.cell (World.block_lt_of_cell? w _ hx409_5)).trans hx409_5
                    have HR409_2 := Aside0.mk hi409_2
                    have HC409_2 := Aside0.mk hl409_2
                    clear hi409_2 hl409_2
                    have HR409_3 := Aside0.mk hi409_3
                    have HC409_3 := Aside0.mk hl409_3
                    clear hi409_3 hl409_3
                    have HR409_4 := Aside0.mk hi409_4
                    have HC409_4 := Aside0.mk hl409_4
                    clear hi409_4 hl409_4
                    have HR409_5 := Aside0.mk hi409_5
                    have HC409_5 := Aside0.mk hl409_5
                    clear hi409_5 hl409_5
                    replace p409 := eq_true p409
                    replace q409 := eq_true q409
                    have p411 : 0 ≤ (x5_1 : Int) := of_decide_eq_true (by first | (with_reducible assumption) | assumption)
                    have q411 : x5_1 < (l1.length : Int) := of_decide_eq_true (by first | (with_reducible assumption) | assumption)
                    obtain ⟨ad411, A411_2, c411_2, A411_3, c411_3, A411_4, c411_4, A411_5, c411_5, e411, hx411_0, hx411_1, hx411_2, hx411_3, hx411_4, hx411_5, hl411_2, hi411_2, hl411_3, hi411_3, hl411_4, hi411_4, hl411_5, hi411_5⟩ := at_T38 HR1.out x5_1 p411 q411
                    have hw411_5 := hx411_5
                    have hw411_4 := hx411_4
                    have hw411_3 := hx411_3
                    have hw411_2 := hx411_2
                    have hw411_1 := hx411_1
                    have hw411_0 := hx411_0
                    cases e411
                    replace hx411_0 := (HB.out.cell (World.block_lt_of_cell? w _ hx411_0)).trans hx411_0
                    replace hx411_1 := (HB.out.cell (World.block_lt_of_cell? w _ hx411_1)).trans hx411_1
                    replace hx411_2 := (HB.out.cell (World.block_lt_of_cell? w _ hx411_2)).trans hx411_2
                    replace hx411_3 := (HB.out.cell (World.block_lt_of_cell? w _ hx411_3)).trans hx411_3
                    replace hx411_4 := (HB.out.cell (World.block_lt_of_cell? w _ hx411_4)).trans hx411_4
                    replace hx411_5 := (HB.out.cell (World.block_lt_of_cell? w _ hx411_5)).trans hx411_5
                    have HR411_2 := Aside0.mk hi411_2
                    have HC411_2 := Aside0.mk hl411_2
                    clear hi411_2 hl411_2
                    have HR411_3 := Aside0.mk hi411_3
                    have HC411_3 := Aside0.mk hl411_3
                    clear hi411_3 hl411_3
                    have HR411_4 := Aside0.mk hi411_4
                    have HC411_4 := Aside0.mk hl411_4
                    clear hi411_4 hl411_4
                    have HR411_5 := Aside0.mk hi411_5
                    have HC411_5 := Aside0.mk hl411_5
                    clear hi411_5 hl411_5
                    replace p411 := eq_true p411
                    replace q411 := eq_true q411
                    have p413 : 0 ≤ (x5_1 : Int) := of_decide_eq_true (by first | (with_reducible assumption) | assumption)
                    have q413 : x5_1 < (l0.length : Int) := of_decide_eq_true (by first | (with_reducible assumption) | assumption)
                    obtain ⟨ad413, A413_2, c413_2, A413_3, c413_3, A413_4, c413_4, A413_5, c413_5, e413, hx413_0, hx413_1, hx413_2, hx413_3, hx413_4, hx413_5, hl413_2, hi413_2, hl413_3, hi413_3, hl413_4, hi413_4, hl413_5, hi413_5⟩ := at_T38 HR0.out x5_1 p413 q413
                    have hw413_5 := hx413_5
                    have hw413_4 := hx413_4
                    have hw413_3 := hx413_3
                    have hw413_2 := hx413_2
                    have hw413_1 := hx413_1
                    have hw413_0 := hx413_0
                    obtain rfl : ad409 = ad413 := (by injection e413)
                    obtain ⟨rfl, rfl⟩ : A409_2 = A413_2 ∧ c409_2 = c413_2 := by
                      have h_ := hw409_2.symm.trans hw413_2
                      simp only [Option.some.injEq, Value.slice.injEq] at h_
                      exact ⟨h_.1, h_.2.2⟩
                    obtain ⟨rfl, rfl⟩ : A409_3 = A413_3 ∧ c409_3 = c413_3 := by
                      have h_ := hw409_3.symm.trans hw413_3
                      simp only [Option.some.injEq, Value.slice.injEq] at h_
                      exact ⟨h_.1, h_.2.2⟩
                    obtain ⟨rfl, rfl⟩ : A409_4 = A413_4 ∧ c409_4 = c413_4 := by
                      have h_ := hw409_4.symm.trans hw413_4
                      simp only [Option.some.injEq, Value.slice.injEq] at h_
                      exact ⟨h_.1, h_.2.2⟩
                    obtain ⟨rfl, rfl⟩ : A409_5 = A413_5 ∧ c409_5 = c413_5 := by
                      have h_ := hw409_5.symm.trans hw413_5
                      simp only [Option.some.injEq, Value.slice.injEq] at h_
                      exact ⟨h_.1, h_.2.2⟩
                    replace hx413_0 := (HB.out.cell (World.block_lt_of_cell? w _ hx413_0)).trans hx413_0
                    replace hx413_1 := (HB.out.cell (World.block_lt_of_cell? w _ hx413_1)).trans hx413_1
                    replace hx413_2 := (HB.out.cell (World.block_lt_of_cell? w _ hx413_2)).trans hx413_2
                    replace hx413_3 := (HB.out.cell (World.block_lt_of_cell? w _ hx413_3)).trans hx413_3
                    replace hx413_4 := (HB.out.cell (World.block_lt_of_cell? w _ hx413_4)).trans hx413_4
                    replace hx413_5 := (HB.out.cell (World.block_lt_of_cell? w _ hx413_5)).trans hx413_5
                    have HR413_2 := Aside0.mk hi413_2
                    have HC413_2 := Aside0.mk hl413_2
                    clear hi413_2 hl413_2
                    have HR413_3 := Aside0.mk hi413_3
                    have HC413_3 := Aside0.mk hl413_3
                    clear hi413_3 hl413_3
                    have HR413_4 := Aside0.mk hi413_4
                    have HC413_4 := Aside0.mk hl413_4
                    clear hi413_4 hl413_4
                    have HR413_5 := Aside0.mk hi413_5
                    have HC413_5 := Aside0.mk hl413_5
                    clear hi413_5 hl413_5
                    replace p413 := eq_true p413
                    replace q413 := eq_true q413
                    have p417 : 0 ≤ (x5_1 : Int) := of_decide_eq_true (by first | (with_reducible assumption) | assumption)
                    have q417 : x5_1 < (l1.length : Int) := of_decide_eq_true (by first | (with_reducible assumption) | assumption)
                    obtain ⟨ad417, A417_2, c417_2, A417_3, c417_3, A417_4, c417_4, A417_5, c417_5, e417, hx417_0, hx417_1, hx417_2, hx417_3, hx417_4, hx417_5, hl417_2, hi417_2, hl417_3, hi417_3, hl417_4, hi417_4, hl417_5, hi417_5⟩ := at_T38 HR1.out x5_1 p417 q417
                    have hw417_5 := hx417_5
                    have hw417_4 := hx417_4
                    have hw417_3 := hx417_3
                    have hw417_2 := hx417_2
                    have hw417_1 := hx417_1
                    have hw417_0 := hx417_0
                    obtain rfl : ad411 = ad417 := (by injection e417)
                    obtain ⟨rfl, rfl⟩ : A411_2 = A417_2 ∧ c411_2 = c417_2 := by
                      have h_ := hw411_2.symm.trans hw417_2
                      simp only [Option.some.injEq, Value.slice.injEq] at h_
                      exact ⟨h_.1, h_.2.2⟩
                    obtain ⟨rfl, rfl⟩ : A411_3 = A417_3 ∧ c411_3 = c417_3 := by
                      have h_ := hw411_3.symm.trans hw417_3
                      simp only [Option.some.injEq, Value.slice.injEq] at h_
                      exact ⟨h_.1, h_.2.2⟩
                    obtain ⟨rfl, rfl⟩ : A411_4 = A417_4 ∧ c411_4 = c417_4 := by
                      have h_ := hw411_4.symm.trans hw417_4
                      simp only [Option.some.injEq, Value.slice.injEq] at h_
                      exact ⟨h_.1, h_.2.2⟩
                    obtain ⟨rfl, rfl⟩ : A411_5 = A417_5 ∧ c411_5 = c417_5 := by
                      have h_ := hw411_5.symm.trans hw417_5
                      simp only [Option.some.injEq, Value.slice.injEq] at h_
                      exact ⟨h_.1, h_.2.2⟩
                    replace hx417_0 := (HB.out.cell (World.block_lt_of_cell? w _ hx417_0)).trans hx417_0
                    replace hx417_1 := (HB.out.cell (World.block_lt_of_cell? w _ hx417_1)).trans hx417_1
                    replace hx417_2 := (HB.out.cell (World.block_lt_of_cell? w _ hx417_2)).trans hx417_2
                    replace hx417_3 := (HB.out.cell (World.block_lt_of_cell? w _ hx417_3)).trans hx417_3
                    replace hx417_4 := (HB.out.cell (World.block_lt_of_cell? w _ hx417_4)).trans hx417_4
                    replace hx417_5 := (HB.out.cell (World.block_lt_of_cell? w _ hx417_5)).trans hx417_5
                    have HR417_2 := Aside0.mk hi417_2
                    have HC417_2 := Aside0.mk hl417_2
                    clear hi417_2 hl417_2
                    have HR417_3 := Aside0.mk hi417_3
                    have HC417_3 := Aside0.mk hl417_3
                    clear hi417_3 hl417_3
                    have HR417_4 := Aside0.mk hi417_4
                    have HC417_4 := Aside0.mk hl417_4
                    clear hi417_4 hl417_4
                    have HR417_5 := Aside0.mk hi417_5
                    have HC417_5 := Aside0.mk hl417_5
                    clear hi417_5 hl417_5
                    replace p417 := eq_true p417
                    replace q417 := eq_true q417
                    refine start_ (n := 29) (S := fun w' => w'.cell? (ad409.add ((x5_1).toNat * 6)) = some (.int .u8 ((rd_T38 l0 x5_1).f0)) ∧ w'.cell? ⟨(ad409.add ((x5_1).toNat * 6)).block, (ad409.add ((x5_1).toNat * 6)).off + 1, none⟩ = some (.int .u16 ((rd_T38 l0 x5_1).f1)) ∧ w'.cell? ⟨(ad409.add ((x5_1).toNat * 6)).block, (ad409.add ((x5_1).toNat * 6)).off + 2, none⟩ = some (.slice A409_2 ((rd_T38 l0 x5_1).f2).length c409_2) ∧ w'.cell? ⟨(ad409.add ((x5_1).toNat * 6)).block, (ad409.add ((x5_1).toNat * 6)).off + 3, none⟩ = some (.slice A409_3 ((rd_T38 l0 x5_1).f3).length c409_3) ∧ w'.cell? ⟨(ad409.add ((x5_1).toNat * 6)).block, (ad409.add ((x5_1).toNat * 6)).off + 4, none⟩ = some (.slice A409_4 ((rd_T38 l0 x5_1).f4).length c409_4) ∧ w'.cell? ⟨(ad409.add ((x5_1).toNat * 6)).block, (ad409.add ((x5_1).toNat * 6)).off + 5, none⟩ = some (.slice A409_5 ((rd_T38 l0 x5_1).f5).length c409_5) ∧ w'.cell? (ad411.add ((x5_1).toNat * 6)) = some (.int .u8 ((rd_T38 l1 x5_1).f0)) ∧ w'.cell? ⟨(ad411.add ((x5_1).toNat * 6)).block, (ad411.add ((x5_1).toNat * 6)).off + 1, none⟩ = some (.int .u16 ((rd_T38 l1 x5_1).f1)) ∧ w'.cell? ⟨(ad411.add ((x5_1).toNat * 6)).block, (ad411.add ((x5_1).toNat * 6)).off + 2, none⟩ = some (.slice A411_2 ((rd_T38 l1 x5_1).f2).length c411_2) ∧ w'.cell? ⟨(ad411.add ((x5_1).toNat * 6)).block, (ad411.add ((x5_1).toNat * 6)).off + 3, none⟩ = some (.slice A411_3 ((rd_T38 l1 x5_1).f3).length c411_3) ∧ w'.cell? ⟨(ad411.add ((x5_1).toNat * 6)).block, (ad411.add ((x5_1).toNat * 6)).off + 4, none⟩ = some (.slice A411_4 ((rd_T38 l1 x5_1).f4).length c411_4) ∧ w'.cell? ⟨(ad411.add ((x5_1).toNat * 6)).block, (ad411.add ((x5_1).toNat * 6)).off + 5, none⟩ = some (.slice A411_5 ((rd_T38 l1 x5_1).f5).length c411_5) ∧ w'.cell? (ad409.add ((x5_1).toNat * 6)) = some (.int .u8 ((rd_T38 l0 x5_1).f0)) ∧ w'.cell? ⟨(ad409.add ((x5_1).toNat * 6)).block, (ad409.add ((x5_1).toNat * 6)).off + 1, none⟩ = some (.int .u16 ((rd_T38 l0 x5_1).f1)) ∧ w'.cell? ⟨(ad409.add ((x5_1).toNat * 6)).block, (ad409.add ((x5_1).toNat * 6)).off + 2, none⟩ = some (.slice A409_2 ((rd_T38 l0 x5_1).f2).length c409_2) ∧ w'.cell? ⟨(ad409.add ((x5_1).toNat * 6)).block, (ad409.add ((x5_1).toNat * 6)).off + 3, none⟩ = some (.slice A409_3 ((rd_T38 l0 x5_1).f3).length c409_3) ∧ w'.cell? ⟨(ad409.add ((x5_1).toNat * 6)).block, (ad409.add ((x5_1).toNat * 6)).off + 4, none⟩ = some (.slice A409_4 ((rd_T38 l0 x5_1).f4).length c409_4) ∧ w'.cell? ⟨(ad409.add ((x5_1).toNat * 6)).block, (ad409.add ((x5_1).toNat * 6)).off + 5, none⟩ = some (.slice A409_5 ((rd_T38 l0 x5_1).f5).length c409_5) ∧ w'.cell? (ad411.add ((x5_1).toNat * 6)) = some (.int .u8 ((rd_T38 l1 x5_1).f0)) ∧ w'.cell? ⟨(ad411.add ((x5_1).toNat * 6)).block, (ad411.add ((x5_1).toNat * 6)).off + 1, none⟩ = some (.int .u16 ((rd_T38 l1 x5_1).f1)) ∧ w'.cell? ⟨(ad411.add ((x5_1).toNat * 6)).block, (ad411.add ((x5_1).toNat * 6)).off + 2, none⟩ = some (.slice A411_2 ((rd_T38 l1 x5_1).f2).length c411_2) ∧ w'.cell? ⟨(ad411.add ((x5_1).toNat * 6)).block, (ad411.add ((x5_1).toNat * 6)).off + 3, none⟩ = some (.slice A411_3 ((rd_T38 l1 x5_1).f3).length c411_3) ∧ w'.cell? ⟨(ad411.add ((x5_1).toNat * 6)).block, (ad411.add ((x5_1).toNat * 6)).off + 4, none⟩ = some (.slice A411_4 ((rd_T38 l1 x5_1).f4).length c411_4) ∧ w'.cell? ⟨(ad411.add ((x5_1).toNat * 6)).block, (ad411.add ((x5_1).toNat * 6)).off + 5, none⟩ = some (.slice A411_5 ((rd_T38 l1 x5_1).f5).length c411_5)) (ds := []) #[false, false, false, false, false, false, false, false, false, false, false, false, false, false, false, false, false, false, false, false, false, false, false, false, false, false, false, false, false] (by kernel_rfl) rfl rfl ⟨((HB.out.cell (World.block_lt_of_cell? w _ hw409_0)).trans hw409_0), ((HB.out.cell (World.block_lt_of_cell? w _ hw409_1)).trans hw409_1), ((HB.out.cell (World.block_lt_of_cell? w _ hw409_2)).trans hw409_2), ((HB.out.cell (World.block_lt_of_cell? w _ hw409_3)).trans hw409_3), ((HB.out.cell (World.block_lt_of_cell? w _ hw409_4)).trans hw409_4), ((HB.out.cell (World.block_lt_of_cell? w _ hw409_5)).trans hw409_5), ((HB.out.cell (World.block_lt_of_cell? w _ hw411_0)).trans hw411_0), ((HB.out.cell (World.block_lt_of_cell? w _ hw411_1)).trans hw411_1), ((HB.out.cell (World.block_lt_of_cell? w _ hw411_2)).trans hw411_2), ((HB.out.cell (World.block_lt_of_cell? w _ hw411_3)).trans hw411_3), ((HB.out.cell (World.block_lt_of_cell? w _ hw411_4)).trans hw411_4), ((HB.out.cell (World.block_lt_of_cell? w _ hw411_5)).trans hw411_5), ((HB.out.cell (World.block_lt_of_cell? w _ hw413_0)).trans hw413_0), ((HB.out.cell (World.block_lt_of_cell? w _ hw413_1)).trans hw413_1), ((HB.out.cell (World.block_lt_of_cell? w _ hw413_2)).trans hw413_2), ((HB.out.cell (World.block_lt_of_cell? w _ hw413_3)).trans hw413_3), ((HB.out.cell (World.block_lt_of_cell? w _ hw413_4)).trans hw413_4), ((HB.out.cell (World.block_lt_of_cell? w _ hw413_5)).trans hw413_5), ((HB.out.cell (World.block_lt_of_cell? w _ hw417_0)).trans hw417_0), ((HB.out.cell (World.block_lt_of_cell? w _ hw417_1)).trans hw417_1), ((HB.out.cell (World.block_lt_of_cell? w _ hw417_2)).trans hw417_2), ((HB.out.cell (World.block_lt_of_cell? w _ hw417_3)).trans hw417_3), ((HB.out.cell (World.block_lt_of_cell? w _ hw417_4)).trans hw417_4), ((HB.out.cell (World.block_lt_of_cell? w _ hw417_5)).trans hw417_5)⟩ (fun hHeld => ?_); refine with_tabW garderoberef08_Same.tab6 garderoberef08_Same.bits6 (fun HT_ HW_ => ?_)
                    generalize wr.drew = w14 at HB HR409_2 HR409_3 HR409_4 HR409_5 HR411_2 HR411_3 HR411_4 HR411_5 HR413_2 HR413_3 HR413_4 HR413_5 HR417_2 HR417_3 HR417_4 HR417_5 hx409_0 hx409_1 hx409_2 hx409_3 hx409_4 hx409_5 hx411_0 hx411_1 hx411_2 hx411_3 hx411_4 hx411_5 hx413_0 hx413_1 hx413_2 hx413_3 hx413_4 hx413_5 hx417_0 hx417_1 hx417_2 hx417_3 hx417_4 hx417_5 hHeld ⊢
                    refine pure_ (i := 0) (N := some 17) (v := ?_) (a' := ?_) #[true, false, false, false, false, false, false, false, false, false, false, false, false, false, false, false, false, false, false, false, false, false, false, false, false, false, false, false, false] rfl rfl (any_of HT_.out (by kernel_rfl)) (fun _ _ _ h => h) (Or.inl ⟨by rfl, ?_⟩) ?_ ?_
                    rotate_left
                    · intro w'
                      go_simp
                      with_reducible rfl
                    rotate_left
                    · simp only [Act.put, List.setIfInBounds_toArray, List.set_cons_zero, List.set_cons_succ, i64_w, i32_w]
                      rfl
                    refine pure_ (i := 1) (N := some 18) (v := ?_) (a' := ?_) #[true, true, false, false, false, false, false, false, false, false, false, false, false, false, false, false, false, false, false, false, false, false, false, false, false, false, false, false, false] rfl rfl (any_of HT_.out (by kernel_rfl)) (fun _ _ _ h => h) (Or.inl ⟨by rfl, ?_⟩) ?_ ?_
                    rotate_left
                    · intro w'
                      go_simp
                      with_reducible rfl
                    rotate_left
                    · simp only [Act.put, List.setIfInBounds_toArray, List.set_cons_zero, List.set_cons_succ, i64_w, i32_w]
                      rfl
                    refine pure_ (i := 2) (N := some 19) (v := ?_) (a' := ?_) #[true, true, true, false, false, false, false, false, false, false, false, false, false, false, false, false, false, false, false, false, false, false, false, false, false, false, false, false, false] rfl rfl (any_of HT_.out (by kernel_rfl)) (fun _ _ _ h => h) (Or.inl ⟨by rfl, ?_⟩) ?_ ?_
                    rotate_left
                    · intro w'
                      go_simp
                      with_reducible rfl
                    rotate_left
                    · simp only [Act.put, List.setIfInBounds_toArray, List.set_cons_zero, List.set_cons_succ, i64_w, i32_w]
                      rfl
                    refine take_ (i := 3) (N := some 20) (v := ?_) (a' := ?_) #[true, true, true, true, false, false, false, false, false, false, false, false, false, false, false, false, false, false, false, false, false, false, false, false, false, false, false, false, false] rfl rfl (take_ofW HT_.out HW_.out (by kernel_rfl)) (fun _ _ _ h => h) (Or.inl ⟨by rfl, ?_⟩) hHeld ?_ ?_
                    rotate_left
                    · rintro w' ⟨s0, s1, s2, s3, s4, s5, s6, s7, s8, s9, s10, s11, s12, s13, s14, s15, s16, s17, s18, s19, s20, s21, s22, s23⟩
                      go_simp
                      with_reducible rfl
                    rotate_left
                    · simp only [Act.put, List.setIfInBounds_toArray, List.set_cons_zero, List.set_cons_succ, i64_w, i32_w]
                      rfl
                    refine one_ (i := 4) (N := some 21) #[true, true, true, true, true, false, false, false, false, false, false, false, false, false, false, false, false, false, false, false, false, false, false, false, false, false, false, false, false] rfl rfl (one_of HT_.out (by kernel_rfl)) (by decide) (fun K hK => ?_)
                    refine goes_ Try.func16 (by kernel_rfl) rfl #[.agg #[.int .u8 ((rd_T38 l0 x5_1).f0), .int .u16 ((rd_T38 l0 x5_1).f1), .slice A409_2 ((rd_T38 l0 x5_1).f2).length c409_2, .slice A409_3 ((rd_T38 l0 x5_1).f3).length c409_3, .slice A409_4 ((rd_T38 l0 x5_1).f4).length c409_4, .slice A409_5 ((rd_T38 l0 x5_1).f5).length c409_5]] (by rfl) rfl rfl (by (try simp only [List.map_toArray, List.map_cons, List.map_nil]); first | done | rfl | (simp only [List.length_drop, List.length_take]; rfl)) ?_
                    with_reducible refine (garderoberef08_May.calls k1 ((rd_T38 l0 x5_1).f0) ((rd_T38 l0 x5_1).f1) _ _ ((rd_T38 l0 x5_1).f2) _ _ ((rd_T38 l0 x5_1).f3) _ _ ((rd_T38 l0 x5_1).f4) _ _ ((rd_T38 l0 x5_1).f5) true _ ?side1 ?side2 ?side3 ?side4 ?side5 ?side6 ?side7 ?side8 A6.out).mono ?_
                    (case side1 => repeat (first | exact (Kd.C_below HR409_2.out HB.out) | (with_reducible refine Kd.C_alloc ?_ _) | (with_reducible refine Kd.C_drewN ?_ _) | (with_reducible refine Kd.C_drew ?_)))
                    (case side2 => exact HC409_2.out)
                    (case side3 => repeat (first | exact (Kd.C_below HR409_3.out HB.out) | (with_reducible refine Kd.C_alloc ?_ _) | (with_reducible refine Kd.C_drewN ?_ _) | (with_reducible refine Kd.C_drew ?_)))
                    (case side4 => exact HC409_3.out)
                    (case side5 => repeat (first | exact (Kd.C_below HR409_4.out HB.out) | (with_reducible refine Kd.C_alloc ?_ _) | (with_reducible refine Kd.C_drewN ?_ _) | (with_reducible refine Kd.C_drew ?_)))
                    (case side6 => exact HC409_4.out)
                    (case side7 => repeat (first | exact (Kd.C_below HR409_5.out HB.out) | (with_reducible refine Kd.C_alloc ?_ _) | (with_reducible refine Kd.C_drewN ?_ _) | (with_reducible refine Kd.C_drew ?_)))
                    (case side8 => exact HC409_5.out)
                    rintro e w15 ⟨rfl, hb⟩
                    refine ⟨_, rfl, ?_⟩
                    have n0_ := Aside0.mk (below_step (zb) hb)
                    clear HB
                    have HB := n0_
                    clear n0_
                    (try clear hb)
                    (try clear hb2)
                    (try clear hk)
                    (try clear hi)
                    refine hK.out _ _ ⟨((HB.out.cell (World.block_lt_of_cell? w _ hw409_0)).trans hw409_0), ((HB.out.cell (World.block_lt_of_cell? w _ hw409_1)).trans hw409_1), ((HB.out.cell (World.block_lt_of_cell? w _ hw409_2)).trans hw409_2), ((HB.out.cell (World.block_lt_of_cell? w _ hw409_3)).trans hw409_3), ((HB.out.cell (World.block_lt_of_cell? w _ hw409_4)).trans hw409_4), ((HB.out.cell (World.block_lt_of_cell? w _ hw409_5)).trans hw409_5), ((HB.out.cell (World.block_lt_of_cell? w _ hw411_0)).trans hw411_0), ((HB.out.cell (World.block_lt_of_cell? w _ hw411_1)).trans hw411_1), ((HB.out.cell (World.block_lt_of_cell? w _ hw411_2)).trans hw411_2), ((HB.out.cell (World.block_lt_of_cell? w _ hw411_3)).trans hw411_3), ((HB.out.cell (World.block_lt_of_cell? w _ hw411_4)).trans hw411_4), ((HB.out.cell (World.block_lt_of_cell? w _ hw411_5)).trans hw411_5), ((HB.out.cell (World.block_lt_of_cell? w _ hw413_0)).trans hw413_0), ((HB.out.cell (World.block_lt_of_cell? w _ hw413_1)).trans hw413_1), ((HB.out.cell (World.block_lt_of_cell? w _ hw413_2)).trans hw413_2), ((HB.out.cell (World.block_lt_of_cell? w _ hw413_3)).trans hw413_3), ((HB.out.cell (World.block_lt_of_cell? w _ hw413_4)).trans hw413_4), ((HB.out.cell (World.block_lt_of_cell? w _ hw413_5)).trans hw413_5), ((HB.out.cell (World.block_lt_of_cell? w _ hw417_0)).trans hw417_0), ((HB.out.cell (World.block_lt_of_cell? w _ hw417_1)).trans hw417_1), ((HB.out.cell (World.block_lt_of_cell? w _ hw417_2)).trans hw417_2), ((HB.out.cell (World.block_lt_of_cell? w _ hw417_3)).trans hw417_3), ((HB.out.cell (World.block_lt_of_cell? w _ hw417_4)).trans hw417_4), ((HB.out.cell (World.block_lt_of_cell? w _ hw417_5)).trans hw417_5)⟩ (fun hHeld => ?_)
                    clear hK K
                    refine norm_ (a' := ?_) ?_ ?_
                    rotate_left
                    · show Act.put _ (some 21) _ = _
                      simp only [Act.put, List.setIfInBounds_toArray, List.set_cons_zero, List.set_cons_succ, i64_w, i32_w]
                      rfl
                    refine pure_ (i := 5) (N := some 22) (v := ?_) (a' := ?_) #[true, true, true, true, true, true, false, false, false, false, false, false, false, false, false, false, false, false, false, false, false, false, false, false, false, false, false, false, false] rfl rfl (any_of HT_.out (by kernel_rfl)) (fun _ _ _ h => h) (Or.inl ⟨by rfl, ?_⟩) ?_ ?_
                    rotate_left
                    · intro w'
                      go_simp
                      with_reducible rfl
                    rotate_left
                    · simp only [Act.put, List.setIfInBounds_toArray, List.set_cons_zero, List.set_cons_succ, i64_w, i32_w]
                      rfl
                    refine pure_ (i := 6) (N := some 23) (v := ?_) (a' := ?_) #[true, true, true, true, true, true, true, false, false, false, false, false, false, false, false, false, false, false, false, false, false, false, false, false, false, false, false, false, false] rfl rfl (any_of HT_.out (by kernel_rfl)) (fun _ _ _ h => h) (Or.inl ⟨by rfl, ?_⟩) ?_ ?_
                    rotate_left
                    · intro w'
                      go_simp
                      with_reducible rfl
                    rotate_left
                    · simp only [Act.put, List.setIfInBounds_toArray, List.set_cons_zero, List.set_cons_succ, i64_w, i32_w]
                      rfl
                    refine pure_ (i := 7) (N := some 24) (v := ?_) (a' := ?_) #[true, true, true, true, true, true, true, true, false, false, false, false, false, false, false, false, false, false, false, false, false, false, false, false, false, false, false, false, false] rfl rfl (any_of HT_.out (by kernel_rfl)) (fun _ _ _ h => h) (Or.inl ⟨by rfl, ?_⟩) ?_ ?_
                    rotate_left
                    · intro w'
                      go_simp
                      with_reducible rfl
                    rotate_left
                    · simp only [Act.put, List.setIfInBounds_toArray, List.set_cons_zero, List.set_cons_succ, i64_w, i32_w]
                      rfl
                    refine pure_ (i := 8) (N := some 25) (v := ?_) (a' := ?_) #[true, true, true, true, true, true, true, true, true, false, false, false, false, false, false, false, false, false, false, false, false, false, false, false, false, false, false, false, false] rfl rfl (any_of HT_.out (by kernel_rfl)) (fun _ _ _ h => h) (Or.inl ⟨by rfl, ?_⟩) ?_ ?_
                    rotate_left
                    · intro w'
                      go_simp
                      with_reducible rfl
                    rotate_left
                    · simp only [Act.put, List.setIfInBounds_toArray, List.set_cons_zero, List.set_cons_succ, i64_w, i32_w]
                      rfl
                    refine pure_ (i := 9) (N := some 26) (v := ?_) (a' := ?_) #[true, true, true, true, true, true, true, true, true, true, false, false, false, false, false, false, false, false, false, false, false, false, false, false, false, false, false, false, false] rfl rfl (any_of HT_.out (by kernel_rfl)) (fun _ _ _ h => h) (Or.inl ⟨by rfl, ?_⟩) ?_ ?_
                    rotate_left
                    · intro w'
                      go_simp
                      with_reducible rfl
                    rotate_left
                    · simp only [Act.put, List.setIfInBounds_toArray, List.set_cons_zero, List.set_cons_succ, i64_w, i32_w]
                      rfl
                    refine take_ (i := 10) (N := some 27) (v := ?_) (a' := ?_) #[true, true, true, true, true, true, true, true, true, true, true, false, false, false, false, false, false, false, false, false, false, false, false, false, false, false, false, false, false] rfl rfl (take_ofW HT_.out HW_.out (by kernel_rfl)) (fun _ _ _ h => h) (Or.inl ⟨by rfl, ?_⟩) hHeld ?_ ?_
                    rotate_left
                    · rintro w' ⟨s0, s1, s2, s3, s4, s5, s6, s7, s8, s9, s10, s11, s12, s13, s14, s15, s16, s17, s18, s19, s20, s21, s22, s23⟩
                      go_simp
                      with_reducible rfl
                    rotate_left
                    · simp only [Act.put, List.setIfInBounds_toArray, List.set_cons_zero, List.set_cons_succ, i64_w, i32_w]
                      rfl
                    refine one_ (i := 11) (N := some 28) #[true, true, true, true, true, true, true, true, true, true, true, true, false, false, false, false, false, false, false, false, false, false, false, false, false, false, false, false, false] rfl rfl (one_of HT_.out (by kernel_rfl)) (by decide) (fun K hK => ?_)
                    refine goes_ Try.func16 (by kernel_rfl) rfl #[.agg #[.int .u8 ((rd_T38 l1 x5_1).f0), .int .u16 ((rd_T38 l1 x5_1).f1), .slice A411_2 ((rd_T38 l1 x5_1).f2).length c411_2, .slice A411_3 ((rd_T38 l1 x5_1).f3).length c411_3, .slice A411_4 ((rd_T38 l1 x5_1).f4).length c411_4, .slice A411_5 ((rd_T38 l1 x5_1).f5).length c411_5]] (by rfl) rfl rfl (by (try simp only [List.map_toArray, List.map_cons, List.map_nil]); first | done | rfl | (simp only [List.length_drop, List.length_take]; rfl)) ?_
                    with_reducible refine (garderoberef08_May.calls k1 ((rd_T38 l1 x5_1).f0) ((rd_T38 l1 x5_1).f1) _ _ ((rd_T38 l1 x5_1).f2) _ _ ((rd_T38 l1 x5_1).f3) _ _ ((rd_T38 l1 x5_1).f4) _ _ ((rd_T38 l1 x5_1).f5) true _ ?side1 ?side2 ?side3 ?side4 ?side5 ?side6 ?side7 ?side8 A9.out).mono ?_
                    (case side1 => repeat (first | exact (Kd.C_below HR411_2.out HB.out) | (with_reducible refine Kd.C_alloc ?_ _) | (with_reducible refine Kd.C_drewN ?_ _) | (with_reducible refine Kd.C_drew ?_)))
                    (case side2 => exact HC411_2.out)
                    (case side3 => repeat (first | exact (Kd.C_below HR411_3.out HB.out) | (with_reducible refine Kd.C_alloc ?_ _) | (with_reducible refine Kd.C_drewN ?_ _) | (with_reducible refine Kd.C_drew ?_)))
                    (case side4 => exact HC411_3.out)
                    (case side5 => repeat (first | exact (Kd.C_below HR411_4.out HB.out) | (with_reducible refine Kd.C_alloc ?_ _) | (with_reducible refine Kd.C_drewN ?_ _) | (with_reducible refine Kd.C_drew ?_)))
                    (case side6 => exact HC411_4.out)
                    (case side7 => repeat (first | exact (Kd.C_below HR411_5.out HB.out) | (with_reducible refine Kd.C_alloc ?_ _) | (with_reducible refine Kd.C_drewN ?_ _) | (with_reducible refine Kd.C_drew ?_)))
                    (case side8 => exact HC411_5.out)
                    rintro e w16 ⟨rfl, hb⟩
                    refine ⟨_, rfl, ?_⟩
                    have n0_ := Aside0.mk (below_step (zb) hb)
                    clear HB
                    have HB := n0_
                    clear n0_
                    (try clear hb)
                    (try clear hb2)
                    (try clear hk)
                    (try clear hi)
                    refine hK.out _ _ ⟨((HB.out.cell (World.block_lt_of_cell? w _ hw409_0)).trans hw409_0), ((HB.out.cell (World.block_lt_of_cell? w _ hw409_1)).trans hw409_1), ((HB.out.cell (World.block_lt_of_cell? w _ hw409_2)).trans hw409_2), ((HB.out.cell (World.block_lt_of_cell? w _ hw409_3)).trans hw409_3), ((HB.out.cell (World.block_lt_of_cell? w _ hw409_4)).trans hw409_4), ((HB.out.cell (World.block_lt_of_cell? w _ hw409_5)).trans hw409_5), ((HB.out.cell (World.block_lt_of_cell? w _ hw411_0)).trans hw411_0), ((HB.out.cell (World.block_lt_of_cell? w _ hw411_1)).trans hw411_1), ((HB.out.cell (World.block_lt_of_cell? w _ hw411_2)).trans hw411_2), ((HB.out.cell (World.block_lt_of_cell? w _ hw411_3)).trans hw411_3), ((HB.out.cell (World.block_lt_of_cell? w _ hw411_4)).trans hw411_4), ((HB.out.cell (World.block_lt_of_cell? w _ hw411_5)).trans hw411_5), ((HB.out.cell (World.block_lt_of_cell? w _ hw413_0)).trans hw413_0), ((HB.out.cell (World.block_lt_of_cell? w _ hw413_1)).trans hw413_1), ((HB.out.cell (World.block_lt_of_cell? w _ hw413_2)).trans hw413_2), ((HB.out.cell (World.block_lt_of_cell? w _ hw413_3)).trans hw413_3), ((HB.out.cell (World.block_lt_of_cell? w _ hw413_4)).trans hw413_4), ((HB.out.cell (World.block_lt_of_cell? w _ hw413_5)).trans hw413_5), ((HB.out.cell (World.block_lt_of_cell? w _ hw417_0)).trans hw417_0), ((HB.out.cell (World.block_lt_of_cell? w _ hw417_1)).trans hw417_1), ((HB.out.cell (World.block_lt_of_cell? w _ hw417_2)).trans hw417_2), ((HB.out.cell (World.block_lt_of_cell? w _ hw417_3)).trans hw417_3), ((HB.out.cell (World.block_lt_of_cell? w _ hw417_4)).trans hw417_4), ((HB.out.cell (World.block_lt_of_cell? w _ hw417_5)).trans hw417_5)⟩ (fun hHeld => ?_)
                    clear hK K
                    refine norm_ (a' := ?_) ?_ ?_
                    rotate_left
                    · show Act.put _ (some 28) _ = _
                      simp only [Act.put, List.setIfInBounds_toArray, List.set_cons_zero, List.set_cons_succ, i64_w, i32_w]
                      rfl
                    refine pure_ (i := 12) (N := some 29) (v := ?_) (a' := ?_) #[true, true, true, true, true, true, true, true, true, true, true, true, true, false, false, false, false, false, false, false, false, false, false, false, false, false, false, false, false] rfl rfl (any_of HT_.out (by kernel_rfl)) (fun _ _ _ h => h) (Or.inl ⟨by rfl, ?_⟩) ?_ ?_
                    rotate_left
                    · intro w'
                      go_simp
                      with_reducible rfl
                    rotate_left
                    · simp only [Act.put, List.setIfInBounds_toArray, List.set_cons_zero, List.set_cons_succ, i64_w, i32_w]
                      rfl
                    refine pure_ (i := 13) (N := some 30) (v := ?_) (a' := ?_) #[true, true, true, true, true, true, true, true, true, true, true, true, true, true, false, false, false, false, false, false, false, false, false, false, false, false, false, false, false] rfl rfl (any_of HT_.out (by kernel_rfl)) (fun _ _ _ h => h) (Or.inl ⟨by rfl, ?_⟩) ?_ ?_
                    rotate_left
                    · intro w'
                      go_simp
                      with_reducible rfl
                    rotate_left
                    · simp only [Act.put, List.setIfInBounds_toArray, List.set_cons_zero, List.set_cons_succ, i64_w, i32_w]
                      rfl
                    refine pure_ (i := 14) (N := some 31) (v := ?_) (a' := ?_) #[true, true, true, true, true, true, true, true, true, true, true, true, true, true, true, false, false, false, false, false, false, false, false, false, false, false, false, false, false] rfl rfl (any_of HT_.out (by kernel_rfl)) (fun _ _ _ h => h) (Or.inl ⟨by rfl, ?_⟩) ?_ ?_
                    rotate_left
                    · intro w'
                      go_simp
                      with_reducible rfl
                    rotate_left
                    · simp only [Act.put, List.setIfInBounds_toArray, List.set_cons_zero, List.set_cons_succ, i64_w, i32_w]
                      rfl
                    refine pure_ (i := 15) (N := some 32) (v := ?_) (a' := ?_) #[true, true, true, true, true, true, true, true, true, true, true, true, true, true, true, true, false, false, false, false, false, false, false, false, false, false, false, false, false] rfl rfl (any_of HT_.out (by kernel_rfl)) (fun _ _ _ h => h) (Or.inl ⟨by rfl, ?_⟩) ?_ ?_
                    rotate_left
                    · intro w'
                      go_simp
                      with_reducible rfl
                    rotate_left
                    · simp only [Act.put, List.setIfInBounds_toArray, List.set_cons_zero, List.set_cons_succ, i64_w, i32_w]
                      rfl
                    refine pure_ (i := 16) (N := some 33) (v := ?_) (a' := ?_) #[true, true, true, true, true, true, true, true, true, true, true, true, true, true, true, true, true, false, false, false, false, false, false, false, false, false, false, false, false] rfl rfl (any_of HT_.out (by kernel_rfl)) (fun _ _ _ h => h) (Or.inl ⟨by rfl, ?_⟩) ?_ ?_
                    rotate_left
                    · intro w'
                      go_simp
                      with_reducible rfl
                    rotate_left
                    · simp only [Act.put, List.setIfInBounds_toArray, List.set_cons_zero, List.set_cons_succ, i64_w, i32_w]
                      rfl
                    refine pure_ (i := 17) (N := some 34) (v := ?_) (a' := ?_) #[true, true, true, true, true, true, true, true, true, true, true, true, true, true, true, true, true, true, false, false, false, false, false, false, false, false, false, false, false] rfl rfl (any_of HT_.out (by kernel_rfl)) (fun _ _ _ h => h) (Or.inl ⟨by rfl, ?_⟩) ?_ ?_
                    rotate_left
                    · intro w'
                      go_simp
                      with_reducible rfl
                    rotate_left
                    · simp only [Act.put, List.setIfInBounds_toArray, List.set_cons_zero, List.set_cons_succ, i64_w, i32_w]
                      rfl
                    refine pure_ (i := 21) (N := some 38) (v := ?_) (a' := ?_) #[true, true, true, true, true, true, true, true, true, true, true, true, true, true, true, true, true, true, false, false, false, true, false, false, false, false, false, false, false] rfl rfl (any_of HT_.out (by kernel_rfl)) (fun _ _ _ h => h) (Or.inl ⟨by rfl, ?_⟩) ?_ ?_
                    rotate_left
                    · intro w'
                      go_simp
                      with_reducible rfl
                    rotate_left
                    · simp only [Act.put, List.setIfInBounds_toArray, List.set_cons_zero, List.set_cons_succ, i64_w, i32_w]
                      rfl
                    refine pure_ (i := 22) (N := some 39) (v := ?_) (a' := ?_) #[true, true, true, true, true, true, true, true, true, true, true, true, true, true, true, true, true, true, false, false, false, true, true, false, false, false, false, false, false] rfl rfl (any_of HT_.out (by kernel_rfl)) (fun _ _ _ h => h) (Or.inl ⟨by rfl, ?_⟩) ?_ ?_
                    rotate_left
                    · intro w'
                      go_simp
                      with_reducible rfl
                    rotate_left
                    · simp only [Act.put, List.setIfInBounds_toArray, List.set_cons_zero, List.set_cons_succ, i64_w, i32_w]
                      rfl
                    refine pure_ (i := 23) (N := some 40) (v := ?_) (a' := ?_) #[true, true, true, true, true, true, true, true, true, true, true, true, true, true, true, true, true, true, false, false, false, true, true, true, false, false, false, false, false] rfl rfl (any_of HT_.out (by kernel_rfl)) (fun _ _ _ h => h) (Or.inl ⟨by rfl, ?_⟩) ?_ ?_
                    rotate_left
                    · intro w'
                      go_simp
                      with_reducible rfl
                    rotate_left
                    · simp only [Act.put, List.setIfInBounds_toArray, List.set_cons_zero, List.set_cons_succ, i64_w, i32_w]
                      rfl
                    refine take_ (i := 18) (N := some 35) (v := ?_) (a' := ?_) #[true, true, true, true, true, true, true, true, true, true, true, true, true, true, true, true, true, true, true, false, false, true, true, true, false, false, false, false, false] rfl rfl (take_ofW HT_.out HW_.out (by kernel_rfl)) (fun _ _ _ h => h) (Or.inl ⟨by rfl, ?_⟩) hHeld ?_ ?_
                    rotate_left
                    · rintro w' ⟨s0, s1, s2, s3, s4, s5, s6, s7, s8, s9, s10, s11, s12, s13, s14, s15, s16, s17, s18, s19, s20, s21, s22, s23⟩
                      go_simp
                      with_reducible rfl
                    rotate_left
                    · simp only [Act.put, List.setIfInBounds_toArray, List.set_cons_zero, List.set_cons_succ, i64_w, i32_w]
                      rfl
                    refine take_ (i := 24) (N := some 41) (v := ?_) (a' := ?_) #[true, true, true, true, true, true, true, true, true, true, true, true, true, true, true, true, true, true, true, false, false, true, true, true, true, false, false, false, false] rfl rfl (take_ofW HT_.out HW_.out (by kernel_rfl)) (fun _ _ _ h => h) (Or.inl ⟨by rfl, ?_⟩) hHeld ?_ ?_
                    rotate_left
                    · rintro w' ⟨s0, s1, s2, s3, s4, s5, s6, s7, s8, s9, s10, s11, s12, s13, s14, s15, s16, s17, s18, s19, s20, s21, s22, s23⟩
                      go_simp
                      with_reducible rfl
                    rotate_left
                    · simp only [Act.put, List.setIfInBounds_toArray, List.set_cons_zero, List.set_cons_succ, i64_w, i32_w]
                      rfl
                    refine one_ (i := 19) (N := some 36) #[true, true, true, true, true, true, true, true, true, true, true, true, true, true, true, true, true, true, true, true, false, true, true, true, true, false, false, false, false] rfl rfl (one_of HT_.out (by kernel_rfl)) (by decide) (fun K hK => ?_)
                    refine goes_ Try.func25 (by kernel_rfl) rfl #[.agg #[.int .u8 ((rd_T38 l0 x5_1).f0), .int .u16 ((rd_T38 l0 x5_1).f1), .slice A409_2 ((rd_T38 l0 x5_1).f2).length c409_2, .slice A409_3 ((rd_T38 l0 x5_1).f3).length c409_3, .slice A409_4 ((rd_T38 l0 x5_1).f4).length c409_4, .slice A409_5 ((rd_T38 l0 x5_1).f5).length c409_5]] (by rfl) rfl rfl (by (try simp only [List.map_toArray, List.map_cons, List.map_nil]); first | done | rfl | (simp only [List.length_drop, List.length_take]; rfl)) ?_
                    with_reducible refine (garderoberef08_bytes.calls k1 ((rd_T38 l0 x5_1).f0) ((rd_T38 l0 x5_1).f1) _ _ ((rd_T38 l0 x5_1).f2) _ _ ((rd_T38 l0 x5_1).f3) _ _ ((rd_T38 l0 x5_1).f4) _ _ ((rd_T38 l0 x5_1).f5) t414 _ ?side1 ?side2 ?side3 ?side4 ?side5 ?side6 ?side7 ?side8 A11.out).mono ?_
                    (case side1 => repeat (first | exact (Kd.C_below HR413_2.out HB.out) | (with_reducible refine Kd.C_alloc ?_ _) | (with_reducible refine Kd.C_drewN ?_ _) | (with_reducible refine Kd.C_drew ?_)))
                    (case side2 => exact HC413_2.out)
                    (case side3 => repeat (first | exact (Kd.C_below HR413_3.out HB.out) | (with_reducible refine Kd.C_alloc ?_ _) | (with_reducible refine Kd.C_drewN ?_ _) | (with_reducible refine Kd.C_drew ?_)))
                    (case side4 => exact HC413_3.out)
                    (case side5 => repeat (first | exact (Kd.C_below HR413_4.out HB.out) | (with_reducible refine Kd.C_alloc ?_ _) | (with_reducible refine Kd.C_drewN ?_ _) | (with_reducible refine Kd.C_drew ?_)))
                    (case side6 => exact HC413_4.out)
                    (case side7 => repeat (first | exact (Kd.C_below HR413_5.out HB.out) | (with_reducible refine Kd.C_alloc ?_ _) | (with_reducible refine Kd.C_drewN ?_ _) | (with_reducible refine Kd.C_drew ?_)))
                    (case side8 => exact HC413_5.out)
                    rintro e w17 ⟨v415, rfl, ho0, hb⟩
                    refine ⟨_, rfl, ?_⟩
                    have n0_ := Aside0.mk (Kd.R_lower ho0 (below_size (zb)))
                    have n1_ := Aside0.mk (below_step (zb) hb)
                    clear HB
                    have HO416 := n0_
                    have HB := n1_
                    clear n0_ n1_
                    (try clear hb)
                    (try clear hb2)
                    (try clear hk)
                    (try clear hi)
                    (try clear ho0)
                    refine hK.out _ _ ⟨((HB.out.cell (World.block_lt_of_cell? w _ hw409_0)).trans hw409_0), ((HB.out.cell (World.block_lt_of_cell? w _ hw409_1)).trans hw409_1), ((HB.out.cell (World.block_lt_of_cell? w _ hw409_2)).trans hw409_2), ((HB.out.cell (World.block_lt_of_cell? w _ hw409_3)).trans hw409_3), ((HB.out.cell (World.block_lt_of_cell? w _ hw409_4)).trans hw409_4), ((HB.out.cell (World.block_lt_of_cell? w _ hw409_5)).trans hw409_5), ((HB.out.cell (World.block_lt_of_cell? w _ hw411_0)).trans hw411_0), ((HB.out.cell (World.block_lt_of_cell? w _ hw411_1)).trans hw411_1), ((HB.out.cell (World.block_lt_of_cell? w _ hw411_2)).trans hw411_2), ((HB.out.cell (World.block_lt_of_cell? w _ hw411_3)).trans hw411_3), ((HB.out.cell (World.block_lt_of_cell? w _ hw411_4)).trans hw411_4), ((HB.out.cell (World.block_lt_of_cell? w _ hw411_5)).trans hw411_5), ((HB.out.cell (World.block_lt_of_cell? w _ hw413_0)).trans hw413_0), ((HB.out.cell (World.block_lt_of_cell? w _ hw413_1)).trans hw413_1), ((HB.out.cell (World.block_lt_of_cell? w _ hw413_2)).trans hw413_2), ((HB.out.cell (World.block_lt_of_cell? w _ hw413_3)).trans hw413_3), ((HB.out.cell (World.block_lt_of_cell? w _ hw413_4)).trans hw413_4), ((HB.out.cell (World.block_lt_of_cell? w _ hw413_5)).trans hw413_5), ((HB.out.cell (World.block_lt_of_cell? w _ hw417_0)).trans hw417_0), ((HB.out.cell (World.block_lt_of_cell? w _ hw417_1)).trans hw417_1), ((HB.out.cell (World.block_lt_of_cell? w _ hw417_2)).trans hw417_2), ((HB.out.cell (World.block_lt_of_cell? w _ hw417_3)).trans hw417_3), ((HB.out.cell (World.block_lt_of_cell? w _ hw417_4)).trans hw417_4), ((HB.out.cell (World.block_lt_of_cell? w _ hw417_5)).trans hw417_5)⟩ (fun hHeld => ?_)
                    clear hK K
                    refine norm_ (a' := ?_) ?_ ?_
                    rotate_left
                    · show Act.put _ (some 36) _ = _
                      simp only [Act.put, List.setIfInBounds_toArray, List.set_cons_zero, List.set_cons_succ, i64_w, i32_w]
                      rfl
                    refine join_ (σ := Value) 2 #[true, true, true, true, true, true, true, true, true, true, true, true, true, true, true, true, true, true, true, true, true, true, true, true, true, true, true, false, false] (fun s_ => [(37, .string (strOfNums t414)), (42, s_), (43, .string (strOfNums t418))]) (fun s_ w' => (w'.cell? (ad409.add ((x5_1).toNat * 6)) = some (.int .u8 ((rd_T38 l0 x5_1).f0)) ∧ w'.cell? ⟨(ad409.add ((x5_1).toNat * 6)).block, (ad409.add ((x5_1).toNat * 6)).off + 1, none⟩ = some (.int .u16 ((rd_T38 l0 x5_1).f1)) ∧ w'.cell? ⟨(ad409.add ((x5_1).toNat * 6)).block, (ad409.add ((x5_1).toNat * 6)).off + 2, none⟩ = some (.slice A409_2 ((rd_T38 l0 x5_1).f2).length c409_2) ∧ w'.cell? ⟨(ad409.add ((x5_1).toNat * 6)).block, (ad409.add ((x5_1).toNat * 6)).off + 3, none⟩ = some (.slice A409_3 ((rd_T38 l0 x5_1).f3).length c409_3) ∧ w'.cell? ⟨(ad409.add ((x5_1).toNat * 6)).block, (ad409.add ((x5_1).toNat * 6)).off + 4, none⟩ = some (.slice A409_4 ((rd_T38 l0 x5_1).f4).length c409_4) ∧ w'.cell? ⟨(ad409.add ((x5_1).toNat * 6)).block, (ad409.add ((x5_1).toNat * 6)).off + 5, none⟩ = some (.slice A409_5 ((rd_T38 l0 x5_1).f5).length c409_5) ∧ w'.cell? (ad411.add ((x5_1).toNat * 6)) = some (.int .u8 ((rd_T38 l1 x5_1).f0)) ∧ w'.cell? ⟨(ad411.add ((x5_1).toNat * 6)).block, (ad411.add ((x5_1).toNat * 6)).off + 1, none⟩ = some (.int .u16 ((rd_T38 l1 x5_1).f1)) ∧ w'.cell? ⟨(ad411.add ((x5_1).toNat * 6)).block, (ad411.add ((x5_1).toNat * 6)).off + 2, none⟩ = some (.slice A411_2 ((rd_T38 l1 x5_1).f2).length c411_2) ∧ w'.cell? ⟨(ad411.add ((x5_1).toNat * 6)).block, (ad411.add ((x5_1).toNat * 6)).off + 3, none⟩ = some (.slice A411_3 ((rd_T38 l1 x5_1).f3).length c411_3) ∧ w'.cell? ⟨(ad411.add ((x5_1).toNat * 6)).block, (ad411.add ((x5_1).toNat * 6)).off + 4, none⟩ = some (.slice A411_4 ((rd_T38 l1 x5_1).f4).length c411_4) ∧ w'.cell? ⟨(ad411.add ((x5_1).toNat * 6)).block, (ad411.add ((x5_1).toNat * 6)).off + 5, none⟩ = some (.slice A411_5 ((rd_T38 l1 x5_1).f5).length c411_5) ∧ w'.cell? (ad409.add ((x5_1).toNat * 6)) = some (.int .u8 ((rd_T38 l0 x5_1).f0)) ∧ w'.cell? ⟨(ad409.add ((x5_1).toNat * 6)).block, (ad409.add ((x5_1).toNat * 6)).off + 1, none⟩ = some (.int .u16 ((rd_T38 l0 x5_1).f1)) ∧ w'.cell? ⟨(ad409.add ((x5_1).toNat * 6)).block, (ad409.add ((x5_1).toNat * 6)).off + 2, none⟩ = some (.slice A409_2 ((rd_T38 l0 x5_1).f2).length c409_2) ∧ w'.cell? ⟨(ad409.add ((x5_1).toNat * 6)).block, (ad409.add ((x5_1).toNat * 6)).off + 3, none⟩ = some (.slice A409_3 ((rd_T38 l0 x5_1).f3).length c409_3) ∧ w'.cell? ⟨(ad409.add ((x5_1).toNat * 6)).block, (ad409.add ((x5_1).toNat * 6)).off + 4, none⟩ = some (.slice A409_4 ((rd_T38 l0 x5_1).f4).length c409_4) ∧ w'.cell? ⟨(ad409.add ((x5_1).toNat * 6)).block, (ad409.add ((x5_1).toNat * 6)).off + 5, none⟩ = some (.slice A409_5 ((rd_T38 l0 x5_1).f5).length c409_5) ∧ w'.cell? (ad411.add ((x5_1).toNat * 6)) = some (.int .u8 ((rd_T38 l1 x5_1).f0)) ∧ w'.cell? ⟨(ad411.add ((x5_1).toNat * 6)).block, (ad411.add ((x5_1).toNat * 6)).off + 1, none⟩ = some (.int .u16 ((rd_T38 l1 x5_1).f1)) ∧ w'.cell? ⟨(ad411.add ((x5_1).toNat * 6)).block, (ad411.add ((x5_1).toNat * 6)).off + 2, none⟩ = some (.slice A411_2 ((rd_T38 l1 x5_1).f2).length c411_2) ∧ w'.cell? ⟨(ad411.add ((x5_1).toNat * 6)).block, (ad411.add ((x5_1).toNat * 6)).off + 3, none⟩ = some (.slice A411_3 ((rd_T38 l1 x5_1).f3).length c411_3) ∧ w'.cell? ⟨(ad411.add ((x5_1).toNat * 6)).block, (ad411.add ((x5_1).toNat * 6)).off + 4, none⟩ = some (.slice A411_4 ((rd_T38 l1 x5_1).f4).length c411_4) ∧ w'.cell? ⟨(ad411.add ((x5_1).toNat * 6)).block, (ad411.add ((x5_1).toNat * 6)).off + 5, none⟩ = some (.slice A411_5 ((rd_T38 l1 x5_1).f5).length c411_5)) ∧ (Kd.R (Kd.int .u8) 5 w' w.heap.size (fun k_ => some k_ ≠ (s_ : Value).ownBlock) v415 t414) ∧ (Kd.R (Kd.int .u8) 5 w' w.heap.size (fun k_ => some k_ ≠ (v415 : Value).ownBlock) s_ t418) ∧ (Below w.heap.size w w')) ?_ ?_
                    rotate_left
                    · intro hCont
                      refine two_ (i := 20) (j := 25) (Ni := some 37) (Nj := some 42) #[true, true, true, true, true, true, true, true, true, true, true, true, true, true, true, true, true, true, true, true, true, true, true, true, true, false, false, false, false] #[true, true, true, true, true, true, true, true, true, true, true, true, true, true, true, true, true, true, true, true, false, true, true, true, true, true, false, false, false] rfl rfl rfl rfl (two_of HT_.out (by kernel_rfl)) (by decide) (by decide) (fun K hK => ?_) (fun K hK => ?_)
                      · skip
                        have hcv18 := own_string (P := Try.prog) Try.underlying24 Try.underlying5 Try.underlying9 (Kd.own_of_R HO416.out)
                        refine value_ (w1 := ?_) (v := ?_) (by rfl) rfl ?_ ?_
                        rotate_left 2
                        · go_simp
                          constructor
                          · rfl
                          · rfl
                        clear hcv18
                        refine hK.out _ _ ⟨((HB.out.cell (World.block_lt_of_cell? w _ hw409_0)).trans hw409_0), ((HB.out.cell (World.block_lt_of_cell? w _ hw409_1)).trans hw409_1), ((HB.out.cell (World.block_lt_of_cell? w _ hw409_2)).trans hw409_2), ((HB.out.cell (World.block_lt_of_cell? w _ hw409_3)).trans hw409_3), ((HB.out.cell (World.block_lt_of_cell? w _ hw409_4)).trans hw409_4), ((HB.out.cell (World.block_lt_of_cell? w _ hw409_5)).trans hw409_5), ((HB.out.cell (World.block_lt_of_cell? w _ hw411_0)).trans hw411_0), ((HB.out.cell (World.block_lt_of_cell? w _ hw411_1)).trans hw411_1), ((HB.out.cell (World.block_lt_of_cell? w _ hw411_2)).trans hw411_2), ((HB.out.cell (World.block_lt_of_cell? w _ hw411_3)).trans hw411_3), ((HB.out.cell (World.block_lt_of_cell? w _ hw411_4)).trans hw411_4), ((HB.out.cell (World.block_lt_of_cell? w _ hw411_5)).trans hw411_5), ((HB.out.cell (World.block_lt_of_cell? w _ hw413_0)).trans hw413_0), ((HB.out.cell (World.block_lt_of_cell? w _ hw413_1)).trans hw413_1), ((HB.out.cell (World.block_lt_of_cell? w _ hw413_2)).trans hw413_2), ((HB.out.cell (World.block_lt_of_cell? w _ hw413_3)).trans hw413_3), ((HB.out.cell (World.block_lt_of_cell? w _ hw413_4)).trans hw413_4), ((HB.out.cell (World.block_lt_of_cell? w _ hw413_5)).trans hw413_5), ((HB.out.cell (World.block_lt_of_cell? w _ hw417_0)).trans hw417_0), ((HB.out.cell (World.block_lt_of_cell? w _ hw417_1)).trans hw417_1), ((HB.out.cell (World.block_lt_of_cell? w _ hw417_2)).trans hw417_2), ((HB.out.cell (World.block_lt_of_cell? w _ hw417_3)).trans hw417_3), ((HB.out.cell (World.block_lt_of_cell? w _ hw417_4)).trans hw417_4), ((HB.out.cell (World.block_lt_of_cell? w _ hw417_5)).trans hw417_5)⟩ (fun hHeld => ?_)
                        clear hK K
                        refine norm_ (a' := ?_) ?_ ?_
                        rotate_left
                        · show Act.put _ (some 37) _ = _
                          simp only [Act.put, List.setIfInBounds_toArray, List.set_cons_zero, List.set_cons_succ, i64_w, i32_w]
                          rfl
                        refine one_ (i := 25) (N := some 42) #[true, true, true, true, true, true, true, true, true, true, true, true, true, true, true, true, true, true, true, true, true, true, true, true, true, true, false, false, false] rfl rfl (one_of HT_.out (by kernel_rfl)) (by decide) (fun K hK => ?_)
                        refine goes_ Try.func25 (by kernel_rfl) rfl #[.agg #[.int .u8 ((rd_T38 l1 x5_1).f0), .int .u16 ((rd_T38 l1 x5_1).f1), .slice A411_2 ((rd_T38 l1 x5_1).f2).length c411_2, .slice A411_3 ((rd_T38 l1 x5_1).f3).length c411_3, .slice A411_4 ((rd_T38 l1 x5_1).f4).length c411_4, .slice A411_5 ((rd_T38 l1 x5_1).f5).length c411_5]] (by rfl) rfl rfl (by (try simp only [List.map_toArray, List.map_cons, List.map_nil]); first | done | rfl | (simp only [List.length_drop, List.length_take]; rfl)) ?_
                        with_reducible refine (garderoberef08_bytes.calls k1 ((rd_T38 l1 x5_1).f0) ((rd_T38 l1 x5_1).f1) _ _ ((rd_T38 l1 x5_1).f2) _ _ ((rd_T38 l1 x5_1).f3) _ _ ((rd_T38 l1 x5_1).f4) _ _ ((rd_T38 l1 x5_1).f5) t418 _ ?side1 ?side2 ?side3 ?side4 ?side5 ?side6 ?side7 ?side8 A12.out).mono ?_
                        (case side1 => repeat (first | exact (Kd.C_below HR417_2.out HB.out) | (with_reducible refine Kd.C_alloc ?_ _) | (with_reducible refine Kd.C_drewN ?_ _) | (with_reducible refine Kd.C_drew ?_)))
                        (case side2 => exact HC417_2.out)
                        (case side3 => repeat (first | exact (Kd.C_below HR417_3.out HB.out) | (with_reducible refine Kd.C_alloc ?_ _) | (with_reducible refine Kd.C_drewN ?_ _) | (with_reducible refine Kd.C_drew ?_)))
                        (case side4 => exact HC417_3.out)
                        (case side5 => repeat (first | exact (Kd.C_below HR417_4.out HB.out) | (with_reducible refine Kd.C_alloc ?_ _) | (with_reducible refine Kd.C_drewN ?_ _) | (with_reducible refine Kd.C_drew ?_)))
                        (case side6 => exact HC417_4.out)
                        (case side7 => repeat (first | exact (Kd.C_below HR417_5.out HB.out) | (with_reducible refine Kd.C_alloc ?_ _) | (with_reducible refine Kd.C_drewN ?_ _) | (with_reducible refine Kd.C_drew ?_)))
                        (case side8 => exact HC417_5.out)
                        rintro e w19 ⟨v419, rfl, ho0, hb⟩
                        refine ⟨_, rfl, ?_⟩
                        have n0_ := Aside0.mk (Kd.R_elder' (by (with_reducible repeat (first | apply Kd.R_alloc | apply Kd.R_drewN | apply Kd.R_drew)); exact HO416.out) (Kd.R_base ho0) hb)
                        have n1_ := Aside0.mk (Kd.R_lower (Kd.R_new' ho0 (Kd.R_lt (by (with_reducible repeat (first | apply Kd.R_alloc | apply Kd.R_drewN | apply Kd.R_drew)); exact HO416.out))) (below_size (zb)))
                        have n2_ := Aside0.mk (below_step (zb) hb)
                        clear HO416
                        clear HB
                        have HO416 := n0_
                        have HO420 := n1_
                        have HB := n2_
                        clear n0_ n1_ n2_
                        (try clear hb)
                        (try clear hb2)
                        (try clear hk)
                        (try clear hi)
                        (try clear ho0)
                        refine hK.out _ _ ⟨((HB.out.cell (World.block_lt_of_cell? w _ hw409_0)).trans hw409_0), ((HB.out.cell (World.block_lt_of_cell? w _ hw409_1)).trans hw409_1), ((HB.out.cell (World.block_lt_of_cell? w _ hw409_2)).trans hw409_2), ((HB.out.cell (World.block_lt_of_cell? w _ hw409_3)).trans hw409_3), ((HB.out.cell (World.block_lt_of_cell? w _ hw409_4)).trans hw409_4), ((HB.out.cell (World.block_lt_of_cell? w _ hw409_5)).trans hw409_5), ((HB.out.cell (World.block_lt_of_cell? w _ hw411_0)).trans hw411_0), ((HB.out.cell (World.block_lt_of_cell? w _ hw411_1)).trans hw411_1), ((HB.out.cell (World.block_lt_of_cell? w _ hw411_2)).trans hw411_2), ((HB.out.cell (World.block_lt_of_cell? w _ hw411_3)).trans hw411_3), ((HB.out.cell (World.block_lt_of_cell? w _ hw411_4)).trans hw411_4), ((HB.out.cell (World.block_lt_of_cell? w _ hw411_5)).trans hw411_5), ((HB.out.cell (World.block_lt_of_cell? w _ hw413_0)).trans hw413_0), ((HB.out.cell (World.block_lt_of_cell? w _ hw413_1)).trans hw413_1), ((HB.out.cell (World.block_lt_of_cell? w _ hw413_2)).trans hw413_2), ((HB.out.cell (World.block_lt_of_cell? w _ hw413_3)).trans hw413_3), ((HB.out.cell (World.block_lt_of_cell? w _ hw413_4)).trans hw413_4), ((HB.out.cell (World.block_lt_of_cell? w _ hw413_5)).trans hw413_5), ((HB.out.cell (World.block_lt_of_cell? w _ hw417_0)).trans hw417_0), ((HB.out.cell (World.block_lt_of_cell? w _ hw417_1)).trans hw417_1), ((HB.out.cell (World.block_lt_of_cell? w _ hw417_2)).trans hw417_2), ((HB.out.cell (World.block_lt_of_cell? w _ hw417_3)).trans hw417_3), ((HB.out.cell (World.block_lt_of_cell? w _ hw417_4)).trans hw417_4), ((HB.out.cell (World.block_lt_of_cell? w _ hw417_5)).trans hw417_5)⟩ (fun hHeld => ?_)
                        clear hK K
                        refine norm_ (a' := ?_) ?_ ?_
                        rotate_left
                        · show Act.put _ (some 42) _ = _
                          simp only [Act.put, List.setIfInBounds_toArray, List.set_cons_zero, List.set_cons_succ, i64_w, i32_w]
                          rfl
                        refine one_ (i := 26) (N := some 43) #[true, true, true, true, true, true, true, true, true, true, true, true, true, true, true, true, true, true, true, true, true, true, true, true, true, true, true, false, false] rfl rfl (one_of HT_.out (by kernel_rfl)) (by decide) (fun K hK => ?_)
                        have hcv20 := own_string (P := Try.prog) Try.underlying24 Try.underlying5 Try.underlying9 (Kd.own_of_R HO420.out)
                        refine value_ (w1 := ?_) (v := ?_) (by rfl) rfl ?_ ?_
                        rotate_left 2
                        · go_simp
                          constructor
                          · rfl
                          · rfl
                        clear hcv20
                        refine hK.out _ _ ⟨((HB.out.cell (World.block_lt_of_cell? w _ hw409_0)).trans hw409_0), ((HB.out.cell (World.block_lt_of_cell? w _ hw409_1)).trans hw409_1), ((HB.out.cell (World.block_lt_of_cell? w _ hw409_2)).trans hw409_2), ((HB.out.cell (World.block_lt_of_cell? w _ hw409_3)).trans hw409_3), ((HB.out.cell (World.block_lt_of_cell? w _ hw409_4)).trans hw409_4), ((HB.out.cell (World.block_lt_of_cell? w _ hw409_5)).trans hw409_5), ((HB.out.cell (World.block_lt_of_cell? w _ hw411_0)).trans hw411_0), ((HB.out.cell (World.block_lt_of_cell? w _ hw411_1)).trans hw411_1), ((HB.out.cell (World.block_lt_of_cell? w _ hw411_2)).trans hw411_2), ((HB.out.cell (World.block_lt_of_cell? w _ hw411_3)).trans hw411_3), ((HB.out.cell (World.block_lt_of_cell? w _ hw411_4)).trans hw411_4), ((HB.out.cell (World.block_lt_of_cell? w _ hw411_5)).trans hw411_5), ((HB.out.cell (World.block_lt_of_cell? w _ hw413_0)).trans hw413_0), ((HB.out.cell (World.block_lt_of_cell? w _ hw413_1)).trans hw413_1), ((HB.out.cell (World.block_lt_of_cell? w _ hw413_2)).trans hw413_2), ((HB.out.cell (World.block_lt_of_cell? w _ hw413_3)).trans hw413_3), ((HB.out.cell (World.block_lt_of_cell? w _ hw413_4)).trans hw413_4), ((HB.out.cell (World.block_lt_of_cell? w _ hw413_5)).trans hw413_5), ((HB.out.cell (World.block_lt_of_cell? w _ hw417_0)).trans hw417_0), ((HB.out.cell (World.block_lt_of_cell? w _ hw417_1)).trans hw417_1), ((HB.out.cell (World.block_lt_of_cell? w _ hw417_2)).trans hw417_2), ((HB.out.cell (World.block_lt_of_cell? w _ hw417_3)).trans hw417_3), ((HB.out.cell (World.block_lt_of_cell? w _ hw417_4)).trans hw417_4), ((HB.out.cell (World.block_lt_of_cell? w _ hw417_5)).trans hw417_5)⟩ (fun hHeld => ?_)
                        clear hK K
                        refine norm_ (a' := ?_) ?_ ?_
                        rotate_left
                        · show Act.put _ (some 43) _ = _
                          simp only [Act.put, List.setIfInBounds_toArray, List.set_cons_zero, List.set_cons_succ, i64_w, i32_w]
                          rfl
                        exact norm_ (by simp only [putAll, Act.put, List.setIfInBounds_toArray, List.set_cons_zero, List.set_cons_succ]) (hCont (v419) _ ⟨hHeld, (by (with_reducible repeat (first | apply Kd.R_alloc | apply Kd.R_drewN | apply Kd.R_drew)); exact Kd.R_mono HO416.out (fun _ hk => hk.2)), (by (with_reducible repeat (first | apply Kd.R_alloc | apply Kd.R_drewN | apply Kd.R_drew)); exact Kd.R_mono HO420.out (fun _ hk => hk.2)), (zb)⟩)
                      · skip
                        refine goes_ Try.func25 (by kernel_rfl) rfl #[.agg #[.int .u8 ((rd_T38 l1 x5_1).f0), .int .u16 ((rd_T38 l1 x5_1).f1), .slice A411_2 ((rd_T38 l1 x5_1).f2).length c411_2, .slice A411_3 ((rd_T38 l1 x5_1).f3).length c411_3, .slice A411_4 ((rd_T38 l1 x5_1).f4).length c411_4, .slice A411_5 ((rd_T38 l1 x5_1).f5).length c411_5]] (by rfl) rfl rfl (by (try simp only [List.map_toArray, List.map_cons, List.map_nil]); first | done | rfl | (simp only [List.length_drop, List.length_take]; rfl)) ?_
                        with_reducible refine (garderoberef08_bytes.calls k1 ((rd_T38 l1 x5_1).f0) ((rd_T38 l1 x5_1).f1) _ _ ((rd_T38 l1 x5_1).f2) _ _ ((rd_T38 l1 x5_1).f3) _ _ ((rd_T38 l1 x5_1).f4) _ _ ((rd_T38 l1 x5_1).f5) t418 _ ?side1 ?side2 ?side3 ?side4 ?side5 ?side6 ?side7 ?side8 A12.out).mono ?_
                        (case side1 => repeat (first | exact (Kd.C_below HR417_2.out HB.out) | (with_reducible refine Kd.C_alloc ?_ _) | (with_reducible refine Kd.C_drewN ?_ _) | (with_reducible refine Kd.C_drew ?_)))
                        (case side2 => exact HC417_2.out)
                        (case side3 => repeat (first | exact (Kd.C_below HR417_3.out HB.out) | (with_reducible refine Kd.C_alloc ?_ _) | (with_reducible refine Kd.C_drewN ?_ _) | (with_reducible refine Kd.C_drew ?_)))
                        (case side4 => exact HC417_3.out)
                        (case side5 => repeat (first | exact (Kd.C_below HR417_4.out HB.out) | (with_reducible refine Kd.C_alloc ?_ _) | (with_reducible refine Kd.C_drewN ?_ _) | (with_reducible refine Kd.C_drew ?_)))
                        (case side6 => exact HC417_4.out)
                        (case side7 => repeat (first | exact (Kd.C_below HR417_5.out HB.out) | (with_reducible refine Kd.C_alloc ?_ _) | (with_reducible refine Kd.C_drewN ?_ _) | (with_reducible refine Kd.C_drew ?_)))
                        (case side8 => exact HC417_5.out)
                        rintro e w18 ⟨v419, rfl, ho0, hb⟩
                        refine ⟨_, rfl, ?_⟩
                        have n0_ := Aside0.mk (Kd.R_elder' (by (with_reducible repeat (first | apply Kd.R_alloc | apply Kd.R_drewN | apply Kd.R_drew)); exact HO416.out) (Kd.R_base ho0) hb)
                        have n1_ := Aside0.mk (Kd.R_lower (Kd.R_new' ho0 (Kd.R_lt (by (with_reducible repeat (first | apply Kd.R_alloc | apply Kd.R_drewN | apply Kd.R_drew)); exact HO416.out))) (below_size (zb)))
                        have n2_ := Aside0.mk (below_step (zb) hb)
                        clear HO416
                        clear HB
                        have HO416 := n0_
                        have HO420 := n1_
                        have HB := n2_
                        clear n0_ n1_ n2_
                        (try clear hb)
                        (try clear hb2)
                        (try clear hk)
                        (try clear hi)
                        (try clear ho0)
                        refine hK.out _ _ ⟨((HB.out.cell (World.block_lt_of_cell? w _ hw409_0)).trans hw409_0), ((HB.out.cell (World.block_lt_of_cell? w _ hw409_1)).trans hw409_1), ((HB.out.cell (World.block_lt_of_cell? w _ hw409_2)).trans hw409_2), ((HB.out.cell (World.block_lt_of_cell? w _ hw409_3)).trans hw409_3), ((HB.out.cell (World.block_lt_of_cell? w _ hw409_4)).trans hw409_4), ((HB.out.cell (World.block_lt_of_cell? w _ hw409_5)).trans hw409_5), ((HB.out.cell (World.block_lt_of_cell? w _ hw411_0)).trans hw411_0), ((HB.out.cell (World.block_lt_of_cell? w _ hw411_1)).trans hw411_1), ((HB.out.cell (World.block_lt_of_cell? w _ hw411_2)).trans hw411_2), ((HB.out.cell (World.block_lt_of_cell? w _ hw411_3)).trans hw411_3), ((HB.out.cell (World.block_lt_of_cell? w _ hw411_4)).trans hw411_4), ((HB.out.cell (World.block_lt_of_cell? w _ hw411_5)).trans hw411_5), ((HB.out.cell (World.block_lt_of_cell? w _ hw413_0)).trans hw413_0), ((HB.out.cell (World.block_lt_of_cell? w _ hw413_1)).trans hw413_1), ((HB.out.cell (World.block_lt_of_cell? w _ hw413_2)).trans hw413_2), ((HB.out.cell (World.block_lt_of_cell? w _ hw413_3)).trans hw413_3), ((HB.out.cell (World.block_lt_of_cell? w _ hw413_4)).trans hw413_4), ((HB.out.cell (World.block_lt_of_cell? w _ hw413_5)).trans hw413_5), ((HB.out.cell (World.block_lt_of_cell? w _ hw417_0)).trans hw417_0), ((HB.out.cell (World.block_lt_of_cell? w _ hw417_1)).trans hw417_1), ((HB.out.cell (World.block_lt_of_cell? w _ hw417_2)).trans hw417_2), ((HB.out.cell (World.block_lt_of_cell? w _ hw417_3)).trans hw417_3), ((HB.out.cell (World.block_lt_of_cell? w _ hw417_4)).trans hw417_4), ((HB.out.cell (World.block_lt_of_cell? w _ hw417_5)).trans hw417_5)⟩ (fun hHeld => ?_)
                        clear hK K
                        refine norm_ (a' := ?_) ?_ ?_
                        rotate_left
                        · show Act.put _ (some 42) _ = _
                          simp only [Act.put, List.setIfInBounds_toArray, List.set_cons_zero, List.set_cons_succ, i64_w, i32_w]
                          rfl
                        refine two_ (i := 20) (j := 26) (Ni := some 37) (Nj := some 43) #[true, true, true, true, true, true, true, true, true, true, true, true, true, true, true, true, true, true, true, true, true, true, true, true, true, true, false, false, false] #[true, true, true, true, true, true, true, true, true, true, true, true, true, true, true, true, true, true, true, true, false, true, true, true, true, true, true, false, false] rfl rfl rfl rfl (two_of HT_.out (by kernel_rfl)) (by decide) (by decide) (fun K hK => ?_) (fun K hK => ?_)
                        · skip
                          have hcv19 := own_string (P := Try.prog) Try.underlying24 Try.underlying5 Try.underlying9 (Kd.own_of_R HO416.out)
                          refine value_ (w1 := ?_) (v := ?_) (by rfl) rfl ?_ ?_
                          rotate_left 2
                          · go_simp
                            constructor
                            · rfl
                            · rfl
                          clear hcv19
                          refine hK.out _ _ ⟨((HB.out.cell (World.block_lt_of_cell? w _ hw409_0)).trans hw409_0), ((HB.out.cell (World.block_lt_of_cell? w _ hw409_1)).trans hw409_1), ((HB.out.cell (World.block_lt_of_cell? w _ hw409_2)).trans hw409_2), ((HB.out.cell (World.block_lt_of_cell? w _ hw409_3)).trans hw409_3), ((HB.out.cell (World.block_lt_of_cell? w _ hw409_4)).trans hw409_4), ((HB.out.cell (World.block_lt_of_cell? w _ hw409_5)).trans hw409_5), ((HB.out.cell (World.block_lt_of_cell? w _ hw411_0)).trans hw411_0), ((HB.out.cell (World.block_lt_of_cell? w _ hw411_1)).trans hw411_1), ((HB.out.cell (World.block_lt_of_cell? w _ hw411_2)).trans hw411_2), ((HB.out.cell (World.block_lt_of_cell? w _ hw411_3)).trans hw411_3), ((HB.out.cell (World.block_lt_of_cell? w _ hw411_4)).trans hw411_4), ((HB.out.cell (World.block_lt_of_cell? w _ hw411_5)).trans hw411_5), ((HB.out.cell (World.block_lt_of_cell? w _ hw413_0)).trans hw413_0), ((HB.out.cell (World.block_lt_of_cell? w _ hw413_1)).trans hw413_1), ((HB.out.cell (World.block_lt_of_cell? w _ hw413_2)).trans hw413_2), ((HB.out.cell (World.block_lt_of_cell? w _ hw413_3)).trans hw413_3), ((HB.out.cell (World.block_lt_of_cell? w _ hw413_4)).trans hw413_4), ((HB.out.cell (World.block_lt_of_cell? w _ hw413_5)).trans hw413_5), ((HB.out.cell (World.block_lt_of_cell? w _ hw417_0)).trans hw417_0), ((HB.out.cell (World.block_lt_of_cell? w _ hw417_1)).trans hw417_1), ((HB.out.cell (World.block_lt_of_cell? w _ hw417_2)).trans hw417_2), ((HB.out.cell (World.block_lt_of_cell? w _ hw417_3)).trans hw417_3), ((HB.out.cell (World.block_lt_of_cell? w _ hw417_4)).trans hw417_4), ((HB.out.cell (World.block_lt_of_cell? w _ hw417_5)).trans hw417_5)⟩ (fun hHeld => ?_)
                          clear hK K
                          refine norm_ (a' := ?_) ?_ ?_
                          rotate_left
                          · show Act.put _ (some 37) _ = _
                            simp only [Act.put, List.setIfInBounds_toArray, List.set_cons_zero, List.set_cons_succ, i64_w, i32_w]
                            rfl
                          refine one_ (i := 26) (N := some 43) #[true, true, true, true, true, true, true, true, true, true, true, true, true, true, true, true, true, true, true, true, true, true, true, true, true, true, true, false, false] rfl rfl (one_of HT_.out (by kernel_rfl)) (by decide) (fun K hK => ?_)
                          have hcv20 := own_string (P := Try.prog) Try.underlying24 Try.underlying5 Try.underlying9 (Kd.own_of_R HO420.out)
                          refine value_ (w1 := ?_) (v := ?_) (by rfl) rfl ?_ ?_
                          rotate_left 2
                          · go_simp
                            constructor
                            · rfl
                            · rfl
                          clear hcv20
                          refine hK.out _ _ ⟨((HB.out.cell (World.block_lt_of_cell? w _ hw409_0)).trans hw409_0), ((HB.out.cell (World.block_lt_of_cell? w _ hw409_1)).trans hw409_1), ((HB.out.cell (World.block_lt_of_cell? w _ hw409_2)).trans hw409_2), ((HB.out.cell (World.block_lt_of_cell? w _ hw409_3)).trans hw409_3), ((HB.out.cell (World.block_lt_of_cell? w _ hw409_4)).trans hw409_4), ((HB.out.cell (World.block_lt_of_cell? w _ hw409_5)).trans hw409_5), ((HB.out.cell (World.block_lt_of_cell? w _ hw411_0)).trans hw411_0), ((HB.out.cell (World.block_lt_of_cell? w _ hw411_1)).trans hw411_1), ((HB.out.cell (World.block_lt_of_cell? w _ hw411_2)).trans hw411_2), ((HB.out.cell (World.block_lt_of_cell? w _ hw411_3)).trans hw411_3), ((HB.out.cell (World.block_lt_of_cell? w _ hw411_4)).trans hw411_4), ((HB.out.cell (World.block_lt_of_cell? w _ hw411_5)).trans hw411_5), ((HB.out.cell (World.block_lt_of_cell? w _ hw413_0)).trans hw413_0), ((HB.out.cell (World.block_lt_of_cell? w _ hw413_1)).trans hw413_1), ((HB.out.cell (World.block_lt_of_cell? w _ hw413_2)).trans hw413_2), ((HB.out.cell (World.block_lt_of_cell? w _ hw413_3)).trans hw413_3), ((HB.out.cell (World.block_lt_of_cell? w _ hw413_4)).trans hw413_4), ((HB.out.cell (World.block_lt_of_cell? w _ hw413_5)).trans hw413_5), ((HB.out.cell (World.block_lt_of_cell? w _ hw417_0)).trans hw417_0), ((HB.out.cell (World.block_lt_of_cell? w _ hw417_1)).trans hw417_1), ((HB.out.cell (World.block_lt_of_cell? w _ hw417_2)).trans hw417_2), ((HB.out.cell (World.block_lt_of_cell? w _ hw417_3)).trans hw417_3), ((HB.out.cell (World.block_lt_of_cell? w _ hw417_4)).trans hw417_4), ((HB.out.cell (World.block_lt_of_cell? w _ hw417_5)).trans hw417_5)⟩ (fun hHeld => ?_)
                          clear hK K
                          refine norm_ (a' := ?_) ?_ ?_
                          rotate_left
                          · show Act.put _ (some 43) _ = _
                            simp only [Act.put, List.setIfInBounds_toArray, List.set_cons_zero, List.set_cons_succ, i64_w, i32_w]
                            rfl
                          exact norm_ (by simp only [putAll, Act.put, List.setIfInBounds_toArray, List.set_cons_zero, List.set_cons_succ]) (hCont (v419) _ ⟨hHeld, (by (with_reducible repeat (first | apply Kd.R_alloc | apply Kd.R_drewN | apply Kd.R_drew)); exact Kd.R_mono HO416.out (fun _ hk => hk.2)), (by (with_reducible repeat (first | apply Kd.R_alloc | apply Kd.R_drewN | apply Kd.R_drew)); exact Kd.R_mono HO420.out (fun _ hk => hk.2)), (zb)⟩)
                        · skip
                          have hcv19 := own_string (P := Try.prog) Try.underlying24 Try.underlying5 Try.underlying9 (Kd.own_of_R HO420.out)
                          refine value_ (w1 := ?_) (v := ?_) (by rfl) rfl ?_ ?_
                          rotate_left 2
                          · go_simp
                            constructor
                            · rfl
                            · rfl
                          clear hcv19
                          refine hK.out _ _ ⟨((HB.out.cell (World.block_lt_of_cell? w _ hw409_0)).trans hw409_0), ((HB.out.cell (World.block_lt_of_cell? w _ hw409_1)).trans hw409_1), ((HB.out.cell (World.block_lt_of_cell? w _ hw409_2)).trans hw409_2), ((HB.out.cell (World.block_lt_of_cell? w _ hw409_3)).trans hw409_3), ((HB.out.cell (World.block_lt_of_cell? w _ hw409_4)).trans hw409_4), ((HB.out.cell (World.block_lt_of_cell? w _ hw409_5)).trans hw409_5), ((HB.out.cell (World.block_lt_of_cell? w _ hw411_0)).trans hw411_0), ((HB.out.cell (World.block_lt_of_cell? w _ hw411_1)).trans hw411_1), ((HB.out.cell (World.block_lt_of_cell? w _ hw411_2)).trans hw411_2), ((HB.out.cell (World.block_lt_of_cell? w _ hw411_3)).trans hw411_3), ((HB.out.cell (World.block_lt_of_cell? w _ hw411_4)).trans hw411_4), ((HB.out.cell (World.block_lt_of_cell? w _ hw411_5)).trans hw411_5), ((HB.out.cell (World.block_lt_of_cell? w _ hw413_0)).trans hw413_0), ((HB.out.cell (World.block_lt_of_cell? w _ hw413_1)).trans hw413_1), ((HB.out.cell (World.block_lt_of_cell? w _ hw413_2)).trans hw413_2), ((HB.out.cell (World.block_lt_of_cell? w _ hw413_3)).trans hw413_3), ((HB.out.cell (World.block_lt_of_cell? w _ hw413_4)).trans hw413_4), ((HB.out.cell (World.block_lt_of_cell? w _ hw413_5)).trans hw413_5), ((HB.out.cell (World.block_lt_of_cell? w _ hw417_0)).trans hw417_0), ((HB.out.cell (World.block_lt_of_cell? w _ hw417_1)).trans hw417_1), ((HB.out.cell (World.block_lt_of_cell? w _ hw417_2)).trans hw417_2), ((HB.out.cell (World.block_lt_of_cell? w _ hw417_3)).trans hw417_3), ((HB.out.cell (World.block_lt_of_cell? w _ hw417_4)).trans hw417_4), ((HB.out.cell (World.block_lt_of_cell? w _ hw417_5)).trans hw417_5)⟩ (fun hHeld => ?_)
                          clear hK K
                          refine norm_ (a' := ?_) ?_ ?_
                          rotate_left
                          · show Act.put _ (some 43) _ = _
                            simp only [Act.put, List.setIfInBounds_toArray, List.set_cons_zero, List.set_cons_succ, i64_w, i32_w]
                            rfl
                          refine one_ (i := 20) (N := some 37) #[true, true, true, true, true, true, true, true, true, true, true, true, true, true, true, true, true, true, true, true, true, true, true, true, true, true, true, false, false] rfl rfl (one_of HT_.out (by kernel_rfl)) (by decide) (fun K hK => ?_)
                          have hcv20 := own_string (P := Try.prog) Try.underlying24 Try.underlying5 Try.underlying9 (Kd.own_of_R HO416.out)
                          refine value_ (w1 := ?_) (v := ?_) (by rfl) rfl ?_ ?_
                          rotate_left 2
                          · go_simp
                            constructor
                            · rfl
                            · rfl
                          clear hcv20
                          refine hK.out _ _ ⟨((HB.out.cell (World.block_lt_of_cell? w _ hw409_0)).trans hw409_0), ((HB.out.cell (World.block_lt_of_cell? w _ hw409_1)).trans hw409_1), ((HB.out.cell (World.block_lt_of_cell? w _ hw409_2)).trans hw409_2), ((HB.out.cell (World.block_lt_of_cell? w _ hw409_3)).trans hw409_3), ((HB.out.cell (World.block_lt_of_cell? w _ hw409_4)).trans hw409_4), ((HB.out.cell (World.block_lt_of_cell? w _ hw409_5)).trans hw409_5), ((HB.out.cell (World.block_lt_of_cell? w _ hw411_0)).trans hw411_0), ((HB.out.cell (World.block_lt_of_cell? w _ hw411_1)).trans hw411_1), ((HB.out.cell (World.block_lt_of_cell? w _ hw411_2)).trans hw411_2), ((HB.out.cell (World.block_lt_of_cell? w _ hw411_3)).trans hw411_3), ((HB.out.cell (World.block_lt_of_cell? w _ hw411_4)).trans hw411_4), ((HB.out.cell (World.block_lt_of_cell? w _ hw411_5)).trans hw411_5), ((HB.out.cell (World.block_lt_of_cell? w _ hw413_0)).trans hw413_0), ((HB.out.cell (World.block_lt_of_cell? w _ hw413_1)).trans hw413_1), ((HB.out.cell (World.block_lt_of_cell? w _ hw413_2)).trans hw413_2), ((HB.out.cell (World.block_lt_of_cell? w _ hw413_3)).trans hw413_3), ((HB.out.cell (World.block_lt_of_cell? w _ hw413_4)).trans hw413_4), ((HB.out.cell (World.block_lt_of_cell? w _ hw413_5)).trans hw413_5), ((HB.out.cell (World.block_lt_of_cell? w _ hw417_0)).trans hw417_0), ((HB.out.cell (World.block_lt_of_cell? w _ hw417_1)).trans hw417_1), ((HB.out.cell (World.block_lt_of_cell? w _ hw417_2)).trans hw417_2), ((HB.out.cell (World.block_lt_of_cell? w _ hw417_3)).trans hw417_3), ((HB.out.cell (World.block_lt_of_cell? w _ hw417_4)).trans hw417_4), ((HB.out.cell (World.block_lt_of_cell? w _ hw417_5)).trans hw417_5)⟩ (fun hHeld => ?_)
                          clear hK K
                          refine norm_ (a' := ?_) ?_ ?_
                          rotate_left
                          · show Act.put _ (some 37) _ = _
                            simp only [Act.put, List.setIfInBounds_toArray, List.set_cons_zero, List.set_cons_succ, i64_w, i32_w]
                            rfl
                          exact norm_ (by simp only [putAll, Act.put, List.setIfInBounds_toArray, List.set_cons_zero, List.set_cons_succ]) (hCont (v419) _ ⟨hHeld, (by (with_reducible repeat (first | apply Kd.R_alloc | apply Kd.R_drewN | apply Kd.R_drew)); exact Kd.R_mono HO416.out (fun _ hk => hk.2)), (by (with_reducible repeat (first | apply Kd.R_alloc | apply Kd.R_drewN | apply Kd.R_drew)); exact Kd.R_mono HO420.out (fun _ hk => hk.2)), (zb)⟩)
                    rintro v419 w21 ⟨hS_, h0_, h1_, h2_⟩
                    have n0_ : Aside0 (Kd.R (Kd.int .u8) 5 w21 w.heap.size (fun k_ => some k_ ≠ (v419 : Value).ownBlock) v415 t414) := ⟨h0_⟩
                    have n1_ : Aside0 (Kd.R (Kd.int .u8) 5 w21 w.heap.size (fun k_ => some k_ ≠ (v415 : Value).ownBlock) v419 t418) := ⟨h1_⟩
                    have n2_ : Aside0 (Below w.heap.size w w21) := ⟨h2_⟩
                    clear HB
                    clear h0_ h1_ h2_
                    have HO416 := n0_
                    have HO420 := n1_
                    have HB := n2_
                    clear n0_ n1_ n2_
                    have hHeld : w21.cell? (ad409.add ((x5_1).toNat * 6)) = some (.int .u8 ((rd_T38 l0 x5_1).f0)) ∧ w21.cell? ⟨(ad409.add ((x5_1).toNat * 6)).block, (ad409.add ((x5_1).toNat * 6)).off + 1, none⟩ = some (.int .u16 ((rd_T38 l0 x5_1).f1)) ∧ w21.cell? ⟨(ad409.add ((x5_1).toNat * 6)).block, (ad409.add ((x5_1).toNat * 6)).off + 2, none⟩ = some (.slice A409_2 ((rd_T38 l0 x5_1).f2).length c409_2) ∧ w21.cell? ⟨(ad409.add ((x5_1).toNat * 6)).block, (ad409.add ((x5_1).toNat * 6)).off + 3, none⟩ = some (.slice A409_3 ((rd_T38 l0 x5_1).f3).length c409_3) ∧ w21.cell? ⟨(ad409.add ((x5_1).toNat * 6)).block, (ad409.add ((x5_1).toNat * 6)).off + 4, none⟩ = some (.slice A409_4 ((rd_T38 l0 x5_1).f4).length c409_4) ∧ w21.cell? ⟨(ad409.add ((x5_1).toNat * 6)).block, (ad409.add ((x5_1).toNat * 6)).off + 5, none⟩ = some (.slice A409_5 ((rd_T38 l0 x5_1).f5).length c409_5) ∧ w21.cell? (ad411.add ((x5_1).toNat * 6)) = some (.int .u8 ((rd_T38 l1 x5_1).f0)) ∧ w21.cell? ⟨(ad411.add ((x5_1).toNat * 6)).block, (ad411.add ((x5_1).toNat * 6)).off + 1, none⟩ = some (.int .u16 ((rd_T38 l1 x5_1).f1)) ∧ w21.cell? ⟨(ad411.add ((x5_1).toNat * 6)).block, (ad411.add ((x5_1).toNat * 6)).off + 2, none⟩ = some (.slice A411_2 ((rd_T38 l1 x5_1).f2).length c411_2) ∧ w21.cell? ⟨(ad411.add ((x5_1).toNat * 6)).block, (ad411.add ((x5_1).toNat * 6)).off + 3, none⟩ = some (.slice A411_3 ((rd_T38 l1 x5_1).f3).length c411_3) ∧ w21.cell? ⟨(ad411.add ((x5_1).toNat * 6)).block, (ad411.add ((x5_1).toNat * 6)).off + 4, none⟩ = some (.slice A411_4 ((rd_T38 l1 x5_1).f4).length c411_4) ∧ w21.cell? ⟨(ad411.add ((x5_1).toNat * 6)).block, (ad411.add ((x5_1).toNat * 6)).off + 5, none⟩ = some (.slice A411_5 ((rd_T38 l1 x5_1).f5).length c411_5) ∧ w21.cell? (ad409.add ((x5_1).toNat * 6)) = some (.int .u8 ((rd_T38 l0 x5_1).f0)) ∧ w21.cell? ⟨(ad409.add ((x5_1).toNat * 6)).block, (ad409.add ((x5_1).toNat * 6)).off + 1, none⟩ = some (.int .u16 ((rd_T38 l0 x5_1).f1)) ∧ w21.cell? ⟨(ad409.add ((x5_1).toNat * 6)).block, (ad409.add ((x5_1).toNat * 6)).off + 2, none⟩ = some (.slice A409_2 ((rd_T38 l0 x5_1).f2).length c409_2) ∧ w21.cell? ⟨(ad409.add ((x5_1).toNat * 6)).block, (ad409.add ((x5_1).toNat * 6)).off + 3, none⟩ = some (.slice A409_3 ((rd_T38 l0 x5_1).f3).length c409_3) ∧ w21.cell? ⟨(ad409.add ((x5_1).toNat * 6)).block, (ad409.add ((x5_1).toNat * 6)).off + 4, none⟩ = some (.slice A409_4 ((rd_T38 l0 x5_1).f4).length c409_4) ∧ w21.cell? ⟨(ad409.add ((x5_1).toNat * 6)).block, (ad409.add ((x5_1).toNat * 6)).off + 5, none⟩ = some (.slice A409_5 ((rd_T38 l0 x5_1).f5).length c409_5) ∧ w21.cell? (ad411.add ((x5_1).toNat * 6)) = some (.int .u8 ((rd_T38 l1 x5_1).f0)) ∧ w21.cell? ⟨(ad411.add ((x5_1).toNat * 6)).block, (ad411.add ((x5_1).toNat * 6)).off + 1, none⟩ = some (.int .u16 ((rd_T38 l1 x5_1).f1)) ∧ w21.cell? ⟨(ad411.add ((x5_1).toNat * 6)).block, (ad411.add ((x5_1).toNat * 6)).off + 2, none⟩ = some (.slice A411_2 ((rd_T38 l1 x5_1).f2).length c411_2) ∧ w21.cell? ⟨(ad411.add ((x5_1).toNat * 6)).block, (ad411.add ((x5_1).toNat * 6)).off + 3, none⟩ = some (.slice A411_3 ((rd_T38 l1 x5_1).f3).length c411_3) ∧ w21.cell? ⟨(ad411.add ((x5_1).toNat * 6)).block, (ad411.add ((x5_1).toNat * 6)).off + 4, none⟩ = some (.slice A411_4 ((rd_T38 l1 x5_1).f4).length c411_4) ∧ w21.cell? ⟨(ad411.add ((x5_1).toNat * 6)).block, (ad411.add ((x5_1).toNat * 6)).off + 5, none⟩ = some (.slice A411_5 ((rd_T38 l1 x5_1).f5).length c411_5) := hS_
                    refine norm_ (a' := ?_) ?_ ?_
                    rotate_left
                    · simp only [putAll, Act.put, List.setIfInBounds_toArray, List.set_cons_zero, List.set_cons_succ]
                      rfl
                    refine pure_ (i := 27) (N := some 44) (v := ?_) (a' := ?_) #[true, true, true, true, true, true, true, true, true, true, true, true, true, true, true, true, true, true, true, true, true, true, true, true, true, true, true, true, false] rfl rfl (any_of HT_.out (by kernel_rfl)) (fun _ _ _ h => h) (Or.inl ⟨by rfl, ?_⟩) ?_ ?_
                    rotate_left
                    · intro w'
                      go_simp
                      with_reducible rfl
                    rotate_left
                    · simp only [Act.put, List.setIfInBounds_toArray, List.set_cons_zero, List.set_cons_succ, i64_w, i32_w]
                      rfl
                    refine pure_ (i := 28) (N := some 45) (v := ?_) (a' := ?_) #[true, true, true, true, true, true, true, true, true, true, true, true, true, true, true, true, true, true, true, true, true, true, true, true, true, true, true, true, true] rfl rfl (any_of HT_.out (by kernel_rfl)) (fun _ _ _ h => h) (Or.inl ⟨by rfl, ?_⟩) ?_ ?_
                    rotate_left
                    · intro w'
                      go_simp
                      with_reducible rfl
                    rotate_left
                    · simp only [Act.put, List.setIfInBounds_toArray, List.set_cons_zero, List.set_cons_succ, i64_w, i32_w]
                      rfl
                    refine done_ (done_of HT_.out (by kernel_rfl)) ?_
                    try go_wp2
                    go_roundg k1
                    case measure => have := HK1.out; omega
                    case rel => exact ⟨(wrap64 (x5_1 + 1)), (by first | rfl | (simp; done) | (simp [*]; done)), H', ⟨by have := HK1.out; omega⟩, ⟨zb⟩⟩
                  · rw [if_neg c13] at H
                    exact absurd H (by simp)
                · replace c10 := Bool.eq_false_iff.mpr c10
                  subst c10
                  have H1 : (none) = some r := by rw [if_neg (show ¬ (false = true) by decide)] at H; exact H
                  clear H
                  have H := H1
                  clear H1
                  exact absurd H (by simp)
              · rw [if_neg c8] at H
                exact absurd H (by simp)
            · replace c7 := Bool.eq_false_iff.mpr c7
              subst c7
              have H1 : (none) = some r := by rw [if_neg (show ¬ (false = true) by decide)] at H; exact H
              clear H
              have H := H1
              clear H1
              exact absurd H (by simp)
          · rw [if_neg c5] at H
            exact absurd H (by simp)
        · rw [if_neg c4] at H
          have c4b0 : decide (x5_1 < (l0.length : Int)) = false := decide_eq_false c4
          clear c4
          obtain rfl := Option.some.inj H
          go_wp2
          go_ret
          exact ⟨by first | rfl | (simp [errW_none, errW_some] <;> rfl) | (simp [*, errW_none, errW_some] <;> rfl), zb⟩
  · rw [if_neg c3] at H
    exact absurd H (by simp)

end Go.Proofs.Ytjbpdmkalegacaa.PClassBack
