/- Of ClassFresh's texts: what the law uses. -/
import Derived.Test.YtjbpdmkalegacaaVPClassFreshx0
import Derived.Test.YtjbpdmkalegacaaVPClassFreshx4
import Derived.Test.YtjbpdmkalegacaaVPClassFreshx5
import Derived.Test.YtjbpdmkalegacaaVPClassFreshx7
import Derived.Test.YtjbpdmkalegacaaVPClassFreshx9
import Derived.Test.YtjbpdmkalegacaaVPClassFreshx11
namespace Go.Proofs.Ytjbpdmkalegacaa.PClassFresh
open Go.RowKit Go.Proofs.YtjbpdmkalegacaaW.PrintWords Go.Proofs.YtjbpdmkalegacaaW.PrintLast Go.Proofs.YtjbpdmkalegacaaW.PrintMore Go.Proofs.YtjbpdmkalegacaaW.Mine
attribute [local go_sem] Go.Proofs.YtjbpdmkalegacaaW.Mine.isSome_set max2_int min2_int max_two min_two max_three min_three max_four min_four   -- for this text's walks alone
set_option linter.unusedVariables false
set_option linter.unusedSimpArgs false
def garderoberef08_Same.l0 : Nat → List (S38) → List (S38) → Int → Option (Bool)
  | 0, _, _, _ => none
  | k + 1, x0, x1, x5 => if x5 < (x0.length : Int) then (if 0 ≤ x5 then ((garderoberef08_May.f k ((rd_T38 x0 x5).f0) ((rd_T38 x0 x5).f1) ((rd_T38 x0 x5).f2) ((rd_T38 x0 x5).f3) ((rd_T38 x0 x5).f4) ((rd_T38 x0 x5).f5)).bind fun t488 => (if t488 = true then (if x5 < (x1.length : Int) then ((garderoberef08_May.f k ((rd_T38 x1 x5).f0) ((rd_T38 x1 x5).f1) ((rd_T38 x1 x5).f2) ((rd_T38 x1 x5).f3) ((rd_T38 x1 x5).f4) ((rd_T38 x1 x5).f5)).bind fun t490 => (if t490 = true then ((garderoberef08_bytes.f k ((rd_T38 x0 x5).f0) ((rd_T38 x0 x5).f1) ((rd_T38 x0 x5).f2) ((rd_T38 x0 x5).f3) ((rd_T38 x0 x5).f4) ((rd_T38 x0 x5).f5)).bind fun t492 => ((garderoberef08_bytes.f k ((rd_T38 x1 x5).f0) ((rd_T38 x1 x5).f1) ((rd_T38 x1 x5).f2) ((rd_T38 x1 x5).f3) ((rd_T38 x1 x5).f4) ((rd_T38 x1 x5).f5)).bind fun t496 => (if (strOfNums t492).toList = (strOfNums t496).toList then (garderoberef08_Same.l0 k x0 x1 (wrap64 (x5 + 1))) else (none)))) else (none))) else (none)) else (none))) else (none)) else (some true)
def garderoberef08_Same.f (k : Nat) (l0 : List (S38)) (l1 : List (S38)) : Option (Bool) := if (l0.length : Int) = (l1.length : Int) then (garderoberef08_Same.l0 k l0 l1 0) else (none)
def garderoberef08_Same.T6 : Bool × List (List Nat × List Nat) := (true, [([], []), ([], []), ([0, 1], [0, 1]), ([2], [2]), ([3], [3]), ([4], [4]), ([5, 4], [5]), ([6], [6]), ([6], [6]), ([7, 8, 6], [6, 7, 8]), ([9, 6], [6, 9]), ([10, 6, 6], [6, 10]), ([11, 6], [6, 11]), ([6, 12], [6, 12]), ([13, 11], [13]), ([14], [14]), ([14], [14]), ([15, 16, 14], [14, 15, 16]), ([17, 14], [14, 17]), ([18, 14, 14], [14, 18]), ([19, 14], [14, 19]), ([14], [14]), ([14], [14]), ([21, 22, 14], [14, 21, 22]), ([23, 14], [14, 23]), ([24, 19, 14], [14, 24]), ([25, 14], [14, 25]), ([20, 26, 14], [14, 20, 26]), ([14, 27], [14, 27])])
def garderoberef08_Same.B6 : List Nat := [0, 0, 3, 7, 15, 31, 63, 127, 127, 511, 1023, 2047, 4095, 8191, 16383, 32767, 32767, 131071, 262143, 524287, 1048575, 32767, 32767, 6324223, 14712831, 32505855, 66060287, 134217727, 268435455]
theorem garderoberef08_Same.tab6 : rtab .any (opsOf Try.f14 6) = garderoberef08_Same.T6 := by kernel_rfl
theorem garderoberef08_Same.bits6 : waitsOk garderoberef08_Same.T6.2 garderoberef08_Same.B6 = true := by kernel_rfl
set_option maxHeartbeats 8000000 in
set_option maxRecDepth 100000 in
theorem garderoberef08_Same.calls (k : Nat) (A0 : Option Addr) (c0 : Nat) (l0 : List (S38)) (A1 : Option Addr) (c1 : Nat) (l1 : List (S38)) (r : Bool) (w : World) (hr0 : Kd.C k38 w A0 l0.length l0) (hc0 : l0.length ≤ c0) (hr1 : Kd.C k38 w A1 l1.length l1) (hc1 : l1.length ≤ c1) (h : garderoberef08_Same.f k l0 l1 = some r) :
    Calls Try.prog 14 #[.slice A0 l0.length c0, .slice A1 l1.length c1] w fun e w' => e = .returned (.bool r) ∧ Below w.heap.size w w' := by
  have hu38 := Try.underlying38
  have HR0 := Aside0.mk hr0
  have HC0 := Aside0.mk hc0
  clear hr0 hc0
  have HR1 := Aside0.mk hr1
  have HC1 := Aside0.mk hc1
  clear hr1 hc1
  have HB := Aside0.mk (Below.refl w.heap.size w)
  have H : (if (l0.length : Int) = (l1.length : Int) then (garderoberef08_Same.l0 k l0 l1 0) else (none)) = some r := h
  clear h
  by_cases c3 : (l0.length : Int) = (l1.length : Int)
  · rw [if_pos c3] at H
    have c3b0 : ((l0.length : Int) == (l1.length : Int)) = true := beq_iff_eq.mpr c3
    have c3b1 : ((l0.length : Int) != (l1.length : Int)) = false := bne_eq_false_iff_eq.mpr c3
    have c3b2 : (l0.length == l1.length) = true := by first | simpa using c3 | (simp at c3 ⊢; omega)
    clear c3
    have H' := Aside0.mk H
    clear H
    go_enter Try.func14, Try.ntmps14
    go_wp2
    go_loopg [5] k (fun kq v5 w' => ∃ (x5_1 : Int), v5 = .int .i64 x5_1 ∧ Aside0 (garderoberef08_Same.l0 kq l0 l1 x5_1 = some r) ∧ Aside0 (kq ≤ k) ∧ Aside0 (Below w.heap.size w w'))
    case atStart => exact ⟨(0), zs, H', ⟨Nat.le_refl _⟩, ⟨zb⟩⟩
    case round =>
      clear H'
      try clear c1
      try clear p2
      try clear c3
      try clear c3b0
      try clear c3b1
      try clear c3b2
      obtain ⟨x5_1, rfl, HA, HK1, HB⟩ := hrel
      cases gk with
      | zero => exact absurd HA.out (by simp [garderoberef08_Same.l0])
      | succ k1 =>
        have H := HA.out
        clear HA
        simp only [garderoberef08_Same.l0] at H
        by_cases c4 : x5_1 < (l0.length : Int)
        · rw [if_pos c4] at H
          have c4b0 : decide (x5_1 < (l0.length : Int)) = true := decide_eq_true c4
          clear c4
          by_cases c5 : 0 ≤ x5_1
          · rw [if_pos c5] at H
            have c5b0 : decide (0 ≤ x5_1) = true := decide_eq_true c5
            clear c5
            replace H := Option.bind_eq_some_iff.mp H
            obtain ⟨t488, A60, H⟩ := H
            replace H : (if t488 = true then (if x5_1 < (l1.length : Int) then ((garderoberef08_May.f k1 ((rd_T38 l1 x5_1).f0) ((rd_T38 l1 x5_1).f1) ((rd_T38 l1 x5_1).f2) ((rd_T38 l1 x5_1).f3) ((rd_T38 l1 x5_1).f4) ((rd_T38 l1 x5_1).f5)).bind fun t490 => (if t490 = true then ((garderoberef08_bytes.f k1 ((rd_T38 l0 x5_1).f0) ((rd_T38 l0 x5_1).f1) ((rd_T38 l0 x5_1).f2) ((rd_T38 l0 x5_1).f3) ((rd_T38 l0 x5_1).f4) ((rd_T38 l0 x5_1).f5)).bind fun t492 => ((garderoberef08_bytes.f k1 ((rd_T38 l1 x5_1).f0) ((rd_T38 l1 x5_1).f1) ((rd_T38 l1 x5_1).f2) ((rd_T38 l1 x5_1).f3) ((rd_T38 l1 x5_1).f4) ((rd_T38 l1 x5_1).f5)).bind fun t496 => (if (strOfNums t492).toList = (strOfNums t496).toList then (garderoberef08_Same.l0 k1 l0 l1 (wrap64 (x5_1 + 1))) else (none)))) else (none))) else (none)) else (none)) = some r := H
            have A6 := Aside0.mk A60
            clear A60
            by_cases c7 : t488 = true
            · subst c7
              have H1 : (if x5_1 < (l1.length : Int) then ((garderoberef08_May.f k1 ((rd_T38 l1 x5_1).f0) ((rd_T38 l1 x5_1).f1) ((rd_T38 l1 x5_1).f2) ((rd_T38 l1 x5_1).f3) ((rd_T38 l1 x5_1).f4) ((rd_T38 l1 x5_1).f5)).bind fun t490 => (if t490 = true then ((garderoberef08_bytes.f k1 ((rd_T38 l0 x5_1).f0) ((rd_T38 l0 x5_1).f1) ((rd_T38 l0 x5_1).f2) ((rd_T38 l0 x5_1).f3) ((rd_T38 l0 x5_1).f4) ((rd_T38 l0 x5_1).f5)).bind fun t492 => ((garderoberef08_bytes.f k1 ((rd_T38 l1 x5_1).f0) ((rd_T38 l1 x5_1).f1) ((rd_T38 l1 x5_1).f2) ((rd_T38 l1 x5_1).f3) ((rd_T38 l1 x5_1).f4) ((rd_T38 l1 x5_1).f5)).bind fun t496 => (if (strOfNums t492).toList = (strOfNums t496).toList then (garderoberef08_Same.l0 k1 l0 l1 (wrap64 (x5_1 + 1))) else (none)))) else (none))) else (none)) = some r := by rw [if_pos rfl] at H; exact H
              clear H
              have H := H1
              clear H1
              by_cases c8 : x5_1 < (l1.length : Int)
              · rw [if_pos c8] at H
                have c8b0 : decide (x5_1 < (l1.length : Int)) = true := decide_eq_true c8
                clear c8
                replace H := Option.bind_eq_some_iff.mp H
                obtain ⟨t490, A90, H⟩ := H
                replace H : (if t490 = true then ((garderoberef08_bytes.f k1 ((rd_T38 l0 x5_1).f0) ((rd_T38 l0 x5_1).f1) ((rd_T38 l0 x5_1).f2) ((rd_T38 l0 x5_1).f3) ((rd_T38 l0 x5_1).f4) ((rd_T38 l0 x5_1).f5)).bind fun t492 => ((garderoberef08_bytes.f k1 ((rd_T38 l1 x5_1).f0) ((rd_T38 l1 x5_1).f1) ((rd_T38 l1 x5_1).f2) ((rd_T38 l1 x5_1).f3) ((rd_T38 l1 x5_1).f4) ((rd_T38 l1 x5_1).f5)).bind fun t496 => (if (strOfNums t492).toList = (strOfNums t496).toList then (garderoberef08_Same.l0 k1 l0 l1 (wrap64 (x5_1 + 1))) else (none)))) else (none)) = some r := H
                have A9 := Aside0.mk A90
                clear A90
                by_cases c10 : t490 = true
                · subst c10
                  have H1 : ((garderoberef08_bytes.f k1 ((rd_T38 l0 x5_1).f0) ((rd_T38 l0 x5_1).f1) ((rd_T38 l0 x5_1).f2) ((rd_T38 l0 x5_1).f3) ((rd_T38 l0 x5_1).f4) ((rd_T38 l0 x5_1).f5)).bind fun t492 => ((garderoberef08_bytes.f k1 ((rd_T38 l1 x5_1).f0) ((rd_T38 l1 x5_1).f1) ((rd_T38 l1 x5_1).f2) ((rd_T38 l1 x5_1).f3) ((rd_T38 l1 x5_1).f4) ((rd_T38 l1 x5_1).f5)).bind fun t496 => (if (strOfNums t492).toList = (strOfNums t496).toList then (garderoberef08_Same.l0 k1 l0 l1 (wrap64 (x5_1 + 1))) else (none)))) = some r := by rw [if_pos rfl] at H; exact H
                  clear H
                  have H := H1
                  clear H1
                  replace H := Option.bind_eq_some_iff.mp H
                  obtain ⟨t492, A110, H⟩ := H
                  replace H : ((garderoberef08_bytes.f k1 ((rd_T38 l1 x5_1).f0) ((rd_T38 l1 x5_1).f1) ((rd_T38 l1 x5_1).f2) ((rd_T38 l1 x5_1).f3) ((rd_T38 l1 x5_1).f4) ((rd_T38 l1 x5_1).f5)).bind fun t496 => (if (strOfNums t492).toList = (strOfNums t496).toList then (garderoberef08_Same.l0 k1 l0 l1 (wrap64 (x5_1 + 1))) else (none))) = some r := H
                  have A11 := Aside0.mk A110
                  clear A110
                  replace H := Option.bind_eq_some_iff.mp H
                  obtain ⟨t496, A120, H⟩ := H
                  replace H : (if (strOfNums t492).toList = (strOfNums t496).toList then (garderoberef08_Same.l0 k1 l0 l1 (wrap64 (x5_1 + 1))) else (none)) = some r := H
                  have A12 := Aside0.mk A120
                  clear A120
                  by_cases c13 : (strOfNums t492).toList = (strOfNums t496).toList
                  · rw [if_pos c13] at H
                    have c13b0 : ((strOfNums t492).toList == (strOfNums t496).toList) = true := beq_iff_eq.mpr c13
                    have c13b1 : ((strOfNums t492).toList != (strOfNums t496).toList) = false := bne_eq_false_iff_eq.mpr c13
                    clear c13
                    have H' := Aside0.mk H
                    clear H
                    try go_wp2
                    have n0_ := Aside0.mk (below_drew1 HB.out)
                    clear HB
                    have HB := n0_
                    clear n0_
                    have p487 : 0 ≤ (x5_1 : Int) := of_decide_eq_true (by first | (with_reducible assumption) | assumption)
                    have q487 : x5_1 < (l0.length : Int) := of_decide_eq_true (by first | (with_reducible assumption) | assumption)
                    obtain ⟨ad487, A487_2, c487_2, A487_3, c487_3, A487_4, c487_4, A487_5, c487_5, e487, hx487_0, hx487_1, hx487_2, hx487_3, hx487_4, hx487_5, hl487_2, hi487_2, hl487_3, hi487_3, hl487_4, hi487_4, hl487_5, hi487_5⟩ := at_T38 HR0.out x5_1 p487 q487
                    have hw487_5 := hx487_5
                    have hw487_4 := hx487_4
                    have hw487_3 := hx487_3
                    have hw487_2 := hx487_2
                    have hw487_1 := hx487_1
                    have hw487_0 := hx487_0
                    cases e487
                    replace hx487_0 := (HB.out.cell (World.block_lt_of_cell? w _ hx487_0)).trans hx487_0
                    replace hx487_1 := (HB.out.cell (World.block_lt_of_cell? w _ hx487_1)).trans hx487_1
                    replace hx487_2 := (HB.out.cell (World.block_lt_of_cell? w _ hx487_2)).trans hx487_2
                    replace hx487_3 := (HB.out.cell (World.block_lt_of_cell? w _ hx487_3)).trans hx487_3
                    replace hx487_4 := (HB.out.cell (World.block_lt_of_cell? w _ hx487_4)).trans hx487_4
                    replace hx487_5 := (HB.out.cell (World.block_lt_of_cell? w _ hx487_5)).trans hx487_5
                    have HR487_2 := Aside0.mk hi487_2
                    have HC487_2 := Aside0.mk hl487_2
                    clear hi487_2 hl487_2
                    have HR487_3 := Aside0.mk hi487_3
                    have HC487_3 := Aside0.mk hl487_3
                    clear hi487_3 hl487_3
                    have HR487_4 := Aside0.mk hi487_4
                    have HC487_4 := Aside0.mk hl487_4
                    clear hi487_4 hl487_4
                    have HR487_5 := Aside0.mk hi487_5
                    have HC487_5 := Aside0.mk hl487_5
                    clear hi487_5 hl487_5
                    replace p487 := eq_true p487
                    replace q487 := eq_true q487
                    have p489 : 0 ≤ (x5_1 : Int) := of_decide_eq_true (by first | (with_reducible assumption) | assumption)
                    have q489 : x5_1 < (l1.length : Int) := of_decide_eq_true (by first | (with_reducible assumption) | assumption)
                    obtain ⟨ad489, A489_2, c489_2, A489_3, c489_3, A489_4, c489_4, A489_5, c489_5, e489, hx489_0, hx489_1, hx489_2, hx489_3, hx489_4, hx489_5, hl489_2, hi489_2, hl489_3, hi489_3, hl489_4, hi489_4, hl489_5, hi489_5⟩ := at_T38 HR1.out x5_1 p489 q489
                    have hw489_5 := hx489_5
                    have hw489_4 := hx489_4
                    have hw489_3 := hx489_3
                    have hw489_2 := hx489_2
                    have hw489_1 := hx489_1
                    have hw489_0 := hx489_0
                    cases e489
                    replace hx489_0 := (HB.out.cell (World.block_lt_of_cell? w _ hx489_0)).trans hx489_0
                    replace hx489_1 := (HB.out.cell (World.block_lt_of_cell? w _ hx489_1)).trans hx489_1
                    replace hx489_2 := (HB.out.cell (World.block_lt_of_cell? w _ hx489_2)).trans hx489_2
                    replace hx489_3 := (HB.out.cell (World.block_lt_of_cell? w _ hx489_3)).trans hx489_3
                    replace hx489_4 := (HB.out.cell (World.block_lt_of_cell? w _ hx489_4)).trans hx489_4
                    replace hx489_5 := (HB.out.cell (World.block_lt_of_cell? w _ hx489_5)).trans hx489_5
                    have HR489_2 := Aside0.mk hi489_2
                    have HC489_2 := Aside0.mk hl489_2
                    clear hi489_2 hl489_2
                    have HR489_3 := Aside0.mk hi489_3
                    have HC489_3 := Aside0.mk hl489_3
                    clear hi489_3 hl489_3
                    have HR489_4 := Aside0.mk hi489_4
                    have HC489_4 := Aside0.mk hl489_4
                    clear hi489_4 hl489_4
                    have HR489_5 := Aside0.mk hi489_5
                    have HC489_5 := Aside0.mk hl489_5
                    clear hi489_5 hl489_5
                    replace p489 := eq_true p489
                    replace q489 := eq_true q489
                    have p491 : 0 ≤ (x5_1 : Int) := of_decide_eq_true (by first | (with_reducible assumption) | assumption)
                    have q491 : x5_1 < (l0.length : Int) := of_decide_eq_true (by first | (with_reducible assumption) | assumption)
                    obtain ⟨ad491, A491_2, c491_2, A491_3, c491_3, A491_4, c491_4, A491_5, c491_5, e491, hx491_0, hx491_1, hx491_2, hx491_3, hx491_4, hx491_5, hl491_2, hi491_2, hl491_3, hi491_3, hl491_4, hi491_4, hl491_5, hi491_5⟩ := at_T38 HR0.out x5_1 p491 q491
                    have hw491_5 := hx491_5
                    have hw491_4 := hx491_4
                    have hw491_3 := hx491_3
                    have hw491_2 := hx491_2
                    have hw491_1 := hx491_1
                    have hw491_0 := hx491_0
                    obtain rfl : ad487 = ad491 := (by injection e491)
                    obtain ⟨rfl, rfl⟩ : A487_2 = A491_2 ∧ c487_2 = c491_2 := by
                      have h_ := hw487_2.symm.trans hw491_2
                      simp only [Option.some.injEq, Value.slice.injEq] at h_
                      exact ⟨h_.1, h_.2.2⟩
                    obtain ⟨rfl, rfl⟩ : A487_3 = A491_3 ∧ c487_3 = c491_3 := by
                      have h_ := hw487_3.symm.trans hw491_3
                      simp only [Option.some.injEq, Value.slice.injEq] at h_
                      exact ⟨h_.1, h_.2.2⟩
                    obtain ⟨rfl, rfl⟩ : A487_4 = A491_4 ∧ c487_4 = c491_4 := by
                      have h_ := hw487_4.symm.trans hw491_4
                      simp only [Option.some.injEq, Value.slice.injEq] at h_
                      exact ⟨h_.1, h_.2.2⟩
                    obtain ⟨rfl, rfl⟩ : A487_5 = A491_5 ∧ c487_5 = c491_5 := by
                      have h_ := hw487_5.symm.trans hw491_5
                      simp only [Option.some.injEq, Value.slice.injEq] at h_
                      exact ⟨h_.1, h_.2.2⟩
                    replace hx491_0 := (HB.out.cell (World.block_lt_of_cell? w _ hx491_0)).trans hx491_0
                    replace hx491_1 := (HB.out.cell (World.block_lt_of_cell? w _ hx491_1)).trans hx491_1
                    replace hx491_2 := (HB.out.cell (World.block_lt_of_cell? w _ hx491_2)).trans hx491_2
                    replace hx491_3 := (HB.out.cell (World.block_lt_of_cell? w _ hx491_3)).trans hx491_3
                    replace hx491_4 := (HB.out.cell (World.block_lt_of_cell? w _ hx491_4)).trans hx491_4
                    replace hx491_5 := (HB.out.cell (World.block_lt_of_cell? w _ hx491_5)).trans hx491_5
                    have HR491_2 := Aside0.mk hi491_2
                    have HC491_2 := Aside0.mk hl491_2
                    clear hi491_2 hl491_2
                    have HR491_3 := Aside0.mk hi491_3
                    have HC491_3 := Aside0.mk hl491_3
                    clear hi491_3 hl491_3
                    have HR491_4 := Aside0.mk hi491_4
                    have HC491_4 := Aside0.mk hl491_4
                    clear hi491_4 hl491_4
                    have HR491_5 := Aside0.mk hi491_5
                    have HC491_5 := Aside0.mk hl491_5
                    clear hi491_5 hl491_5
                    replace p491 := eq_true p491
                    replace q491 := eq_true q491
                    have p495 : 0 ≤ (x5_1 : Int) := of_decide_eq_true (by first | (with_reducible assumption) | assumption)
                    have q495 : x5_1 < (l1.length : Int) := of_decide_eq_true (by first | (with_reducible assumption) | assumption)
                    obtain ⟨ad495, A495_2, c495_2, A495_3, c495_3, A495_4, c495_4, A495_5, c495_5, e495, hx495_0, hx495_1, hx495_2, hx495_3, hx495_4, hx495_5, hl495_2, hi495_2, hl495_3, hi495_3, hl495_4, hi495_4, hl495_5, hi495_5⟩ := at_T38 HR1.out x5_1 p495 q495
                    have hw495_5 := hx495_5
                    have hw495_4 := hx495_4
                    have hw495_3 := hx495_3
                    have hw495_2 := hx495_2
                    have hw495_1 := hx495_1
                    have hw495_0 := hx495_0
                    obtain rfl : ad489 = ad495 := (by injection e495)
                    obtain ⟨rfl, rfl⟩ : A489_2 = A495_2 ∧ c489_2 = c495_2 := by
                      have h_ := hw489_2.symm.trans hw495_2
                      simp only [Option.some.injEq, Value.slice.injEq] at h_
                      exact ⟨h_.1, h_.2.2⟩
                    obtain ⟨rfl, rfl⟩ : A489_3 = A495_3 ∧ c489_3 = c495_3 := by
                      have h_ := hw489_3.symm.trans hw495_3
                      simp only [Option.some.injEq, Value.slice.injEq] at h_
                      exact ⟨h_.1, h_.2.2⟩
                    obtain ⟨rfl, rfl⟩ : A489_4 = A495_4 ∧ c489_4 = c495_4 := by
                      have h_ := hw489_4.symm.trans hw495_4
                      simp only [Option.some.injEq, Value.slice.injEq] at h_
                      exact ⟨h_.1, h_.2.2⟩
                    obtain ⟨rfl, rfl⟩ : A489_5 = A495_5 ∧ c489_5 = c495_5 := by
                      have h_ := hw489_5.symm.trans hw495_5
                      simp only [Option.some.injEq, Value.slice.injEq] at h_
                      exact ⟨h_.1, h_.2.2⟩
                    replace hx495_0 := (HB.out.cell (World.block_lt_of_cell? w _ hx495_0)).trans hx495_0
                    replace hx495_1 := (HB.out.cell (World.block_lt_of_cell? w _ hx495_1)).trans hx495_1
                    replace hx495_2 := (HB.out.cell (World.block_lt_of_cell? w _ hx495_2)).trans hx495_2
                    replace hx495_3 := (HB.out.cell (World.block_lt_of_cell? w _ hx495_3)).trans hx495_3
                    replace hx495_4 := (HB.out.cell (World.block_lt_of_cell? w _ hx495_4)).trans hx495_4
                    replace hx495_5 := (HB.out.cell (World.block_lt_of_cell? w _ hx495_5)).trans hx495_5
                    have HR495_2 := Aside0.mk hi495_2
                    have HC495_2 := Aside0.mk hl495_2
                    clear hi495_2 hl495_2
                    have HR495_3 := Aside0.mk hi495_3
                    have HC495_3 := Aside0.mk hl495_3
                    clear hi495_3 hl495_3
                    have HR495_4 := Aside0.mk hi495_4
                    have HC495_4 := Aside0.mk hl495_4
                    clear hi495_4 hl495_4
                    have HR495_5 := Aside0.mk hi495_5
                    have HC495_5 := Aside0.mk hl495_5
                    clear hi495_5 hl495_5
                    replace p495 := eq_true p495
                    replace q495 := eq_true q495
                    refine start_ (n := 29) (S := fun w' => w'.cell? (ad487.add ((x5_1).toNat * 6)) = some (.int .u8 ((rd_T38 l0 x5_1).f0)) ∧ w'.cell? ⟨(ad487.add ((x5_1).toNat * 6)).block, (ad487.add ((x5_1).toNat * 6)).off + 1, none⟩ = some (.int .u16 ((rd_T38 l0 x5_1).f1)) ∧ w'.cell? ⟨(ad487.add ((x5_1).toNat * 6)).block, (ad487.add ((x5_1).toNat * 6)).off + 2, none⟩ = some (.slice A487_2 ((rd_T38 l0 x5_1).f2).length c487_2) ∧ w'.cell? ⟨(ad487.add ((x5_1).toNat * 6)).block, (ad487.add ((x5_1).toNat * 6)).off + 3, none⟩ = some (.slice A487_3 ((rd_T38 l0 x5_1).f3).length c487_3) ∧ w'.cell? ⟨(ad487.add ((x5_1).toNat * 6)).block, (ad487.add ((x5_1).toNat * 6)).off + 4, none⟩ = some (.slice A487_4 ((rd_T38 l0 x5_1).f4).length c487_4) ∧ w'.cell? ⟨(ad487.add ((x5_1).toNat * 6)).block, (ad487.add ((x5_1).toNat * 6)).off + 5, none⟩ = some (.slice A487_5 ((rd_T38 l0 x5_1).f5).length c487_5) ∧ w'.cell? (ad489.add ((x5_1).toNat * 6)) = some (.int .u8 ((rd_T38 l1 x5_1).f0)) ∧ w'.cell? ⟨(ad489.add ((x5_1).toNat * 6)).block, (ad489.add ((x5_1).toNat * 6)).off + 1, none⟩ = some (.int .u16 ((rd_T38 l1 x5_1).f1)) ∧ w'.cell? ⟨(ad489.add ((x5_1).toNat * 6)).block, (ad489.add ((x5_1).toNat * 6)).off + 2, none⟩ = some (.slice A489_2 ((rd_T38 l1 x5_1).f2).length c489_2) ∧ w'.cell? ⟨(ad489.add ((x5_1).toNat * 6)).block, (ad489.add ((x5_1).toNat * 6)).off + 3, none⟩ = some (.slice A489_3 ((rd_T38 l1 x5_1).f3).length c489_3) ∧ w'.cell? ⟨(ad489.add ((x5_1).toNat * 6)).block, (ad489.add ((x5_1).toNat * 6)).off + 4, none⟩ = some (.slice A489_4 ((rd_T38 l1 x5_1).f4).length c489_4) ∧ w'.cell? ⟨(ad489.add ((x5_1).toNat * 6)).block, (ad489.add ((x5_1).toNat * 6)).off + 5, none⟩ = some (.slice A489_5 ((rd_T38 l1 x5_1).f5).length c489_5) ∧ w'.cell? (ad487.add ((x5_1).toNat * 6)) = some (.int .u8 ((rd_T38 l0 x5_1).f0)) ∧ w'.cell? ⟨(ad487.add ((x5_1).toNat * 6)).block, (ad487.add ((x5_1).toNat * 6)).off + 1, none⟩ = some (.int .u16 ((rd_T38 l0 x5_1).f1)) ∧ w'.cell? ⟨(ad487.add ((x5_1).toNat * 6)).block, (ad487.add ((x5_1).toNat * 6)).off + 2, none⟩ = some (.slice A487_2 ((rd_T38 l0 x5_1).f2).length c487_2) ∧ w'.cell? ⟨(ad487.add ((x5_1).toNat * 6)).block, (ad487.add ((x5_1).toNat * 6)).off + 3, none⟩ = some (.slice A487_3 ((rd_T38 l0 x5_1).f3).length c487_3) ∧ w'.cell? ⟨(ad487.add ((x5_1).toNat * 6)).block, (ad487.add ((x5_1).toNat * 6)).off + 4, none⟩ = some (.slice A487_4 ((rd_T38 l0 x5_1).f4).length c487_4) ∧ w'.cell? ⟨(ad487.add ((x5_1).toNat * 6)).block, (ad487.add ((x5_1).toNat * 6)).off + 5, none⟩ = some (.slice A487_5 ((rd_T38 l0 x5_1).f5).length c487_5) ∧ w'.cell? (ad489.add ((x5_1).toNat * 6)) = some (.int .u8 ((rd_T38 l1 x5_1).f0)) ∧ w'.cell? ⟨(ad489.add ((x5_1).toNat * 6)).block, (ad489.add ((x5_1).toNat * 6)).off + 1, none⟩ = some (.int .u16 ((rd_T38 l1 x5_1).f1)) ∧ w'.cell? ⟨(ad489.add ((x5_1).toNat * 6)).block, (ad489.add ((x5_1).toNat * 6)).off + 2, none⟩ = some (.slice A489_2 ((rd_T38 l1 x5_1).f2).length c489_2) ∧ w'.cell? ⟨(ad489.add ((x5_1).toNat * 6)).block, (ad489.add ((x5_1).toNat * 6)).off + 3, none⟩ = some (.slice A489_3 ((rd_T38 l1 x5_1).f3).length c489_3) ∧ w'.cell? ⟨(ad489.add ((x5_1).toNat * 6)).block, (ad489.add ((x5_1).toNat * 6)).off + 4, none⟩ = some (.slice A489_4 ((rd_T38 l1 x5_1).f4).length c489_4) ∧ w'.cell? ⟨(ad489.add ((x5_1).toNat * 6)).block, (ad489.add ((x5_1).toNat * 6)).off + 5, none⟩ = some (.slice A489_5 ((rd_T38 l1 x5_1).f5).length c489_5)) (ds := []) #[false, false, false, false, false, false, false, false, false, false, false, false, false, false, false, false, false, false, false, false, false, false, false, false, false, false, false, false, false] (by kernel_rfl) rfl rfl ⟨((HB.out.cell (World.block_lt_of_cell? w _ hw487_0)).trans hw487_0), ((HB.out.cell (World.block_lt_of_cell? w _ hw487_1)).trans hw487_1), ((HB.out.cell (World.block_lt_of_cell? w _ hw487_2)).trans hw487_2), ((HB.out.cell (World.block_lt_of_cell? w _ hw487_3)).trans hw487_3), ((HB.out.cell (World.block_lt_of_cell? w _ hw487_4)).trans hw487_4), ((HB.out.cell (World.block_lt_of_cell? w _ hw487_5)).trans hw487_5), ((HB.out.cell (World.block_lt_of_cell? w _ hw489_0)).trans hw489_0), ((HB.out.cell (World.block_lt_of_cell? w _ hw489_1)).trans hw489_1), ((HB.out.cell (World.block_lt_of_cell? w _ hw489_2)).trans hw489_2), ((HB.out.cell (World.block_lt_of_cell? w _ hw489_3)).trans hw489_3), ((HB.out.cell (World.block_lt_of_cell? w _ hw489_4)).trans hw489_4), ((HB.out.cell (World.block_lt_of_cell? w _ hw489_5)).trans hw489_5), ((HB.out.cell (World.block_lt_of_cell? w _ hw491_0)).trans hw491_0), ((HB.out.cell (World.block_lt_of_cell? w _ hw491_1)).trans hw491_1), ((HB.out.cell (World.block_lt_of_cell? w _ hw491_2)).trans hw491_2), ((HB.out.cell (World.block_lt_of_cell? w _ hw491_3)).trans hw491_3), ((HB.out.cell (World.block_lt_of_cell? w _ hw491_4)).trans hw491_4), ((HB.out.cell (World.block_lt_of_cell? w _ hw491_5)).trans hw491_5), ((HB.out.cell (World.block_lt_of_cell? w _ hw495_0)).trans hw495_0), ((HB.out.cell (World.block_lt_of_cell? w _ hw495_1)).trans hw495_1), ((HB.out.cell (World.block_lt_of_cell? w _ hw495_2)).trans hw495_2), ((HB.out.cell (World.block_lt_of_cell? w _ hw495_3)).trans hw495_3), ((HB.out.cell (World.block_lt_of_cell? w _ hw495_4)).trans hw495_4), ((HB.out.cell (World.block_lt_of_cell? w _ hw495_5)).trans hw495_5)⟩ (fun hHeld => ?_); refine with_tabW garderoberef08_Same.tab6 garderoberef08_Same.bits6 (fun HT_ HW_ => ?_)
                    generalize wr.drew = w14 at HB HR487_2 HR487_3 HR487_4 HR487_5 HR489_2 HR489_3 HR489_4 HR489_5 HR491_2 HR491_3 HR491_4 HR491_5 HR495_2 HR495_3 HR495_4 HR495_5 hx487_0 hx487_1 hx487_2 hx487_3 hx487_4 hx487_5 hx489_0 hx489_1 hx489_2 hx489_3 hx489_4 hx489_5 hx491_0 hx491_1 hx491_2 hx491_3 hx491_4 hx491_5 hx495_0 hx495_1 hx495_2 hx495_3 hx495_4 hx495_5 hHeld ⊢
                    refine pure_ (i := 0) (N := some 17) (v := ?_) (a' := ?_) #[true, false, false, false, false, false, false, false, false, false, false, false, false, false, false, false, false, false, false, false, false, false, false, false, false, false, false, false, false] rfl rfl (any_of HT_.out (by kernel_rfl)) (fun _ _ _ h => h) (Or.inl ⟨by rfl, ?_⟩) ?_ ?_
                    rotate_left
                    · intro w'
                      go_simp
                      with_reducible rfl
                    rotate_left
                    · simp only [Act.put, List.setIfInBounds_toArray, List.set_cons_zero, List.set_cons_succ, i64_w, i32_w]
                      rfl
                    refine pure_ (i := 1) (N := some 18) (v := ?_) (a' := ?_) #[true, true, false, false, false, false, false, false, false, false, false, false, false, false, false, false, false, false, false, false, false, false, false, false, false, false, false, false, false] rfl rfl (any_of HT_.out (by kernel_rfl)) (fun _ _ _ h => h) (Or.inl ⟨by rfl, ?_⟩) ?_ ?_
                    rotate_left
                    · intro w'
                      go_simp
                      with_reducible rfl
                    rotate_left
                    · simp only [Act.put, List.setIfInBounds_toArray, List.set_cons_zero, List.set_cons_succ, i64_w, i32_w]
                      rfl
                    refine pure_ (i := 2) (N := some 19) (v := ?_) (a' := ?_) #[true, true, true, false, false, false, false, false, false, false, false, false, false, false, false, false, false, false, false, false, false, false, false, false, false, false, false, false, false] rfl rfl (any_of HT_.out (by kernel_rfl)) (fun _ _ _ h => h) (Or.inl ⟨by rfl, ?_⟩) ?_ ?_
                    rotate_left
                    · intro w'
                      go_simp
                      with_reducible rfl
                    rotate_left
                    · simp only [Act.put, List.setIfInBounds_toArray, List.set_cons_zero, List.set_cons_succ, i64_w, i32_w]
                      rfl
                    refine take_ (i := 3) (N := some 20) (v := ?_) (a' := ?_) #[true, true, true, true, false, false, false, false, false, false, false, false, false, false, false, false, false, false, false, false, false, false, false, false, false, false, false, false, false] rfl rfl (take_ofW HT_.out HW_.out (by kernel_rfl)) (fun _ _ _ h => h) (Or.inl ⟨by rfl, ?_⟩) hHeld ?_ ?_
                    rotate_left
                    · rintro w' ⟨s0, s1, s2, s3, s4, s5, s6, s7, s8, s9, s10, s11, s12, s13, s14, s15, s16, s17, s18, s19, s20, s21, s22, s23⟩
                      go_simp
                      with_reducible rfl
                    rotate_left
                    · simp only [Act.put, List.setIfInBounds_toArray, List.set_cons_zero, List.set_cons_succ, i64_w, i32_w]
                      rfl
                    refine one_ (i := 4) (N := some 21) #[true, true, true, true, true, false, false, false, false, false, false, false, false, false, false, false, false, false, false, false, false, false, false, false, false, false, false, false, false] rfl rfl (one_of HT_.out (by kernel_rfl)) (by decide) (fun K hK => ?_)
                    refine goes_ Try.func16 (by kernel_rfl) rfl #[.agg #[.int .u8 ((rd_T38 l0 x5_1).f0), .int .u16 ((rd_T38 l0 x5_1).f1), .slice A487_2 ((rd_T38 l0 x5_1).f2).length c487_2, .slice A487_3 ((rd_T38 l0 x5_1).f3).length c487_3, .slice A487_4 ((rd_T38 l0 x5_1).f4).length c487_4, .slice A487_5 ((rd_T38 l0 x5_1).f5).length c487_5]] (by rfl) rfl rfl (by (try simp only [List.map_toArray, List.map_cons, List.map_nil]); first | done | rfl | (simp only [List.length_drop, List.length_take]; rfl)) ?_
                    with_reducible refine (garderoberef08_May.calls k1 ((rd_T38 l0 x5_1).f0) ((rd_T38 l0 x5_1).f1) _ _ ((rd_T38 l0 x5_1).f2) _ _ ((rd_T38 l0 x5_1).f3) _ _ ((rd_T38 l0 x5_1).f4) _ _ ((rd_T38 l0 x5_1).f5) true _ ?side1 ?side2 ?side3 ?side4 ?side5 ?side6 ?side7 ?side8 A6.out).mono ?_
                    (case side1 => exact zc (Kd.C_below HR487_2.out HB.out))
                    (case side2 => exact HC487_2.out)
                    (case side3 => exact zc (Kd.C_below HR487_3.out HB.out))
                    (case side4 => exact HC487_3.out)
                    (case side5 => exact zc (Kd.C_below HR487_4.out HB.out))
                    (case side6 => exact HC487_4.out)
                    (case side7 => exact zc (Kd.C_below HR487_5.out HB.out))
                    (case side8 => exact HC487_5.out)
                    rintro e w15 ⟨rfl, hb⟩
                    refine ⟨_, rfl, ?_⟩
                    have n0_ := Aside0.mk (below_step (zb) hb)
                    clear HB
                    have HB := n0_
                    clear n0_
                    (try clear hb)
                    (try clear hb2)
                    (try clear hk)
                    (try clear hi)
                    refine hK.out _ _ ⟨((HB.out.cell (World.block_lt_of_cell? w _ hw487_0)).trans hw487_0), ((HB.out.cell (World.block_lt_of_cell? w _ hw487_1)).trans hw487_1), ((HB.out.cell (World.block_lt_of_cell? w _ hw487_2)).trans hw487_2), ((HB.out.cell (World.block_lt_of_cell? w _ hw487_3)).trans hw487_3), ((HB.out.cell (World.block_lt_of_cell? w _ hw487_4)).trans hw487_4), ((HB.out.cell (World.block_lt_of_cell? w _ hw487_5)).trans hw487_5), ((HB.out.cell (World.block_lt_of_cell? w _ hw489_0)).trans hw489_0), ((HB.out.cell (World.block_lt_of_cell? w _ hw489_1)).trans hw489_1), ((HB.out.cell (World.block_lt_of_cell? w _ hw489_2)).trans hw489_2), ((HB.out.cell (World.block_lt_of_cell? w _ hw489_3)).trans hw489_3), ((HB.out.cell (World.block_lt_of_cell? w _ hw489_4)).trans hw489_4), ((HB.out.cell (World.block_lt_of_cell? w _ hw489_5)).trans hw489_5), ((HB.out.cell (World.block_lt_of_cell? w _ hw491_0)).trans hw491_0), ((HB.out.cell (World.block_lt_of_cell? w _ hw491_1)).trans hw491_1), ((HB.out.cell (World.block_lt_of_cell? w _ hw491_2)).trans hw491_2), ((HB.out.cell (World.block_lt_of_cell? w _ hw491_3)).trans hw491_3), ((HB.out.cell (World.block_lt_of_cell? w _ hw491_4)).trans hw491_4), ((HB.out.cell (World.block_lt_of_cell? w _ hw491_5)).trans hw491_5), ((HB.out.cell (World.block_lt_of_cell? w _ hw495_0)).trans hw495_0), ((HB.out.cell (World.block_lt_of_cell? w _ hw495_1)).trans hw495_1), ((HB.out.cell (World.block_lt_of_cell? w _ hw495_2)).trans hw495_2), ((HB.out.cell (World.block_lt_of_cell? w _ hw495_3)).trans hw495_3), ((HB.out.cell (World.block_lt_of_cell? w _ hw495_4)).trans hw495_4), ((HB.out.cell (World.block_lt_of_cell? w _ hw495_5)).trans hw495_5)⟩ (fun hHeld => ?_)
                    clear hK K
                    refine norm_ (a' := ?_) ?_ ?_
                    rotate_left
                    · show Act.put _ (some 21) _ = _
                      simp only [Act.put, List.setIfInBounds_toArray, List.set_cons_zero, List.set_cons_succ, i64_w, i32_w]
                      rfl
                    refine pure_ (i := 5) (N := some 22) (v := ?_) (a' := ?_) #[true, true, true, true, true, true, false, false, false, false, false, false, false, false, false, false, false, false, false, false, false, false, false, false, false, false, false, false, false] rfl rfl (any_of HT_.out (by kernel_rfl)) (fun _ _ _ h => h) (Or.inl ⟨by rfl, ?_⟩) ?_ ?_
                    rotate_left
                    · intro w'
                      go_simp
                      with_reducible rfl
                    rotate_left
                    · simp only [Act.put, List.setIfInBounds_toArray, List.set_cons_zero, List.set_cons_succ, i64_w, i32_w]
                      rfl
                    refine pure_ (i := 6) (N := some 23) (v := ?_) (a' := ?_) #[true, true, true, true, true, true, true, false, false, false, false, false, false, false, false, false, false, false, false, false, false, false, false, false, false, false, false, false, false] rfl rfl (any_of HT_.out (by kernel_rfl)) (fun _ _ _ h => h) (Or.inl ⟨by rfl, ?_⟩) ?_ ?_
                    rotate_left
                    · intro w'
                      go_simp
                      with_reducible rfl
                    rotate_left
                    · simp only [Act.put, List.setIfInBounds_toArray, List.set_cons_zero, List.set_cons_succ, i64_w, i32_w]
                      rfl
                    refine pure_ (i := 7) (N := some 24) (v := ?_) (a' := ?_) #[true, true, true, true, true, true, true, true, false, false, false, false, false, false, false, false, false, false, false, false, false, false, false, false, false, false, false, false, false] rfl rfl (any_of HT_.out (by kernel_rfl)) (fun _ _ _ h => h) (Or.inl ⟨by rfl, ?_⟩) ?_ ?_
                    rotate_left
                    · intro w'
                      go_simp
                      with_reducible rfl
                    rotate_left
                    · simp only [Act.put, List.setIfInBounds_toArray, List.set_cons_zero, List.set_cons_succ, i64_w, i32_w]
                      rfl
                    refine pure_ (i := 8) (N := some 25) (v := ?_) (a' := ?_) #[true, true, true, true, true, true, true, true, true, false, false, false, false, false, false, false, false, false, false, false, false, false, false, false, false, false, false, false, false] rfl rfl (any_of HT_.out (by kernel_rfl)) (fun _ _ _ h => h) (Or.inl ⟨by rfl, ?_⟩) ?_ ?_
                    rotate_left
                    · intro w'
                      go_simp
                      with_reducible rfl
                    rotate_left
                    · simp only [Act.put, List.setIfInBounds_toArray, List.set_cons_zero, List.set_cons_succ, i64_w, i32_w]
                      rfl
                    refine pure_ (i := 9) (N := some 26) (v := ?_) (a' := ?_) #[true, true, true, true, true, true, true, true, true, true, false, false, false, false, false, false, false, false, false, false, false, false, false, false, false, false, false, false, false] rfl rfl (any_of HT_.out (by kernel_rfl)) (fun _ _ _ h => h) (Or.inl ⟨by rfl, ?_⟩) ?_ ?_
                    rotate_left
                    · intro w'
                      go_simp
                      with_reducible rfl
                    rotate_left
                    · simp only [Act.put, List.setIfInBounds_toArray, List.set_cons_zero, List.set_cons_succ, i64_w, i32_w]
                      rfl
                    refine take_ (i := 10) (N := some 27) (v := ?_) (a' := ?_) #[true, true, true, true, true, true, true, true, true, true, true, false, false, false, false, false, false, false, false, false, false, false, false, false, false, false, false, false, false] rfl rfl (take_ofW HT_.out HW_.out (by kernel_rfl)) (fun _ _ _ h => h) (Or.inl ⟨by rfl, ?_⟩) hHeld ?_ ?_
                    rotate_left
                    · rintro w' ⟨s0, s1, s2, s3, s4, s5, s6, s7, s8, s9, s10, s11, s12, s13, s14, s15, s16, s17, s18, s19, s20, s21, s22, s23⟩
                      go_simp
                      with_reducible rfl
                    rotate_left
                    · simp only [Act.put, List.setIfInBounds_toArray, List.set_cons_zero, List.set_cons_succ, i64_w, i32_w]
                      rfl
                    refine one_ (i := 11) (N := some 28) #[true, true, true, true, true, true, true, true, true, true, true, true, false, false, false, false, false, false, false, false, false, false, false, false, false, false, false, false, false] rfl rfl (one_of HT_.out (by kernel_rfl)) (by decide) (fun K hK => ?_)
                    refine goes_ Try.func16 (by kernel_rfl) rfl #[.agg #[.int .u8 ((rd_T38 l1 x5_1).f0), .int .u16 ((rd_T38 l1 x5_1).f1), .slice A489_2 ((rd_T38 l1 x5_1).f2).length c489_2, .slice A489_3 ((rd_T38 l1 x5_1).f3).length c489_3, .slice A489_4 ((rd_T38 l1 x5_1).f4).length c489_4, .slice A489_5 ((rd_T38 l1 x5_1).f5).length c489_5]] (by rfl) rfl rfl (by (try simp only [List.map_toArray, List.map_cons, List.map_nil]); first | done | rfl | (simp only [List.length_drop, List.length_take]; rfl)) ?_
                    with_reducible refine (garderoberef08_May.calls k1 ((rd_T38 l1 x5_1).f0) ((rd_T38 l1 x5_1).f1) _ _ ((rd_T38 l1 x5_1).f2) _ _ ((rd_T38 l1 x5_1).f3) _ _ ((rd_T38 l1 x5_1).f4) _ _ ((rd_T38 l1 x5_1).f5) true _ ?side1 ?side2 ?side3 ?side4 ?side5 ?side6 ?side7 ?side8 A9.out).mono ?_
                    (case side1 => exact zc (Kd.C_below HR489_2.out HB.out))
                    (case side2 => exact HC489_2.out)
                    (case side3 => exact zc (Kd.C_below HR489_3.out HB.out))
                    (case side4 => exact HC489_3.out)
                    (case side5 => exact zc (Kd.C_below HR489_4.out HB.out))
                    (case side6 => exact HC489_4.out)
                    (case side7 => exact zc (Kd.C_below HR489_5.out HB.out))
                    (case side8 => exact HC489_5.out)
                    rintro e w16 ⟨rfl, hb⟩
                    refine ⟨_, rfl, ?_⟩
                    have n0_ := Aside0.mk (below_step (zb) hb)
                    clear HB
                    have HB := n0_
                    clear n0_
                    (try clear hb)
                    (try clear hb2)
                    (try clear hk)
                    (try clear hi)
                    refine hK.out _ _ ⟨((HB.out.cell (World.block_lt_of_cell? w _ hw487_0)).trans hw487_0), ((HB.out.cell (World.block_lt_of_cell? w _ hw487_1)).trans hw487_1), ((HB.out.cell (World.block_lt_of_cell? w _ hw487_2)).trans hw487_2), ((HB.out.cell (World.block_lt_of_cell? w _ hw487_3)).trans hw487_3), ((HB.out.cell (World.block_lt_of_cell? w _ hw487_4)).trans hw487_4), ((HB.out.cell (World.block_lt_of_cell? w _ hw487_5)).trans hw487_5), ((HB.out.cell (World.block_lt_of_cell? w _ hw489_0)).trans hw489_0), ((HB.out.cell (World.block_lt_of_cell? w _ hw489_1)).trans hw489_1), ((HB.out.cell (World.block_lt_of_cell? w _ hw489_2)).trans hw489_2), ((HB.out.cell (World.block_lt_of_cell? w _ hw489_3)).trans hw489_3), ((HB.out.cell (World.block_lt_of_cell? w _ hw489_4)).trans hw489_4), ((HB.out.cell (World.block_lt_of_cell? w _ hw489_5)).trans hw489_5), ((HB.out.cell (World.block_lt_of_cell? w _ hw491_0)).trans hw491_0), ((HB.out.cell (World.block_lt_of_cell? w _ hw491_1)).trans hw491_1), ((HB.out.cell (World.block_lt_of_cell? w _ hw491_2)).trans hw491_2), ((HB.out.cell (World.block_lt_of_cell? w _ hw491_3)).trans hw491_3), ((HB.out.cell (World.block_lt_of_cell? w _ hw491_4)).trans hw491_4), ((HB.out.cell (World.block_lt_of_cell? w _ hw491_5)).trans hw491_5), ((HB.out.cell (World.block_lt_of_cell? w _ hw495_0)).trans hw495_0), ((HB.out.cell (World.block_lt_of_cell? w _ hw495_1)).trans hw495_1), ((HB.out.cell (World.block_lt_of_cell? w _ hw495_2)).trans hw495_2), ((HB.out.cell (World.block_lt_of_cell? w _ hw495_3)).trans hw495_3), ((HB.out.cell (World.block_lt_of_cell? w _ hw495_4)).trans hw495_4), ((HB.out.cell (World.block_lt_of_cell? w _ hw495_5)).trans hw495_5)⟩ (fun hHeld => ?_)
                    clear hK K
                    refine norm_ (a' := ?_) ?_ ?_
                    rotate_left
                    · show Act.put _ (some 28) _ = _
                      simp only [Act.put, List.setIfInBounds_toArray, List.set_cons_zero, List.set_cons_succ, i64_w, i32_w]
                      rfl
                    refine pure_ (i := 12) (N := some 29) (v := ?_) (a' := ?_) #[true, true, true, true, true, true, true, true, true, true, true, true, true, false, false, false, false, false, false, false, false, false, false, false, false, false, false, false, false] rfl rfl (any_of HT_.out (by kernel_rfl)) (fun _ _ _ h => h) (Or.inl ⟨by rfl, ?_⟩) ?_ ?_
                    rotate_left
                    · intro w'
                      go_simp
                      with_reducible rfl
                    rotate_left
                    · simp only [Act.put, List.setIfInBounds_toArray, List.set_cons_zero, List.set_cons_succ, i64_w, i32_w]
                      rfl
                    refine pure_ (i := 13) (N := some 30) (v := ?_) (a' := ?_) #[true, true, true, true, true, true, true, true, true, true, true, true, true, true, false, false, false, false, false, false, false, false, false, false, false, false, false, false, false] rfl rfl (any_of HT_.out (by kernel_rfl)) (fun _ _ _ h => h) (Or.inl ⟨by rfl, ?_⟩) ?_ ?_
                    rotate_left
                    · intro w'
                      go_simp
                      with_reducible rfl
                    rotate_left
                    · simp only [Act.put, List.setIfInBounds_toArray, List.set_cons_zero, List.set_cons_succ, i64_w, i32_w]
                      rfl
                    refine pure_ (i := 14) (N := some 31) (v := ?_) (a' := ?_) #[true, true, true, true, true, true, true, true, true, true, true, true, true, true, true, false, false, false, false, false, false, false, false, false, false, false, false, false, false] rfl rfl (any_of HT_.out (by kernel_rfl)) (fun _ _ _ h => h) (Or.inl ⟨by rfl, ?_⟩) ?_ ?_
                    rotate_left
                    · intro w'
                      go_simp
                      with_reducible rfl
                    rotate_left
                    · simp only [Act.put, List.setIfInBounds_toArray, List.set_cons_zero, List.set_cons_succ, i64_w, i32_w]
                      rfl
                    refine pure_ (i := 15) (N := some 32) (v := ?_) (a' := ?_) #[true, true, true, true, true, true, true, true, true, true, true, true, true, true, true, true, false, false, false, false, false, false, false, false, false, false, false, false, false] rfl rfl (any_of HT_.out (by kernel_rfl)) (fun _ _ _ h => h) (Or.inl ⟨by rfl, ?_⟩) ?_ ?_
                    rotate_left
                    · intro w'
                      go_simp
                      with_reducible rfl
                    rotate_left
                    · simp only [Act.put, List.setIfInBounds_toArray, List.set_cons_zero, List.set_cons_succ, i64_w, i32_w]
                      rfl
                    refine pure_ (i := 16) (N := some 33) (v := ?_) (a' := ?_) #[true, true, true, true, true, true, true, true, true, true, true, true, true, true, true, true, true, false, false, false, false, false, false, false, false, false, false, false, false] rfl rfl (any_of HT_.out (by kernel_rfl)) (fun _ _ _ h => h) (Or.inl ⟨by rfl, ?_⟩) ?_ ?_
                    rotate_left
                    · intro w'
                      go_simp
                      with_reducible rfl
                    rotate_left
                    · simp only [Act.put, List.setIfInBounds_toArray, List.set_cons_zero, List.set_cons_succ, i64_w, i32_w]
                      rfl
                    refine pure_ (i := 17) (N := some 34) (v := ?_) (a' := ?_) #[true, true, true, true, true, true, true, true, true, true, true, true, true, true, true, true, true, true, false, false, false, false, false, false, false, false, false, false, false] rfl rfl (any_of HT_.out (by kernel_rfl)) (fun _ _ _ h => h) (Or.inl ⟨by rfl, ?_⟩) ?_ ?_
                    rotate_left
                    · intro w'
                      go_simp
                      with_reducible rfl
                    rotate_left
                    · simp only [Act.put, List.setIfInBounds_toArray, List.set_cons_zero, List.set_cons_succ, i64_w, i32_w]
                      rfl
                    refine pure_ (i := 21) (N := some 38) (v := ?_) (a' := ?_) #[true, true, true, true, true, true, true, true, true, true, true, true, true, true, true, true, true, true, false, false, false, true, false, false, false, false, false, false, false] rfl rfl (any_of HT_.out (by kernel_rfl)) (fun _ _ _ h => h) (Or.inl ⟨by rfl, ?_⟩) ?_ ?_
                    rotate_left
                    · intro w'
                      go_simp
                      with_reducible rfl
                    rotate_left
                    · simp only [Act.put, List.setIfInBounds_toArray, List.set_cons_zero, List.set_cons_succ, i64_w, i32_w]
                      rfl
                    refine pure_ (i := 22) (N := some 39) (v := ?_) (a' := ?_) #[true, true, true, true, true, true, true, true, true, true, true, true, true, true, true, true, true, true, false, false, false, true, true, false, false, false, false, false, false] rfl rfl (any_of HT_.out (by kernel_rfl)) (fun _ _ _ h => h) (Or.inl ⟨by rfl, ?_⟩) ?_ ?_
                    rotate_left
                    · intro w'
                      go_simp
                      with_reducible rfl
                    rotate_left
                    · simp only [Act.put, List.setIfInBounds_toArray, List.set_cons_zero, List.set_cons_succ, i64_w, i32_w]
                      rfl
                    refine pure_ (i := 23) (N := some 40) (v := ?_) (a' := ?_) #[true, true, true, true, true, true, true, true, true, true, true, true, true, true, true, true, true, true, false, false, false, true, true, true, false, false, false, false, false] rfl rfl (any_of HT_.out (by kernel_rfl)) (fun _ _ _ h => h) (Or.inl ⟨by rfl, ?_⟩) ?_ ?_
                    rotate_left
                    · intro w'
                      go_simp
                      with_reducible rfl
                    rotate_left
                    · simp only [Act.put, List.setIfInBounds_toArray, List.set_cons_zero, List.set_cons_succ, i64_w, i32_w]
                      rfl
                    refine take_ (i := 18) (N := some 35) (v := ?_) (a' := ?_) #[true, true, true, true, true, true, true, true, true, true, true, true, true, true, true, true, true, true, true, false, false, true, true, true, false, false, false, false, false] rfl rfl (take_ofW HT_.out HW_.out (by kernel_rfl)) (fun _ _ _ h => h) (Or.inl ⟨by rfl, ?_⟩) hHeld ?_ ?_
                    rotate_left
                    · rintro w' ⟨s0, s1, s2, s3, s4, s5, s6, s7, s8, s9, s10, s11, s12, s13, s14, s15, s16, s17, s18, s19, s20, s21, s22, s23⟩
                      go_simp
                      with_reducible rfl
                    rotate_left
                    · simp only [Act.put, List.setIfInBounds_toArray, List.set_cons_zero, List.set_cons_succ, i64_w, i32_w]
                      rfl
                    refine take_ (i := 24) (N := some 41) (v := ?_) (a' := ?_) #[true, true, true, true, true, true, true, true, true, true, true, true, true, true, true, true, true, true, true, false, false, true, true, true, true, false, false, false, false] rfl rfl (take_ofW HT_.out HW_.out (by kernel_rfl)) (fun _ _ _ h => h) (Or.inl ⟨by rfl, ?_⟩) hHeld ?_ ?_
                    rotate_left
                    · rintro w' ⟨s0, s1, s2, s3, s4, s5, s6, s7, s8, s9, s10, s11, s12, s13, s14, s15, s16, s17, s18, s19, s20, s21, s22, s23⟩
                      go_simp
                      with_reducible rfl
                    rotate_left
                    · simp only [Act.put, List.setIfInBounds_toArray, List.set_cons_zero, List.set_cons_succ, i64_w, i32_w]
                      rfl
                    refine one_ (i := 19) (N := some 36) #[true, true, true, true, true, true, true, true, true, true, true, true, true, true, true, true, true, true, true, true, false, true, true, true, true, false, false, false, false] rfl rfl (one_of HT_.out (by kernel_rfl)) (by decide) (fun K hK => ?_)
                    refine goes_ Try.func25 (by kernel_rfl) rfl #[.agg #[.int .u8 ((rd_T38 l0 x5_1).f0), .int .u16 ((rd_T38 l0 x5_1).f1), .slice A487_2 ((rd_T38 l0 x5_1).f2).length c487_2, .slice A487_3 ((rd_T38 l0 x5_1).f3).length c487_3, .slice A487_4 ((rd_T38 l0 x5_1).f4).length c487_4, .slice A487_5 ((rd_T38 l0 x5_1).f5).length c487_5]] (by rfl) rfl rfl (by (try simp only [List.map_toArray, List.map_cons, List.map_nil]); first | done | rfl | (simp only [List.length_drop, List.length_take]; rfl)) ?_
                    with_reducible refine (garderoberef08_bytes.calls k1 ((rd_T38 l0 x5_1).f0) ((rd_T38 l0 x5_1).f1) _ _ ((rd_T38 l0 x5_1).f2) _ _ ((rd_T38 l0 x5_1).f3) _ _ ((rd_T38 l0 x5_1).f4) _ _ ((rd_T38 l0 x5_1).f5) t492 _ ?side1 ?side2 ?side3 ?side4 ?side5 ?side6 ?side7 ?side8 A11.out).mono ?_
                    (case side1 => exact zc (Kd.C_below HR491_2.out HB.out))
                    (case side2 => exact HC491_2.out)
                    (case side3 => exact zc (Kd.C_below HR491_3.out HB.out))
                    (case side4 => exact HC491_3.out)
                    (case side5 => exact zc (Kd.C_below HR491_4.out HB.out))
                    (case side6 => exact HC491_4.out)
                    (case side7 => exact zc (Kd.C_below HR491_5.out HB.out))
                    (case side8 => exact HC491_5.out)
                    rintro e w17 ⟨v493, rfl, ho0, hb⟩
                    refine ⟨_, rfl, ?_⟩
                    have n0_ := Aside0.mk (Kd.R_lower ho0 (below_size (zb)))
                    have n1_ := Aside0.mk (below_step (zb) hb)
                    clear HB
                    have HO494 := n0_
                    have HB := n1_
                    clear n0_ n1_
                    (try clear hb)
                    (try clear hb2)
                    (try clear hk)
                    (try clear hi)
                    (try clear ho0)
                    refine hK.out _ _ ⟨((HB.out.cell (World.block_lt_of_cell? w _ hw487_0)).trans hw487_0), ((HB.out.cell (World.block_lt_of_cell? w _ hw487_1)).trans hw487_1), ((HB.out.cell (World.block_lt_of_cell? w _ hw487_2)).trans hw487_2), ((HB.out.cell (World.block_lt_of_cell? w _ hw487_3)).trans hw487_3), ((HB.out.cell (World.block_lt_of_cell? w _ hw487_4)).trans hw487_4), ((HB.out.cell (World.block_lt_of_cell? w _ hw487_5)).trans hw487_5), ((HB.out.cell (World.block_lt_of_cell? w _ hw489_0)).trans hw489_0), ((HB.out.cell (World.block_lt_of_cell? w _ hw489_1)).trans hw489_1), ((HB.out.cell (World.block_lt_of_cell? w _ hw489_2)).trans hw489_2), ((HB.out.cell (World.block_lt_of_cell? w _ hw489_3)).trans hw489_3), ((HB.out.cell (World.block_lt_of_cell? w _ hw489_4)).trans hw489_4), ((HB.out.cell (World.block_lt_of_cell? w _ hw489_5)).trans hw489_5), ((HB.out.cell (World.block_lt_of_cell? w _ hw491_0)).trans hw491_0), ((HB.out.cell (World.block_lt_of_cell? w _ hw491_1)).trans hw491_1), ((HB.out.cell (World.block_lt_of_cell? w _ hw491_2)).trans hw491_2), ((HB.out.cell (World.block_lt_of_cell? w _ hw491_3)).trans hw491_3), ((HB.out.cell (World.block_lt_of_cell? w _ hw491_4)).trans hw491_4), ((HB.out.cell (World.block_lt_of_cell? w _ hw491_5)).trans hw491_5), ((HB.out.cell (World.block_lt_of_cell? w _ hw495_0)).trans hw495_0), ((HB.out.cell (World.block_lt_of_cell? w _ hw495_1)).trans hw495_1), ((HB.out.cell (World.block_lt_of_cell? w _ hw495_2)).trans hw495_2), ((HB.out.cell (World.block_lt_of_cell? w _ hw495_3)).trans hw495_3), ((HB.out.cell (World.block_lt_of_cell? w _ hw495_4)).trans hw495_4), ((HB.out.cell (World.block_lt_of_cell? w _ hw495_5)).trans hw495_5)⟩ (fun hHeld => ?_)
                    clear hK K
                    refine norm_ (a' := ?_) ?_ ?_
                    rotate_left
                    · show Act.put _ (some 36) _ = _
                      simp only [Act.put, List.setIfInBounds_toArray, List.set_cons_zero, List.set_cons_succ, i64_w, i32_w]
                      rfl
                    refine join_ (σ := Value) 2 #[true, true, true, true, true, true, true, true, true, true, true, true, true, true, true, true, true, true, true, true, true, true, true, true, true, true, true, false, false] (fun s_ => [(37, .string (strOfNums t492)), (42, s_), (43, .string (strOfNums t496))]) (fun s_ w' => (w'.cell? (ad487.add ((x5_1).toNat * 6)) = some (.int .u8 ((rd_T38 l0 x5_1).f0)) ∧ w'.cell? ⟨(ad487.add ((x5_1).toNat * 6)).block, (ad487.add ((x5_1).toNat * 6)).off + 1, none⟩ = some (.int .u16 ((rd_T38 l0 x5_1).f1)) ∧ w'.cell? ⟨(ad487.add ((x5_1).toNat * 6)).block, (ad487.add ((x5_1).toNat * 6)).off + 2, none⟩ = some (.slice A487_2 ((rd_T38 l0 x5_1).f2).length c487_2) ∧ w'.cell? ⟨(ad487.add ((x5_1).toNat * 6)).block, (ad487.add ((x5_1).toNat * 6)).off + 3, none⟩ = some (.slice A487_3 ((rd_T38 l0 x5_1).f3).length c487_3) ∧ w'.cell? ⟨(ad487.add ((x5_1).toNat * 6)).block, (ad487.add ((x5_1).toNat * 6)).off + 4, none⟩ = some (.slice A487_4 ((rd_T38 l0 x5_1).f4).length c487_4) ∧ w'.cell? ⟨(ad487.add ((x5_1).toNat * 6)).block, (ad487.add ((x5_1).toNat * 6)).off + 5, none⟩ = some (.slice A487_5 ((rd_T38 l0 x5_1).f5).length c487_5) ∧ w'.cell? (ad489.add ((x5_1).toNat * 6)) = some (.int .u8 ((rd_T38 l1 x5_1).f0)) ∧ w'.cell? ⟨(ad489.add ((x5_1).toNat * 6)).block, (ad489.add ((x5_1).toNat * 6)).off + 1, none⟩ = some (.int .u16 ((rd_T38 l1 x5_1).f1)) ∧ w'.cell? ⟨(ad489.add ((x5_1).toNat * 6)).block, (ad489.add ((x5_1).toNat * 6)).off + 2, none⟩ = some (.slice A489_2 ((rd_T38 l1 x5_1).f2).length c489_2) ∧ w'.cell? ⟨(ad489.add ((x5_1).toNat * 6)).block, (ad489.add ((x5_1).toNat * 6)).off + 3, none⟩ = some (.slice A489_3 ((rd_T38 l1 x5_1).f3).length c489_3) ∧ w'.cell? ⟨(ad489.add ((x5_1).toNat * 6)).block, (ad489.add ((x5_1).toNat * 6)).off + 4, none⟩ = some (.slice A489_4 ((rd_T38 l1 x5_1).f4).length c489_4) ∧ w'.cell? ⟨(ad489.add ((x5_1).toNat * 6)).block, (ad489.add ((x5_1).toNat * 6)).off + 5, none⟩ = some (.slice A489_5 ((rd_T38 l1 x5_1).f5).length c489_5) ∧ w'.cell? (ad487.add ((x5_1).toNat * 6)) = some (.int .u8 ((rd_T38 l0 x5_1).f0)) ∧ w'.cell? ⟨(ad487.add ((x5_1).toNat * 6)).block, (ad487.add ((x5_1).toNat * 6)).off + 1, none⟩ = some (.int .u16 ((rd_T38 l0 x5_1).f1)) ∧ w'.cell? ⟨(ad487.add ((x5_1).toNat * 6)).block, (ad487.add ((x5_1).toNat * 6)).off + 2, none⟩ = some (.slice A487_2 ((rd_T38 l0 x5_1).f2).length c487_2) ∧ w'.cell? ⟨(ad487.add ((x5_1).toNat * 6)).block, (ad487.add ((x5_1).toNat * 6)).off + 3, none⟩ = some (.slice A487_3 ((rd_T38 l0 x5_1).f3).length c487_3) ∧ w'.cell? ⟨(ad487.add ((x5_1).toNat * 6)).block, (ad487.add ((x5_1).toNat * 6)).off + 4, none⟩ = some (.slice A487_4 ((rd_T38 l0 x5_1).f4).length c487_4) ∧ w'.cell? ⟨(ad487.add ((x5_1).toNat * 6)).block, (ad487.add ((x5_1).toNat * 6)).off + 5, none⟩ = some (.slice A487_5 ((rd_T38 l0 x5_1).f5).length c487_5) ∧ w'.cell? (ad489.add ((x5_1).toNat * 6)) = some (.int .u8 ((rd_T38 l1 x5_1).f0)) ∧ w'.cell? ⟨(ad489.add ((x5_1).toNat * 6)).block, (ad489.add ((x5_1).toNat * 6)).off + 1, none⟩ = some (.int .u16 ((rd_T38 l1 x5_1).f1)) ∧ w'.cell? ⟨(ad489.add ((x5_1).toNat * 6)).block, (ad489.add ((x5_1).toNat * 6)).off + 2, none⟩ = some (.slice A489_2 ((rd_T38 l1 x5_1).f2).length c489_2) ∧ w'.cell? ⟨(ad489.add ((x5_1).toNat * 6)).block, (ad489.add ((x5_1).toNat * 6)).off + 3, none⟩ = some (.slice A489_3 ((rd_T38 l1 x5_1).f3).length c489_3) ∧ w'.cell? ⟨(ad489.add ((x5_1).toNat * 6)).block, (ad489.add ((x5_1).toNat * 6)).off + 4, none⟩ = some (.slice A489_4 ((rd_T38 l1 x5_1).f4).length c489_4) ∧ w'.cell? ⟨(ad489.add ((x5_1).toNat * 6)).block, (ad489.add ((x5_1).toNat * 6)).off + 5, none⟩ = some (.slice A489_5 ((rd_T38 l1 x5_1).f5).length c489_5)) ∧ (Kd.R (Kd.int .u8) 5 w' w.heap.size (fun k_ => some k_ ≠ (s_ : Value).ownBlock) v493 t492) ∧ (Kd.R (Kd.int .u8) 5 w' w.heap.size (fun k_ => some k_ ≠ (v493 : Value).ownBlock) s_ t496) ∧ (Below w.heap.size w w')) ?_ ?_
                    rotate_left
                    · intro hCont
                      refine two_ (i := 20) (j := 25) (Ni := some 37) (Nj := some 42) #[true, true, true, true, true, true, true, true, true, true, true, true, true, true, true, true, true, true, true, true, true, true, true, true, true, false, false, false, false] #[true, true, true, true, true, true, true, true, true, true, true, true, true, true, true, true, true, true, true, true, false, true, true, true, true, true, false, false, false] rfl rfl rfl rfl (two_of HT_.out (by kernel_rfl)) (by decide) (by decide) (fun K hK => ?_) (fun K hK => ?_)
                      · skip
                        have hcv18 := own_string (P := Try.prog) Try.underlying24 Try.underlying5 Try.underlying9 (Kd.own_of_R HO494.out)
                        refine value_ (w1 := ?_) (v := ?_) (by rfl) rfl ?_ ?_
                        rotate_left 2
                        · go_simp
                          constructor
                          · rfl
                          · rfl
                        clear hcv18
                        refine hK.out _ _ ⟨((HB.out.cell (World.block_lt_of_cell? w _ hw487_0)).trans hw487_0), ((HB.out.cell (World.block_lt_of_cell? w _ hw487_1)).trans hw487_1), ((HB.out.cell (World.block_lt_of_cell? w _ hw487_2)).trans hw487_2), ((HB.out.cell (World.block_lt_of_cell? w _ hw487_3)).trans hw487_3), ((HB.out.cell (World.block_lt_of_cell? w _ hw487_4)).trans hw487_4), ((HB.out.cell (World.block_lt_of_cell? w _ hw487_5)).trans hw487_5), ((HB.out.cell (World.block_lt_of_cell? w _ hw489_0)).trans hw489_0), ((HB.out.cell (World.block_lt_of_cell? w _ hw489_1)).trans hw489_1), ((HB.out.cell (World.block_lt_of_cell? w _ hw489_2)).trans hw489_2), ((HB.out.cell (World.block_lt_of_cell? w _ hw489_3)).trans hw489_3), ((HB.out.cell (World.block_lt_of_cell? w _ hw489_4)).trans hw489_4), ((HB.out.cell (World.block_lt_of_cell? w _ hw489_5)).trans hw489_5), ((HB.out.cell (World.block_lt_of_cell? w _ hw491_0)).trans hw491_0), ((HB.out.cell (World.block_lt_of_cell? w _ hw491_1)).trans hw491_1), ((HB.out.cell (World.block_lt_of_cell? w _ hw491_2)).trans hw491_2), ((HB.out.cell (World.block_lt_of_cell? w _ hw491_3)).trans hw491_3), ((HB.out.cell (World.block_lt_of_cell? w _ hw491_4)).trans hw491_4), ((HB.out.cell (World.block_lt_of_cell? w _ hw491_5)).trans hw491_5), ((HB.out.cell (World.block_lt_of_cell? w _ hw495_0)).trans hw495_0), ((HB.out.cell (World.block_lt_of_cell? w _ hw495_1)).trans hw495_1), ((HB.out.cell (World.block_lt_of_cell? w _ hw495_2)).trans hw495_2), ((HB.out.cell (World.block_lt_of_cell? w _ hw495_3)).trans hw495_3), ((HB.out.cell (World.block_lt_of_cell? w _ hw495_4)).trans hw495_4), ((HB.out.cell (World.block_lt_of_cell? w _ hw495_5)).trans hw495_5)⟩ (fun hHeld => ?_)
                        clear hK K
                        refine norm_ (a' := ?_) ?_ ?_
                        rotate_left
                        · show Act.put _ (some 37) _ = _
                          simp only [Act.put, List.setIfInBounds_toArray, List.set_cons_zero, List.set_cons_succ, i64_w, i32_w]
                          rfl
                        refine one_ (i := 25) (N := some 42) #[true, true, true, true, true, true, true, true, true, true, true, true, true, true, true, true, true, true, true, true, true, true, true, true, true, true, false, false, false] rfl rfl (one_of HT_.out (by kernel_rfl)) (by decide) (fun K hK => ?_)
                        refine goes_ Try.func25 (by kernel_rfl) rfl #[.agg #[.int .u8 ((rd_T38 l1 x5_1).f0), .int .u16 ((rd_T38 l1 x5_1).f1), .slice A489_2 ((rd_T38 l1 x5_1).f2).length c489_2, .slice A489_3 ((rd_T38 l1 x5_1).f3).length c489_3, .slice A489_4 ((rd_T38 l1 x5_1).f4).length c489_4, .slice A489_5 ((rd_T38 l1 x5_1).f5).length c489_5]] (by rfl) rfl rfl (by (try simp only [List.map_toArray, List.map_cons, List.map_nil]); first | done | rfl | (simp only [List.length_drop, List.length_take]; rfl)) ?_
                        with_reducible refine (garderoberef08_bytes.calls k1 ((rd_T38 l1 x5_1).f0) ((rd_T38 l1 x5_1).f1) _ _ ((rd_T38 l1 x5_1).f2) _ _ ((rd_T38 l1 x5_1).f3) _ _ ((rd_T38 l1 x5_1).f4) _ _ ((rd_T38 l1 x5_1).f5) t496 _ ?side1 ?side2 ?side3 ?side4 ?side5 ?side6 ?side7 ?side8 A12.out).mono ?_
                        (case side1 => exact zc (Kd.C_below HR495_2.out HB.out))
                        (case side2 => exact HC495_2.out)
                        (case side3 => exact zc (Kd.C_below HR495_3.out HB.out))
                        (case side4 => exact HC495_3.out)
                        (case side5 => exact zc (Kd.C_below HR495_4.out HB.out))
                        (case side6 => exact HC495_4.out)
                        (case side7 => exact zc (Kd.C_below HR495_5.out HB.out))
                        (case side8 => exact HC495_5.out)
                        rintro e w19 ⟨v497, rfl, ho0, hb⟩
                        refine ⟨_, rfl, ?_⟩
                        have n0_ := Aside0.mk (Kd.R_elder' (zr HO494) (Kd.R_base ho0) hb)
                        have n1_ := Aside0.mk (Kd.R_lower (Kd.R_new' ho0 (Kd.R_lt (zr HO494))) (below_size (zb)))
                        have n2_ := Aside0.mk (below_step (zb) hb)
                        clear HO494
                        clear HB
                        have HO494 := n0_
                        have HO498 := n1_
                        have HB := n2_
                        clear n0_ n1_ n2_
                        (try clear hb)
                        (try clear hb2)
                        (try clear hk)
                        (try clear hi)
                        (try clear ho0)
                        refine hK.out _ _ ⟨((HB.out.cell (World.block_lt_of_cell? w _ hw487_0)).trans hw487_0), ((HB.out.cell (World.block_lt_of_cell? w _ hw487_1)).trans hw487_1), ((HB.out.cell (World.block_lt_of_cell? w _ hw487_2)).trans hw487_2), ((HB.out.cell (World.block_lt_of_cell? w _ hw487_3)).trans hw487_3), ((HB.out.cell (World.block_lt_of_cell? w _ hw487_4)).trans hw487_4), ((HB.out.cell (World.block_lt_of_cell? w _ hw487_5)).trans hw487_5), ((HB.out.cell (World.block_lt_of_cell? w _ hw489_0)).trans hw489_0), ((HB.out.cell (World.block_lt_of_cell? w _ hw489_1)).trans hw489_1), ((HB.out.cell (World.block_lt_of_cell? w _ hw489_2)).trans hw489_2), ((HB.out.cell (World.block_lt_of_cell? w _ hw489_3)).trans hw489_3), ((HB.out.cell (World.block_lt_of_cell? w _ hw489_4)).trans hw489_4), ((HB.out.cell (World.block_lt_of_cell? w _ hw489_5)).trans hw489_5), ((HB.out.cell (World.block_lt_of_cell? w _ hw491_0)).trans hw491_0), ((HB.out.cell (World.block_lt_of_cell? w _ hw491_1)).trans hw491_1), ((HB.out.cell (World.block_lt_of_cell? w _ hw491_2)).trans hw491_2), ((HB.out.cell (World.block_lt_of_cell? w _ hw491_3)).trans hw491_3), ((HB.out.cell (World.block_lt_of_cell? w _ hw491_4)).trans hw491_4), ((HB.out.cell (World.block_lt_of_cell? w _ hw491_5)).trans hw491_5), ((HB.out.cell (World.block_lt_of_cell? w _ hw495_0)).trans hw495_0), ((HB.out.cell (World.block_lt_of_cell? w _ hw495_1)).trans hw495_1), ((HB.out.cell (World.block_lt_of_cell? w _ hw495_2)).trans hw495_2), ((HB.out.cell (World.block_lt_of_cell? w _ hw495_3)).trans hw495_3), ((HB.out.cell (World.block_lt_of_cell? w _ hw495_4)).trans hw495_4), ((HB.out.cell (World.block_lt_of_cell? w _ hw495_5)).trans hw495_5)⟩ (fun hHeld => ?_)
                        clear hK K
                        refine norm_ (a' := ?_) ?_ ?_
                        rotate_left
                        · show Act.put _ (some 42) _ = _
                          simp only [Act.put, List.setIfInBounds_toArray, List.set_cons_zero, List.set_cons_succ, i64_w, i32_w]
                          rfl
                        refine one_ (i := 26) (N := some 43) #[true, true, true, true, true, true, true, true, true, true, true, true, true, true, true, true, true, true, true, true, true, true, true, true, true, true, true, false, false] rfl rfl (one_of HT_.out (by kernel_rfl)) (by decide) (fun K hK => ?_)
                        have hcv20 := own_string (P := Try.prog) Try.underlying24 Try.underlying5 Try.underlying9 (Kd.own_of_R HO498.out)
                        refine value_ (w1 := ?_) (v := ?_) (by rfl) rfl ?_ ?_
                        rotate_left 2
                        · go_simp
                          constructor
                          · rfl
                          · rfl
                        clear hcv20
                        refine hK.out _ _ ⟨((HB.out.cell (World.block_lt_of_cell? w _ hw487_0)).trans hw487_0), ((HB.out.cell (World.block_lt_of_cell? w _ hw487_1)).trans hw487_1), ((HB.out.cell (World.block_lt_of_cell? w _ hw487_2)).trans hw487_2), ((HB.out.cell (World.block_lt_of_cell? w _ hw487_3)).trans hw487_3), ((HB.out.cell (World.block_lt_of_cell? w _ hw487_4)).trans hw487_4), ((HB.out.cell (World.block_lt_of_cell? w _ hw487_5)).trans hw487_5), ((HB.out.cell (World.block_lt_of_cell? w _ hw489_0)).trans hw489_0), ((HB.out.cell (World.block_lt_of_cell? w _ hw489_1)).trans hw489_1), ((HB.out.cell (World.block_lt_of_cell? w _ hw489_2)).trans hw489_2), ((HB.out.cell (World.block_lt_of_cell? w _ hw489_3)).trans hw489_3), ((HB.out.cell (World.block_lt_of_cell? w _ hw489_4)).trans hw489_4), ((HB.out.cell (World.block_lt_of_cell? w _ hw489_5)).trans hw489_5), ((HB.out.cell (World.block_lt_of_cell? w _ hw491_0)).trans hw491_0), ((HB.out.cell (World.block_lt_of_cell? w _ hw491_1)).trans hw491_1), ((HB.out.cell (World.block_lt_of_cell? w _ hw491_2)).trans hw491_2), ((HB.out.cell (World.block_lt_of_cell? w _ hw491_3)).trans hw491_3), ((HB.out.cell (World.block_lt_of_cell? w _ hw491_4)).trans hw491_4), ((HB.out.cell (World.block_lt_of_cell? w _ hw491_5)).trans hw491_5), ((HB.out.cell (World.block_lt_of_cell? w _ hw495_0)).trans hw495_0), ((HB.out.cell (World.block_lt_of_cell? w _ hw495_1)).trans hw495_1), ((HB.out.cell (World.block_lt_of_cell? w _ hw495_2)).trans hw495_2), ((HB.out.cell (World.block_lt_of_cell? w _ hw495_3)).trans hw495_3), ((HB.out.cell (World.block_lt_of_cell? w _ hw495_4)).trans hw495_4), ((HB.out.cell (World.block_lt_of_cell? w _ hw495_5)).trans hw495_5)⟩ (fun hHeld => ?_)
                        clear hK K
                        refine norm_ (a' := ?_) ?_ ?_
                        rotate_left
                        · show Act.put _ (some 43) _ = _
                          simp only [Act.put, List.setIfInBounds_toArray, List.set_cons_zero, List.set_cons_succ, i64_w, i32_w]
                          rfl
                        exact norm_ (by simp only [putAll, Act.put, List.setIfInBounds_toArray, List.set_cons_zero, List.set_cons_succ]) (hCont (v497) _ ⟨hHeld, (by (with_reducible repeat (first | apply Kd.R_alloc | apply Kd.R_drewN | apply Kd.R_drew)); exact Kd.R_mono HO494.out (fun _ hk => hk.2)), (by (with_reducible repeat (first | apply Kd.R_alloc | apply Kd.R_drewN | apply Kd.R_drew)); exact Kd.R_mono HO498.out (fun _ hk => hk.2)), (zb)⟩)
                      · skip
                        refine goes_ Try.func25 (by kernel_rfl) rfl #[.agg #[.int .u8 ((rd_T38 l1 x5_1).f0), .int .u16 ((rd_T38 l1 x5_1).f1), .slice A489_2 ((rd_T38 l1 x5_1).f2).length c489_2, .slice A489_3 ((rd_T38 l1 x5_1).f3).length c489_3, .slice A489_4 ((rd_T38 l1 x5_1).f4).length c489_4, .slice A489_5 ((rd_T38 l1 x5_1).f5).length c489_5]] (by rfl) rfl rfl (by (try simp only [List.map_toArray, List.map_cons, List.map_nil]); first | done | rfl | (simp only [List.length_drop, List.length_take]; rfl)) ?_
                        with_reducible refine (garderoberef08_bytes.calls k1 ((rd_T38 l1 x5_1).f0) ((rd_T38 l1 x5_1).f1) _ _ ((rd_T38 l1 x5_1).f2) _ _ ((rd_T38 l1 x5_1).f3) _ _ ((rd_T38 l1 x5_1).f4) _ _ ((rd_T38 l1 x5_1).f5) t496 _ ?side1 ?side2 ?side3 ?side4 ?side5 ?side6 ?side7 ?side8 A12.out).mono ?_
                        (case side1 => exact zc (Kd.C_below HR495_2.out HB.out))
                        (case side2 => exact HC495_2.out)
                        (case side3 => exact zc (Kd.C_below HR495_3.out HB.out))
                        (case side4 => exact HC495_3.out)
                        (case side5 => exact zc (Kd.C_below HR495_4.out HB.out))
                        (case side6 => exact HC495_4.out)
                        (case side7 => exact zc (Kd.C_below HR495_5.out HB.out))
                        (case side8 => exact HC495_5.out)
                        rintro e w18 ⟨v497, rfl, ho0, hb⟩
                        refine ⟨_, rfl, ?_⟩
                        have n0_ := Aside0.mk (Kd.R_elder' (zr HO494) (Kd.R_base ho0) hb)
                        have n1_ := Aside0.mk (Kd.R_lower (Kd.R_new' ho0 (Kd.R_lt (zr HO494))) (below_size (zb)))
                        have n2_ := Aside0.mk (below_step (zb) hb)
                        clear HO494
                        clear HB
                        have HO494 := n0_
                        have HO498 := n1_
                        have HB := n2_
                        clear n0_ n1_ n2_
                        (try clear hb)
                        (try clear hb2)
                        (try clear hk)
                        (try clear hi)
                        (try clear ho0)
                        refine hK.out _ _ ⟨((HB.out.cell (World.block_lt_of_cell? w _ hw487_0)).trans hw487_0), ((HB.out.cell (World.block_lt_of_cell? w _ hw487_1)).trans hw487_1), ((HB.out.cell (World.block_lt_of_cell? w _ hw487_2)).trans hw487_2), ((HB.out.cell (World.block_lt_of_cell? w _ hw487_3)).trans hw487_3), ((HB.out.cell (World.block_lt_of_cell? w _ hw487_4)).trans hw487_4), ((HB.out.cell (World.block_lt_of_cell? w _ hw487_5)).trans hw487_5), ((HB.out.cell (World.block_lt_of_cell? w _ hw489_0)).trans hw489_0), ((HB.out.cell (World.block_lt_of_cell? w _ hw489_1)).trans hw489_1), ((HB.out.cell (World.block_lt_of_cell? w _ hw489_2)).trans hw489_2), ((HB.out.cell (World.block_lt_of_cell? w _ hw489_3)).trans hw489_3), ((HB.out.cell (World.block_lt_of_cell? w _ hw489_4)).trans hw489_4), ((HB.out.cell (World.block_lt_of_cell? w _ hw489_5)).trans hw489_5), ((HB.out.cell (World.block_lt_of_cell? w _ hw491_0)).trans hw491_0), ((HB.out.cell (World.block_lt_of_cell? w _ hw491_1)).trans hw491_1), ((HB.out.cell (World.block_lt_of_cell? w _ hw491_2)).trans hw491_2), ((HB.out.cell (World.block_lt_of_cell? w _ hw491_3)).trans hw491_3), ((HB.out.cell (World.block_lt_of_cell? w _ hw491_4)).trans hw491_4), ((HB.out.cell (World.block_lt_of_cell? w _ hw491_5)).trans hw491_5), ((HB.out.cell (World.block_lt_of_cell? w _ hw495_0)).trans hw495_0), ((HB.out.cell (World.block_lt_of_cell? w _ hw495_1)).trans hw495_1), ((HB.out.cell (World.block_lt_of_cell? w _ hw495_2)).trans hw495_2), ((HB.out.cell (World.block_lt_of_cell? w _ hw495_3)).trans hw495_3), ((HB.out.cell (World.block_lt_of_cell? w _ hw495_4)).trans hw495_4), ((HB.out.cell (World.block_lt_of_cell? w _ hw495_5)).trans hw495_5)⟩ (fun hHeld => ?_)
                        clear hK K
                        refine norm_ (a' := ?_) ?_ ?_
                        rotate_left
                        · show Act.put _ (some 42) _ = _
                          simp only [Act.put, List.setIfInBounds_toArray, List.set_cons_zero, List.set_cons_succ, i64_w, i32_w]
                          rfl
                        refine two_ (i := 20) (j := 26) (Ni := some 37) (Nj := some 43) #[true, true, true, true, true, true, true, true, true, true, true, true, true, true, true, true, true, true, true, true, true, true, true, true, true, true, false, false, false] #[true, true, true, true, true, true, true, true, true, true, true, true, true, true, true, true, true, true, true, true, false, true, true, true, true, true, true, false, false] rfl rfl rfl rfl (two_of HT_.out (by kernel_rfl)) (by decide) (by decide) (fun K hK => ?_) (fun K hK => ?_)
                        · skip
                          have hcv19 := own_string (P := Try.prog) Try.underlying24 Try.underlying5 Try.underlying9 (Kd.own_of_R HO494.out)
                          refine value_ (w1 := ?_) (v := ?_) (by rfl) rfl ?_ ?_
                          rotate_left 2
                          · go_simp
                            constructor
                            · rfl
                            · rfl
                          clear hcv19
                          refine hK.out _ _ ⟨((HB.out.cell (World.block_lt_of_cell? w _ hw487_0)).trans hw487_0), ((HB.out.cell (World.block_lt_of_cell? w _ hw487_1)).trans hw487_1), ((HB.out.cell (World.block_lt_of_cell? w _ hw487_2)).trans hw487_2), ((HB.out.cell (World.block_lt_of_cell? w _ hw487_3)).trans hw487_3), ((HB.out.cell (World.block_lt_of_cell? w _ hw487_4)).trans hw487_4), ((HB.out.cell (World.block_lt_of_cell? w _ hw487_5)).trans hw487_5), ((HB.out.cell (World.block_lt_of_cell? w _ hw489_0)).trans hw489_0), ((HB.out.cell (World.block_lt_of_cell? w _ hw489_1)).trans hw489_1), ((HB.out.cell (World.block_lt_of_cell? w _ hw489_2)).trans hw489_2), ((HB.out.cell (World.block_lt_of_cell? w _ hw489_3)).trans hw489_3), ((HB.out.cell (World.block_lt_of_cell? w _ hw489_4)).trans hw489_4), ((HB.out.cell (World.block_lt_of_cell? w _ hw489_5)).trans hw489_5), ((HB.out.cell (World.block_lt_of_cell? w _ hw491_0)).trans hw491_0), ((HB.out.cell (World.block_lt_of_cell? w _ hw491_1)).trans hw491_1), ((HB.out.cell (World.block_lt_of_cell? w _ hw491_2)).trans hw491_2), ((HB.out.cell (World.block_lt_of_cell? w _ hw491_3)).trans hw491_3), ((HB.out.cell (World.block_lt_of_cell? w _ hw491_4)).trans hw491_4), ((HB.out.cell (World.block_lt_of_cell? w _ hw491_5)).trans hw491_5), ((HB.out.cell (World.block_lt_of_cell? w _ hw495_0)).trans hw495_0), ((HB.out.cell (World.block_lt_of_cell? w _ hw495_1)).trans hw495_1), ((HB.out.cell (World.block_lt_of_cell? w _ hw495_2)).trans hw495_2), ((HB.out.cell (World.block_lt_of_cell? w _ hw495_3)).trans hw495_3), ((HB.out.cell (World.block_lt_of_cell? w _ hw495_4)).trans hw495_4), ((HB.out.cell (World.block_lt_of_cell? w _ hw495_5)).trans hw495_5)⟩ (fun hHeld => ?_)
                          clear hK K
                          refine norm_ (a' := ?_) ?_ ?_
                          rotate_left
                          · show Act.put _ (some 37) _ = _
                            simp only [Act.put, List.setIfInBounds_toArray, List.set_cons_zero, List.set_cons_succ, i64_w, i32_w]
                            rfl
                          refine one_ (i := 26) (N := some 43) #[true, true, true, true, true, true, true, true, true, true, true, true, true, true, true, true, true, true, true, true, true, true, true, true, true, true, true, false, false] rfl rfl (one_of HT_.out (by kernel_rfl)) (by decide) (fun K hK => ?_)
                          have hcv20 := own_string (P := Try.prog) Try.underlying24 Try.underlying5 Try.underlying9 (Kd.own_of_R HO498.out)
                          refine value_ (w1 := ?_) (v := ?_) (by rfl) rfl ?_ ?_
                          rotate_left 2
                          · go_simp
                            constructor
                            · rfl
                            · rfl
                          clear hcv20
                          refine hK.out _ _ ⟨((HB.out.cell (World.block_lt_of_cell? w _ hw487_0)).trans hw487_0), ((HB.out.cell (World.block_lt_of_cell? w _ hw487_1)).trans hw487_1), ((HB.out.cell (World.block_lt_of_cell? w _ hw487_2)).trans hw487_2), ((HB.out.cell (World.block_lt_of_cell? w _ hw487_3)).trans hw487_3), ((HB.out.cell (World.block_lt_of_cell? w _ hw487_4)).trans hw487_4), ((HB.out.cell (World.block_lt_of_cell? w _ hw487_5)).trans hw487_5), ((HB.out.cell (World.block_lt_of_cell? w _ hw489_0)).trans hw489_0), ((HB.out.cell (World.block_lt_of_cell? w _ hw489_1)).trans hw489_1), ((HB.out.cell (World.block_lt_of_cell? w _ hw489_2)).trans hw489_2), ((HB.out.cell (World.block_lt_of_cell? w _ hw489_3)).trans hw489_3), ((HB.out.cell (World.block_lt_of_cell? w _ hw489_4)).trans hw489_4), ((HB.out.cell (World.block_lt_of_cell? w _ hw489_5)).trans hw489_5), ((HB.out.cell (World.block_lt_of_cell? w _ hw491_0)).trans hw491_0), ((HB.out.cell (World.block_lt_of_cell? w _ hw491_1)).trans hw491_1), ((HB.out.cell (World.block_lt_of_cell? w _ hw491_2)).trans hw491_2), ((HB.out.cell (World.block_lt_of_cell? w _ hw491_3)).trans hw491_3), ((HB.out.cell (World.block_lt_of_cell? w _ hw491_4)).trans hw491_4), ((HB.out.cell (World.block_lt_of_cell? w _ hw491_5)).trans hw491_5), ((HB.out.cell (World.block_lt_of_cell? w _ hw495_0)).trans hw495_0), ((HB.out.cell (World.block_lt_of_cell? w _ hw495_1)).trans hw495_1), ((HB.out.cell (World.block_lt_of_cell? w _ hw495_2)).trans hw495_2), ((HB.out.cell (World.block_lt_of_cell? w _ hw495_3)).trans hw495_3), ((HB.out.cell (World.block_lt_of_cell? w _ hw495_4)).trans hw495_4), ((HB.out.cell (World.block_lt_of_cell? w _ hw495_5)).trans hw495_5)⟩ (fun hHeld => ?_)
                          clear hK K
                          refine norm_ (a' := ?_) ?_ ?_
                          rotate_left
                          · show Act.put _ (some 43) _ = _
                            simp only [Act.put, List.setIfInBounds_toArray, List.set_cons_zero, List.set_cons_succ, i64_w, i32_w]
                            rfl
                          exact norm_ (by simp only [putAll, Act.put, List.setIfInBounds_toArray, List.set_cons_zero, List.set_cons_succ]) (hCont (v497) _ ⟨hHeld, (by (with_reducible repeat (first | apply Kd.R_alloc | apply Kd.R_drewN | apply Kd.R_drew)); exact Kd.R_mono HO494.out (fun _ hk => hk.2)), (by (with_reducible repeat (first | apply Kd.R_alloc | apply Kd.R_drewN | apply Kd.R_drew)); exact Kd.R_mono HO498.out (fun _ hk => hk.2)), (zb)⟩)
                        · skip
                          have hcv19 := own_string (P := Try.prog) Try.underlying24 Try.underlying5 Try.underlying9 (Kd.own_of_R HO498.out)
                          refine value_ (w1 := ?_) (v := ?_) (by rfl) rfl ?_ ?_
                          rotate_left 2
                          · go_simp
                            constructor
                            · rfl
                            · rfl
                          clear hcv19
                          refine hK.out _ _ ⟨((HB.out.cell (World.block_lt_of_cell? w _ hw487_0)).trans hw487_0), ((HB.out.cell (World.block_lt_of_cell? w _ hw487_1)).trans hw487_1), ((HB.out.cell (World.block_lt_of_cell? w _ hw487_2)).trans hw487_2), ((HB.out.cell (World.block_lt_of_cell? w _ hw487_3)).trans hw487_3), ((HB.out.cell (World.block_lt_of_cell? w _ hw487_4)).trans hw487_4), ((HB.out.cell (World.block_lt_of_cell? w _ hw487_5)).trans hw487_5), ((HB.out.cell (World.block_lt_of_cell? w _ hw489_0)).trans hw489_0), ((HB.out.cell (World.block_lt_of_cell? w _ hw489_1)).trans hw489_1), ((HB.out.cell (World.block_lt_of_cell? w _ hw489_2)).trans hw489_2), ((HB.out.cell (World.block_lt_of_cell? w _ hw489_3)).trans hw489_3), ((HB.out.cell (World.block_lt_of_cell? w _ hw489_4)).trans hw489_4), ((HB.out.cell (World.block_lt_of_cell? w _ hw489_5)).trans hw489_5), ((HB.out.cell (World.block_lt_of_cell? w _ hw491_0)).trans hw491_0), ((HB.out.cell (World.block_lt_of_cell? w _ hw491_1)).trans hw491_1), ((HB.out.cell (World.block_lt_of_cell? w _ hw491_2)).trans hw491_2), ((HB.out.cell (World.block_lt_of_cell? w _ hw491_3)).trans hw491_3), ((HB.out.cell (World.block_lt_of_cell? w _ hw491_4)).trans hw491_4), ((HB.out.cell (World.block_lt_of_cell? w _ hw491_5)).trans hw491_5), ((HB.out.cell (World.block_lt_of_cell? w _ hw495_0)).trans hw495_0), ((HB.out.cell (World.block_lt_of_cell? w _ hw495_1)).trans hw495_1), ((HB.out.cell (World.block_lt_of_cell? w _ hw495_2)).trans hw495_2), ((HB.out.cell (World.block_lt_of_cell? w _ hw495_3)).trans hw495_3), ((HB.out.cell (World.block_lt_of_cell? w _ hw495_4)).trans hw495_4), ((HB.out.cell (World.block_lt_of_cell? w _ hw495_5)).trans hw495_5)⟩ (fun hHeld => ?_)
                          clear hK K
                          refine norm_ (a' := ?_) ?_ ?_
                          rotate_left
                          · show Act.put _ (some 43) _ = _
                            simp only [Act.put, List.setIfInBounds_toArray, List.set_cons_zero, List.set_cons_succ, i64_w, i32_w]
                            rfl
                          refine one_ (i := 20) (N := some 37) #[true, true, true, true, true, true, true, true, true, true, true, true, true, true, true, true, true, true, true, true, true, true, true, true, true, true, true, false, false] rfl rfl (one_of HT_.out (by kernel_rfl)) (by decide) (fun K hK => ?_)
                          have hcv20 := own_string (P := Try.prog) Try.underlying24 Try.underlying5 Try.underlying9 (Kd.own_of_R HO494.out)
                          refine value_ (w1 := ?_) (v := ?_) (by rfl) rfl ?_ ?_
                          rotate_left 2
                          · go_simp
                            constructor
                            · rfl
                            · rfl
                          clear hcv20
                          refine hK.out _ _ ⟨((HB.out.cell (World.block_lt_of_cell? w _ hw487_0)).trans hw487_0), ((HB.out.cell (World.block_lt_of_cell? w _ hw487_1)).trans hw487_1), ((HB.out.cell (World.block_lt_of_cell? w _ hw487_2)).trans hw487_2), ((HB.out.cell (World.block_lt_of_cell? w _ hw487_3)).trans hw487_3), ((HB.out.cell (World.block_lt_of_cell? w _ hw487_4)).trans hw487_4), ((HB.out.cell (World.block_lt_of_cell? w _ hw487_5)).trans hw487_5), ((HB.out.cell (World.block_lt_of_cell? w _ hw489_0)).trans hw489_0), ((HB.out.cell (World.block_lt_of_cell? w _ hw489_1)).trans hw489_1), ((HB.out.cell (World.block_lt_of_cell? w _ hw489_2)).trans hw489_2), ((HB.out.cell (World.block_lt_of_cell? w _ hw489_3)).trans hw489_3), ((HB.out.cell (World.block_lt_of_cell? w _ hw489_4)).trans hw489_4), ((HB.out.cell (World.block_lt_of_cell? w _ hw489_5)).trans hw489_5), ((HB.out.cell (World.block_lt_of_cell? w _ hw491_0)).trans hw491_0), ((HB.out.cell (World.block_lt_of_cell? w _ hw491_1)).trans hw491_1), ((HB.out.cell (World.block_lt_of_cell? w _ hw491_2)).trans hw491_2), ((HB.out.cell (World.block_lt_of_cell? w _ hw491_3)).trans hw491_3), ((HB.out.cell (World.block_lt_of_cell? w _ hw491_4)).trans hw491_4), ((HB.out.cell (World.block_lt_of_cell? w _ hw491_5)).trans hw491_5), ((HB.out.cell (World.block_lt_of_cell? w _ hw495_0)).trans hw495_0), ((HB.out.cell (World.block_lt_of_cell? w _ hw495_1)).trans hw495_1), ((HB.out.cell (World.block_lt_of_cell? w _ hw495_2)).trans hw495_2), ((HB.out.cell (World.block_lt_of_cell? w _ hw495_3)).trans hw495_3), ((HB.out.cell (World.block_lt_of_cell? w _ hw495_4)).trans hw495_4), ((HB.out.cell (World.block_lt_of_cell? w _ hw495_5)).trans hw495_5)⟩ (fun hHeld => ?_)
                          clear hK K
                          refine norm_ (a' := ?_) ?_ ?_
                          rotate_left
                          · show Act.put _ (some 37) _ = _
                            simp only [Act.put, List.setIfInBounds_toArray, List.set_cons_zero, List.set_cons_succ, i64_w, i32_w]
                            rfl
                          exact norm_ (by simp only [putAll, Act.put, List.setIfInBounds_toArray, List.set_cons_zero, List.set_cons_succ]) (hCont (v497) _ ⟨hHeld, (by (with_reducible repeat (first | apply Kd.R_alloc | apply Kd.R_drewN | apply Kd.R_drew)); exact Kd.R_mono HO494.out (fun _ hk => hk.2)), (by (with_reducible repeat (first | apply Kd.R_alloc | apply Kd.R_drewN | apply Kd.R_drew)); exact Kd.R_mono HO498.out (fun _ hk => hk.2)), (zb)⟩)
                    rintro v497 w21 ⟨hS_, h0_, h1_, h2_⟩
                    have n0_ : Aside0 (Kd.R (Kd.int .u8) 5 w21 w.heap.size (fun k_ => some k_ ≠ (v497 : Value).ownBlock) v493 t492) := ⟨h0_⟩
                    have n1_ : Aside0 (Kd.R (Kd.int .u8) 5 w21 w.heap.size (fun k_ => some k_ ≠ (v493 : Value).ownBlock) v497 t496) := ⟨h1_⟩
                    have n2_ : Aside0 (Below w.heap.size w w21) := ⟨h2_⟩
                    clear HB
                    clear h0_ h1_ h2_
                    have HO494 := n0_
                    have HO498 := n1_
                    have HB := n2_
                    clear n0_ n1_ n2_
                    have hHeld : w21.cell? (ad487.add ((x5_1).toNat * 6)) = some (.int .u8 ((rd_T38 l0 x5_1).f0)) ∧ w21.cell? ⟨(ad487.add ((x5_1).toNat * 6)).block, (ad487.add ((x5_1).toNat * 6)).off + 1, none⟩ = some (.int .u16 ((rd_T38 l0 x5_1).f1)) ∧ w21.cell? ⟨(ad487.add ((x5_1).toNat * 6)).block, (ad487.add ((x5_1).toNat * 6)).off + 2, none⟩ = some (.slice A487_2 ((rd_T38 l0 x5_1).f2).length c487_2) ∧ w21.cell? ⟨(ad487.add ((x5_1).toNat * 6)).block, (ad487.add ((x5_1).toNat * 6)).off + 3, none⟩ = some (.slice A487_3 ((rd_T38 l0 x5_1).f3).length c487_3) ∧ w21.cell? ⟨(ad487.add ((x5_1).toNat * 6)).block, (ad487.add ((x5_1).toNat * 6)).off + 4, none⟩ = some (.slice A487_4 ((rd_T38 l0 x5_1).f4).length c487_4) ∧ w21.cell? ⟨(ad487.add ((x5_1).toNat * 6)).block, (ad487.add ((x5_1).toNat * 6)).off + 5, none⟩ = some (.slice A487_5 ((rd_T38 l0 x5_1).f5).length c487_5) ∧ w21.cell? (ad489.add ((x5_1).toNat * 6)) = some (.int .u8 ((rd_T38 l1 x5_1).f0)) ∧ w21.cell? ⟨(ad489.add ((x5_1).toNat * 6)).block, (ad489.add ((x5_1).toNat * 6)).off + 1, none⟩ = some (.int .u16 ((rd_T38 l1 x5_1).f1)) ∧ w21.cell? ⟨(ad489.add ((x5_1).toNat * 6)).block, (ad489.add ((x5_1).toNat * 6)).off + 2, none⟩ = some (.slice A489_2 ((rd_T38 l1 x5_1).f2).length c489_2) ∧ w21.cell? ⟨(ad489.add ((x5_1).toNat * 6)).block, (ad489.add ((x5_1).toNat * 6)).off + 3, none⟩ = some (.slice A489_3 ((rd_T38 l1 x5_1).f3).length c489_3) ∧ w21.cell? ⟨(ad489.add ((x5_1).toNat * 6)).block, (ad489.add ((x5_1).toNat * 6)).off + 4, none⟩ = some (.slice A489_4 ((rd_T38 l1 x5_1).f4).length c489_4) ∧ w21.cell? ⟨(ad489.add ((x5_1).toNat * 6)).block, (ad489.add ((x5_1).toNat * 6)).off + 5, none⟩ = some (.slice A489_5 ((rd_T38 l1 x5_1).f5).length c489_5) ∧ w21.cell? (ad487.add ((x5_1).toNat * 6)) = some (.int .u8 ((rd_T38 l0 x5_1).f0)) ∧ w21.cell? ⟨(ad487.add ((x5_1).toNat * 6)).block, (ad487.add ((x5_1).toNat * 6)).off + 1, none⟩ = some (.int .u16 ((rd_T38 l0 x5_1).f1)) ∧ w21.cell? ⟨(ad487.add ((x5_1).toNat * 6)).block, (ad487.add ((x5_1).toNat * 6)).off + 2, none⟩ = some (.slice A487_2 ((rd_T38 l0 x5_1).f2).length c487_2) ∧ w21.cell? ⟨(ad487.add ((x5_1).toNat * 6)).block, (ad487.add ((x5_1).toNat * 6)).off + 3, none⟩ = some (.slice A487_3 ((rd_T38 l0 x5_1).f3).length c487_3) ∧ w21.cell? ⟨(ad487.add ((x5_1).toNat * 6)).block, (ad487.add ((x5_1).toNat * 6)).off + 4, none⟩ = some (.slice A487_4 ((rd_T38 l0 x5_1).f4).length c487_4) ∧ w21.cell? ⟨(ad487.add ((x5_1).toNat * 6)).block, (ad487.add ((x5_1).toNat * 6)).off + 5, none⟩ = some (.slice A487_5 ((rd_T38 l0 x5_1).f5).length c487_5) ∧ w21.cell? (ad489.add ((x5_1).toNat * 6)) = some (.int .u8 ((rd_T38 l1 x5_1).f0)) ∧ w21.cell? ⟨(ad489.add ((x5_1).toNat * 6)).block, (ad489.add ((x5_1).toNat * 6)).off + 1, none⟩ = some (.int .u16 ((rd_T38 l1 x5_1).f1)) ∧ w21.cell? ⟨(ad489.add ((x5_1).toNat * 6)).block, (ad489.add ((x5_1).toNat * 6)).off + 2, none⟩ = some (.slice A489_2 ((rd_T38 l1 x5_1).f2).length c489_2) ∧ w21.cell? ⟨(ad489.add ((x5_1).toNat * 6)).block, (ad489.add ((x5_1).toNat * 6)).off + 3, none⟩ = some (.slice A489_3 ((rd_T38 l1 x5_1).f3).length c489_3) ∧ w21.cell? ⟨(ad489.add ((x5_1).toNat * 6)).block, (ad489.add ((x5_1).toNat * 6)).off + 4, none⟩ = some (.slice A489_4 ((rd_T38 l1 x5_1).f4).length c489_4) ∧ w21.cell? ⟨(ad489.add ((x5_1).toNat * 6)).block, (ad489.add ((x5_1).toNat * 6)).off + 5, none⟩ = some (.slice A489_5 ((rd_T38 l1 x5_1).f5).length c489_5) := hS_
                    refine norm_ (a' := ?_) ?_ ?_
                    rotate_left
                    · simp only [putAll, Act.put, List.setIfInBounds_toArray, List.set_cons_zero, List.set_cons_succ]
                      rfl
                    refine pure_ (i := 27) (N := some 44) (v := ?_) (a' := ?_) #[true, true, true, true, true, true, true, true, true, true, true, true, true, true, true, true, true, true, true, true, true, true, true, true, true, true, true, true, false] rfl rfl (any_of HT_.out (by kernel_rfl)) (fun _ _ _ h => h) (Or.inl ⟨by rfl, ?_⟩) ?_ ?_
                    rotate_left
                    · intro w'
                      go_simp
                      with_reducible rfl
                    rotate_left
                    · simp only [Act.put, List.setIfInBounds_toArray, List.set_cons_zero, List.set_cons_succ, i64_w, i32_w]
                      rfl
                    refine pure_ (i := 28) (N := some 45) (v := ?_) (a' := ?_) #[true, true, true, true, true, true, true, true, true, true, true, true, true, true, true, true, true, true, true, true, true, true, true, true, true, true, true, true, true] rfl rfl (any_of HT_.out (by kernel_rfl)) (fun _ _ _ h => h) (Or.inl ⟨by rfl, ?_⟩) ?_ ?_
                    rotate_left
                    · intro w'
                      go_simp
                      with_reducible rfl
                    rotate_left
                    · simp only [Act.put, List.setIfInBounds_toArray, List.set_cons_zero, List.set_cons_succ, i64_w, i32_w]
                      rfl
                    refine done_ (done_of HT_.out (by kernel_rfl)) ?_
                    try go_wp2
                    go_roundg k1
                    case measure => have := HK1.out; omega
                    case rel => exact ⟨(wrap64 (x5_1 + 1)), zs, H', ⟨by have := HK1.out; omega⟩, ⟨zb⟩⟩
                  · rw [if_neg c13] at H
                    exact absurd H (by simp)
                · replace c10 := Bool.eq_false_iff.mpr c10
                  subst c10
                  have H1 : (none) = some r := by rw [if_neg (show ¬ (false = true) by decide)] at H; exact H
                  clear H
                  have H := H1
                  clear H1
                  exact absurd H (by simp)
              · rw [if_neg c8] at H
                exact absurd H (by simp)
            · replace c7 := Bool.eq_false_iff.mpr c7
              subst c7
              have H1 : (none) = some r := by rw [if_neg (show ¬ (false = true) by decide)] at H; exact H
              clear H
              have H := H1
              clear H1
              exact absurd H (by simp)
          · rw [if_neg c5] at H
            exact absurd H (by simp)
        · rw [if_neg c4] at H
          have c4b0 : decide (x5_1 < (l0.length : Int)) = false := decide_eq_false c4
          clear c4
          obtain rfl := Option.some.inj H
          go_wp2
          go_ret
          exact ⟨ze, zb⟩
  · rw [if_neg c3] at H
    exact absurd H (by simp)
/-- Of w's blocks those of other types stay; those of types 5 and 44 keep their size, and bytes stay bytes. -/
def Stay (w w' : World) : Prop := ∀ (k : Nat) (cur : Array Value) (t : TypeId), w.heap[k]? = some (.cells cur t (0, 0)) → ∃ cur' : Array Value, w'.heap[k]? = some (.cells cur' t (0, 0)) ∧ cur'.size = cur.size ∧ (t ≠ 5 → t ≠ 44 → cur' = cur) ∧ (t = 5 → cur.toList.all isU8 = true → cur'.toList.all isU8 = true)
theorem Stay.refl (w : World) : Stay w w := fun _ cur _ h => ⟨cur, h, rfl, fun _ _ => rfl, fun _ h => h⟩
theorem Stay.trans {w w1 w2 : World} (h : Stay w w1) (h2 : Stay w1 w2) : Stay w w2 := fun k cur t hc => by
  obtain ⟨c1, a1, a2, a3, a4⟩ := h k cur t hc
  obtain ⟨c2, b1, b2, b3, b4⟩ := h2 k c1 t a1
  exact ⟨c2, b1, b2.trans a2, fun h5 h6 => (b3 h5 h6).trans (a3 h5 h6), fun h5 h6 => b4 h5 (a4 h5 h6)⟩
theorem Stay.set44 {w w1 : World} (h : Stay w w1) {g : Nat} {cur : Array Value} (hh : w1.heap[g]? = some (.cells cur 44 (0, 0))) (i : Nat) (u : Value) : Stay w (w1.setCell ⟨g, i, none⟩ u) :=
  h.trans (fun k c t hc => by
    by_cases e : k = g
    · subst e
      rw [hh] at hc
      injection hc with hc
      injection hc with e1 e2
      subst e1 e2
      exact ⟨_, blk_set hh i u, by simp, fun _ h6 => absurd rfl h6, fun h5 => absurd h5 (by decide)⟩
    · exact ⟨c, blk_far (p := ⟨g, i, none⟩) hc e u, rfl, fun _ _ => rfl, fun _ h6 => h6⟩)
theorem Stay.spoil {w w1 w2 : World} (h : Stay w w1) {b : Nat} {ok ok' : Nat → Prop} {v : Value} {xs ys : List Int} (h1 : Kr.R (Kd.int .u8) 5 w1 b ok v xs) (h2 : Kr.R (Kd.int .u8) 5 w2 b ok' v ys) (hk : Kept w1 w2 (fun k => v.ownBlock = some k)) : Stay w w2 :=
  h.trans (fun k c t hc => by
    by_cases e : v.ownBlock = some k
    · obtain ⟨_, i1, o1, _⟩ := h1.1
      obtain ⟨_, i2, o2, _⟩ := h2.1
      rcases o1.2 with ⟨rfl, _⟩ | ⟨g, cap, cur, rfl, _, hh, _, _, hs, _⟩
      · simp [Value.ownBlock] at e
      · have hg : g = k := by simpa [Value.ownBlock] using e
        subst hg
        rcases o2.2 with ⟨e2, _⟩ | ⟨g2, cap2, cur2, e2, _, hh2, _, _, hs2, _⟩
        · injection e2 with e3; cases e3
        · injection e2 with e3 _ e4
          injection e3 with e3
          injection e3 with e3
          subst e3 e4
          rw [hh] at hc
          injection hc with hc
          injection hc with q1 q2
          subst q1 q2
          exact ⟨cur2, hh2, by rw [hs, hs2], fun h5 => absurd rfl h5, fun _ _ => h2.2 _ _ _ _ rfl hh2 rfl⟩
    · exact ⟨c, (hk.2 k (blk_lt hc) e).trans hc, rfl, fun _ _ => rfl, fun _ h6 => h6⟩)
/-- An element's cells within its row's block. -/
theorem row_cells {α : Type} {d : Kd α} {e : Nat} {w : World} {base : Nat} {ok : Nat → Prop} {A : Option Addr} {n c : Nat} {xs : List α} (h : Kd.R d e w base ok (.slice A n c) xs) (z : α) (x : Int) (h0 : 0 ≤ x) (h1 : x < xs.length) :
    ∃ g cur cs, A = some ⟨g, 0, none⟩ ∧ base ≤ g ∧ w.heap[g]? = some (.cells cur e (0, 0)) ∧ d.M w base ok (xs.getD x.toNat z) cs ∧ ∀ j u, cs[j]? = some u → cur[x.toNat * d.sz + j]? = some u := by
  obtain ⟨_, inner, ho, hr⟩ := h
  have hx : x.toNat < xs.length := by omega
  have hm := hr.2 x.toNat xs[x.toNat] (List.getElem?_eq_getElem hx)
  rcases ho.2 with ⟨_, e1⟩ | ⟨g, cap, cur, e1, hb, hh, _, _, _, ht⟩
  · exact absurd e1 (by omega)
  · injection e1 with e1 e2 e3
    subst e1
    refine ⟨g, cur, _, rfl, hb, hh, by rw [List.getD_eq_getElem?_getD, List.getElem?_eq_getElem hx]; exact d.M_mono (fun _ h_ => h_.1) hm, fun j u hj => ?_⟩
    rw [List.getElem?_take] at hj
    split at hj
    · rw [List.getElem?_drop, ← ht, List.getElem?_take] at hj
      split at hj
      · rwa [Array.getElem?_toList] at hj
      · cases hj
    · cases hj
/-- .. at a world where types' and bytes' blocks alone were written: an element's cell (t is neither 5 nor 44). -/
theorem stay_cell {w w' : World} {g t : Nat} {cur : Array Value} {u : Value} (hs : Stay w w') (hh : w.heap[g]? = some (.cells cur t (0, 0))) (h5 : t ≠ 5) (h6 : t ≠ 44) {j : Nat} (hc : cur[j]? = some u) : w'.cell? ⟨g, j, none⟩ = some u := by
  obtain ⟨c1, a1, _, a3, _⟩ := hs g cur t hh
  obtain rfl := a3 h5 h6
  exact (blk_cell a1 j).trans hc
/-- A class's Ifaces and Fields, and the cells that hold them. -/
theorem at_38r {w w' : World} {base : Nat} {A : Option Addr} {n c : Nat} {xs : List S38} (h : Kd.R k38r 38 w base (fun _ => True) (.slice A n c) xs) (hs : Stay w w') (x : Int) (h0 : 0 ≤ x) (h1 : x < xs.length) :
    ∃ g A2 c2 A3 c3, A = some ⟨g, 0, none⟩ ∧ w'.cell? ⟨g, x.toNat * 6 + 2, none⟩ = some (.slice A2 (rd_T38 xs x).f2.length c2) ∧ w'.cell? ⟨g, x.toNat * 6 + 3, none⟩ = some (.slice A3 (rd_T38 xs x).f3.length c3) ∧
      Kd.R k41r 41 w base (fun _ => True) (.slice A2 (rd_T38 xs x).f2.length c2) (rd_T38 xs x).f2 ∧ Kd.R k44 44 w base (fun _ => True) (.slice A3 (rd_T38 xs x).f3.length c3) (rd_T38 xs x).f3 := by
  obtain ⟨g, cur, cs, rfl, _, hh, hm, hc⟩ := row_cells h z38 x h0 h1
  obtain ⟨v2, v3, v4, v5, rfl, g2, g3, _, _⟩ := k38r_openM hm
  obtain ⟨A2, c2, rfl⟩ := Kd.R_slice g2
  obtain ⟨A3, c3, rfl⟩ := Kd.R_slice g3
  exact ⟨g, A2, c2, A3, c3, rfl, stay_cell hs hh (by decide) (by decide) (hc 2 _ rfl), stay_cell hs hh (by decide) (by decide) (hc 3 _ rfl), g2, g3⟩
/-- An iface's Map, with its room, as it now is. -/
theorem at_41r {w w' : World} {base : Nat} {A : Option Addr} {n c : Nat} {xs : List S41} (h : Kd.R k41r 41 w base (fun _ => True) (.slice A n c) xs) (hs : Stay w w') (x : Int) (h0 : 0 ≤ x) (h1 : x < xs.length) :
    ∃ g A1 c1 l1, A = some ⟨g, 0, none⟩ ∧ w'.cell? ⟨g, x.toNat * 2 + 1, none⟩ = some (.slice A1 (rd_T41 xs x).f1.length c1) ∧ Kr.R (Kd.int .u8) 5 w' base (fun k => (Value.slice A1 (rd_T41 xs x).f1.length c1).ownBlock = some k) (.slice A1 (rd_T41 xs x).f1.length c1) l1 := by
  obtain ⟨g, cur, cs, rfl, _, hh, hm, hc⟩ := row_cells h z41 x h0 h1
  obtain ⟨v1, rfl, g1⟩ := k41r_openM hm
  obtain ⟨A1, c1, rfl⟩ := Kr.R_slice g1
  refine ⟨g, A1, c1, ?_⟩
  have hq := stay_cell hs hh (by decide) (by decide) (hc 1 _ rfl)
  obtain ⟨_, inner, ho, _⟩ := g1.1
  rcases ho.2 with ⟨e1, e2⟩ | ⟨g', cap, cur', e1, hb, hh', h2, h3, h4, _⟩
  · injection e1 with e1 e3 e4
    subst e1 e4
    refine ⟨[], rfl, hq, ?_⟩
    have e5 : (rd_T41 xs x).f1.length = 0 := e2
    rw [e5]
    exact Kr.R_nil _ _ _ _ _
  · injection e1 with e1 e3 e4
    subst e1 e4
    obtain ⟨c2, b1, b2, _, b4⟩ := hs g' cur' 5 hh'
    have h5 : cur'.size = c1 := (show cur'.size = c1 * 1 from h4).trans (Nat.mul_one _)
    have hall := b4 rfl (g1.2 _ _ _ _ rfl hh' rfl)
    obtain ⟨L, hL⟩ : ∃ L : List Int, encs (Value.int .u8) L = c2.toList := ⟨c2.toList.map numU8, nums_of_u8 _ hall⟩
    have hLl : L.length = c1 := by
      have := congrArg List.length hL
      simp [encs] at this
      omega
    refine ⟨L.take (rd_T41 xs x).f1.length, rfl, hq, ⟨Kd.R_of_own (h1 := fun _ => rfl) ?_ (fun k hk => hk), ?_⟩⟩
    · have hl2 : (L.take (rd_T41 xs x).f1.length).length = (rd_T41 xs x).f1.length := by rw [List.length_take, hLl]; exact Nat.min_eq_left h2
      refine ⟨by simp [encs], .inr ⟨g', c1, c2, by rw [hl2], hb, b1, by rw [hl2]; exact h2, h3, by rw [b2, h5, Nat.mul_one], ?_⟩⟩
      rw [hl2, ← hL]
      simp [encs, List.map_take]
    · exact Room.of b1 (fun _ => hall)
/-- A field's cells. -/
theorem at_44r {w w' : World} {base : Nat} {A : Option Addr} {n c : Nat} {xs : List S44} (h : Kd.R k44 44 w base (fun _ => True) (.slice A n c) xs) (hs : Stay w w') (x : Int) (h0 : 0 ≤ x) (h1 : x < xs.length) :
    ∃ g cur u0 u1, A = some ⟨g, 0, none⟩ ∧ base ≤ g ∧ w'.heap[g]? = some (.cells cur 44 (0, 0)) ∧ w'.cell? ⟨g, x.toNat * 2, none⟩ = some u0 ∧ w'.cell? ⟨g, x.toNat * 2 + 1, none⟩ = some u1 := by
  obtain ⟨g, cur, cs, rfl, hb, hh, hm, hc⟩ := row_cells h z44 x h0 h1
  obtain ⟨c2, b1, b2, _, _⟩ := hs g cur 44 hh
  obtain rfl := k44_openM hm
  have h3 := hc 1 _ rfl
  have hl : x.toNat * 2 + 1 < cur.size := (Array.getElem?_eq_some_iff.1 h3).1
  rw [← b2] at hl
  exact ⟨g, c2, c2[x.toNat * 2], c2[x.toNat * 2 + 1], rfl, hb, b1, (blk_cell b1 _).trans (Array.getElem?_eq_getElem (by omega)), (blk_cell b1 _).trans (Array.getElem?_eq_getElem hl)⟩
def garderobelaw08_ClassFresh.f (k : Nat) (l0 : List Int) : Option (Bool) := (garderoberef00_Wide.f k l0).bind fun x => (class_Get.f k x).bind fun t => (garderoberef08_Get.f k l0).bind fun s => (garderoberef00_Left.f k x l0).bind fun lf => if lf = true then (if t.2 = s.2 then (garderoberef08_Same.f k t.1 s.1).bind fun q => if q = true then garderobelaw08_works.f k else none else none) else none
set_option maxHeartbeats 8000000 in
set_option maxRecDepth 100000 in
theorem garderobelaw08_ClassFresh.calls (k : Nat) (A0 : Option Addr) (c0 : Nat) (l0 : List Int) (r : Bool) (w : World) (hr0 : Kd.C (Kd.int .u8) w A0 l0.length l0) (hc0 : l0.length ≤ c0) (h : garderobelaw08_ClassFresh.f k l0 = some r) :
    Calls Try.prog 4 #[.slice A0 l0.length c0] w fun e w' => e = .returned (.bool r) ∧ Below w.heap.size w w' := by
  have HR0 := Aside0.mk hr0
  have HC0 := Aside0.mk hc0
  clear hr0 hc0
  have hu22 := Try.underlying22
  have hu24 := Try.underlying24
  have hu29 := Try.underlying29
  have hu33 := Try.underlying33
  have hu34 := Try.underlying34
  have hu38 := Try.underlying38
  have hu41 := Try.underlying41
  have hu44 := Try.underlying44
  unfold garderobelaw08_ClassFresh.f at h
  obtain ⟨x, hx, h⟩ := Option.bind_eq_some_iff.mp h
  obtain ⟨⟨l, e1⟩, hg, h⟩ := Option.bind_eq_some_iff.mp h
  obtain ⟨⟨s, e2⟩, hs, h⟩ := Option.bind_eq_some_iff.mp h
  obtain ⟨lf, hl, h⟩ := Option.bind_eq_some_iff.mp h
  by_cases c1 : lf = true
  rotate_left
  · rw [if_neg c1] at h
    cases h
  rw [if_pos c1] at h
  subst c1
  by_cases c2 : e1 = e2
  rotate_left
  · rw [if_neg c2] at h
    cases h
  rw [if_pos c2] at h
  subst c2
  obtain ⟨q, hq, h⟩ := Option.bind_eq_some_iff.mp h
  by_cases c3 : q = true
  rotate_left
  · rw [if_neg c3] at h
    cases h
  rw [if_pos c3] at h
  subst c3
  have HX := Aside0.mk hx
  clear hx
  have HG := Aside0.mk hg
  clear hg
  have HS := Aside0.mk hs
  clear hs
  have HLF := Aside0.mk hl
  clear hl
  have HQ := Aside0.mk hq
  clear hq
  have HWK := Aside0.mk h
  clear h
  go_enter Try.func4, Try.ntmps4
  go_upto_region 3 with (first | (go_at_call 10; (with_reducible refine (garderoberef00_Wide.calls k A0 c0 l0 x _ ?s1 ?s2 HX.out).mono ?_); (case s1 => exact HR0.out); (case s2 => exact HC0.out); rintro y w1 ⟨v, rfl, ho, hlo, hb⟩; obtain ⟨Av, cv, ev⟩ := Kr.R_slice ho; subst ev; have HV := Aside0.mk ho; have HL := Aside0.mk hlo; have HB := Aside0.mk hb; clear ho hlo hb) | (go_at_call 9; (with_reducible refine (class_Get.callsr k Av cv x l e1 _ ?s1 ?s2 HG.out).mono ?_); (case s1 => exact (Kr.R_reads' HV.out).2.2); (case s2 => exact (Kr.R_reads' HV.out).2.1); rintro y w2 ⟨v, rfl, ho, hb⟩; obtain ⟨Al, cl, el⟩ := Kd.R_slice ho; subst el; have HO := Aside0.mk ho; have HB2 := Aside0.mk hb; clear ho hb))
  have HT := Aside0.mk (Stay.refl w2)
  go_wp2
  go_loopg [6] l.length (fun kq v6 w' => ∃ X : Int, v6 = .int .i64 X ∧ Aside0 (0 ≤ X ∧ (kq : Int) + X = (l.length : Int)) ∧ Aside0 (Stay w2 w') ∧ Aside0 (Below w1.heap.size w1 w'))
  case atStart => exact ⟨0, rfl, ⟨by omega⟩, HT, HB2⟩
  case round =>
    clear HT HB2
    obtain ⟨X, rfl, HA, HT, HB2⟩ := hrel
    cases gk with
    | zero =>
      have d1 : decide (X < (l.length : Int)) = false := decide_eq_false (by have := HA.out; omega)
      go_wp2_with (first | (go_at_call 9; (with_reducible refine (class_Get.calls k Av cv x l e1 _ ?s1 ?s2 HG.out).mono ?_); (case s1 => exact (Kr.R_reads' (Kr.R_below HV.out HB2.out)).2.2); (case s2 => exact (Kr.R_reads' HV.out).2.1); rintro y w5 ⟨v, rfl, ho, hb⟩; obtain ⟨Am, cm, em⟩ := Kd.R_slice ho; subst em; have HM := Aside0.mk ho; have n0_ := Aside0.mk (below_step HB2.out hb); clear HB2 ho hb; have HB2 := n0_; clear n0_) | (go_at_call 12; (with_reducible refine (garderoberef08_Get.calls k A0 c0 l0 s e1 _ ?s1 ?s2 HS.out).mono ?_); (case s1 => exact Kd.C_below HR0.out (below_step HB.out HB2.out)); (case s2 => exact HC0.out); rintro y w6 ⟨v, rfl, ho, hb⟩; obtain ⟨An, cn, en⟩ := Kd.R_slice ho; subst en; have HN := Aside0.mk ho; have n1_ := Aside0.mk (Kd.R_below HM.out hb); have n0_ := Aside0.mk (below_step HB2.out hb); clear HB2 HM ho hb; have HB2 := n0_; have HM := n1_; clear n0_ n1_) | (go_at_call 13; (with_reducible refine (garderoberef00_Left.calls k Av cv x A0 c0 l0 true _ ?s1 ?s2 ?s3 ?s4 ?s5 ?s6 HLF.out).mono ?_); (case s1 => exact (Kr.R_reads' (Kr.R_below HV.out HB2.out)).2.2); (case s2 => exact (Kr.R_reads' HV.out).2.1); (case s3 => exact Kd.C_below HR0.out (below_step HB.out HB2.out)); (case s4 => exact HC0.out); (case s5 => exact (Kr.long_reads (Kr.R_below HL.out HB2.out)).1); (case s6 => exact (Kr.long_reads (Kr.R_below HL.out HB2.out)).2); rintro y w7 ⟨rfl, hd⟩; have hb := Drawn0.below hd; have n0_ := Aside0.mk (below_step HB2.out hb); have n1_ := Aside0.mk (Kd.R_below HM.out hb); have n2_ := Aside0.mk (Kd.R_below HN.out hb); clear HB2 HM HN hd hb; have HB2 := n0_; have HM := n1_; have HN := n2_; clear n0_ n1_ n2_) | (go_at_call 14; (with_reducible refine (garderoberef08_Same.calls k Am cm l An cn s true _ ?s1 ?s2 ?s3 ?s4 HQ.out).mono ?_); (case s1 => exact (Kd.R_reads' HM.out).2.2); (case s2 => exact (Kd.R_reads' HM.out).2.1); (case s3 => exact (Kd.R_reads' HN.out).2.2); (case s4 => exact (Kd.R_reads' HN.out).2.1); rintro y w8 ⟨rfl, hb⟩; have n0_ := Aside0.mk (below_step (by repeat (first | (with_reducible first | exact HB2.out | apply below_alloc | apply pw_below_drewN | apply below_drew1) | exact HB2.out)) hb); clear HB2 hb; have HB2 := n0_; clear n0_) | (go_at_call 8; (with_reducible refine (garderobelaw08_works.calls k r _ HWK.out).mono ?_); rintro y w9 ⟨rfl, hb⟩; have n0_ := Aside0.mk (below_step (by repeat (first | (with_reducible first | exact HB2.out | apply below_alloc | apply pw_below_drewN | apply below_drew1) | exact HB2.out)) hb); clear HB2 hb; have HB2 := n0_; clear n0_))
      go_ret
      exact ⟨rfl, below_step HB.out HB2.out⟩
    | succ k1 =>
      have d1 : decide (X < (l.length : Int)) = true := decide_eq_true (by have := HA.out; omega)
      have X0 := Aside0.mk (show 0 ≤ X from HA.out.1)
      have X1 := Aside0.mk (show X < (l.length : Int) by have := HA.out; omega)
      have hw : wrap64 (X + 1) = X + 1 := by have := X1.out; have := X0.out; have := Kd.C_max (Kd.R_reads' HO.out).2.2; unfold wrap64; omega
      have HW := Aside0.mk hw
      clear hw
      obtain ⟨N2, hN2⟩ : ∃ n_ : Nat, n_ = (rd_T38 l X).f2.length := ⟨_, rfl⟩
      have HN2 := Aside0.mk hN2
      clear hN2
      obtain ⟨N3, hN3⟩ : ∃ n_ : Nat, n_ = (rd_T38 l X).f3.length := ⟨_, rfl⟩
      have HN3 := Aside0.mk hN3
      clear hN3
      go_upto_block 2 with (fail)
      clear d1
      go_cut [7] from 26 to 45 (fun v7 wc => Aside0 (Stay w2 wc) ∧ Aside0 (Below w1.heap.size w1 wc))
      case first =>
        go_wp2
        go_loopg [7] N2 (fun kq v7 w' => ∃ Y : Int, v7 = .int .i64 Y ∧ Aside0 (0 ≤ Y ∧ (kq : Int) + Y = (N2 : Int)) ∧ Aside0 (Stay w2 w') ∧ Aside0 (Below w1.heap.size w1 w'))
        case atStart => exact ⟨0, rfl, ⟨by omega⟩, HT, HB2⟩
        case round =>
          clear HT HB2
          obtain ⟨Y, rfl, HY, HT, HB2⟩ := hrel
          obtain ⟨g38, A2, c2, A3, c3, eA, hc2, hc3, hr2, hr3⟩ := at_38r HO.out HT.out X X0.out X1.out
          subst eA
          rw [← HN2.out] at hc2 hr2
          rw [← HN3.out] at hc3 hr3
          have px : (0 ≤ X) = True := eq_true X0.out
          have qx : (X < (l.length : Int)) = True := eq_true X1.out
          cases gk with
          | zero =>
            have d2 : decide (Y < (N2 : Int)) = false := decide_eq_false (by have := HY.out; omega)
            go_wp2
            go_meet
            case rel => exact ⟨HT, HB2⟩
          | succ k2 =>
            have d2 : decide (Y < (N2 : Int)) = true := decide_eq_true (by have := HY.out; omega)
            have hY1 : Y < (N2 : Int) := by have := HY.out; omega
            obtain ⟨g41, A1, c1, l1, eA2, hc1, hk⟩ := at_41r hr2 HT.out Y HY.out.1 (by rw [← HN2.out]; exact hY1)
            subst eA2
            obtain ⟨M1, hM1⟩ : ∃ n_ : Nat, n_ = (rd_T41 (rd_T38 l X).f2 Y).f1.length := ⟨_, rfl⟩
            rw [← hM1] at hc1 hk
            clear hM1
            have hw : wrap64 (Y + 1) = Y + 1 := by have := HY.out; have h_ := Kd.C_max (Kd.R_reads' hr2).2.2; rw [← HN2.out] at h_; unfold wrap64; omega
            have HWY := Aside0.mk hw
            clear hw
            have py : (0 ≤ Y) = True := eq_true HY.out.1
            have qy : (Y < (N2 : Int)) = True := eq_true hY1
            have HK := Aside0.mk hk
            clear hk hY1 hr2 hr3
            go_wp2_with (first | (go_at_call 11; (with_reducible refine (garderoberef00_Spoil.calls 0 _ _ l1 1 _ w1 _ HB2.out HK.out rfl).mono ?_); rintro y w4 ⟨rfl, ho, hb, hkk⟩; have n0_ := Aside0.mk (Stay.spoil HT.out HK.out ho hkk); have n1_ := Aside0.mk hb; clear HT HB2 ho hb hkk hc1 hc2 hc3; have HT := n0_; have HB2 := n1_; clear n0_ n1_))
            go_roundg k2
            case measure => omega
            case rel => exact ⟨Y + 1, by rw [HWY.out], ⟨by have := HY.out; omega⟩, HT, HB2⟩
      case rest =>
        clear HT HB2
        obtain ⟨HT, HB2⟩ := hcut
        go_wp2
        go_loopg [8] N3 (fun kq v8 w' => ∃ Y : Int, v8 = .int .i64 Y ∧ Aside0 (0 ≤ Y ∧ (kq : Int) + Y = (N3 : Int)) ∧ Aside0 (Stay w2 w') ∧ Aside0 (Below w1.heap.size w1 w'))
        case atStart => exact ⟨0, rfl, ⟨by omega⟩, HT, HB2⟩
        case round =>
          clear HT HB2
          obtain ⟨Y, rfl, HY, HT, HB2⟩ := hrel
          obtain ⟨g38, A2, c2, A3, c3, eA, hc2, hc3, hr2, hr3⟩ := at_38r HO.out HT.out X X0.out X1.out
          subst eA
          rw [← HN2.out] at hc2 hr2
          rw [← HN3.out] at hc3 hr3
          have px : (0 ≤ X) = True := eq_true X0.out
          have qx : (X < (l.length : Int)) = True := eq_true X1.out
          cases gk with
          | zero =>
            have d2 : decide (Y < (N3 : Int)) = false := decide_eq_false (by have := HY.out; omega)
            go_wp2
            go_roundg k1
            case measure => omega
            case rel => exact ⟨X + 1, by rw [HW.out], ⟨by have := HA.out; omega⟩, HT, HB2⟩
          | succ k2 =>
            have d2 : decide (Y < (N3 : Int)) = true := decide_eq_true (by have := HY.out; omega)
            have hY1 : Y < (N3 : Int) := by have := HY.out; omega
            obtain ⟨g44, cur, u0, u1, eA3, hb44, hh44, hu0, hu1⟩ := at_44r hr3 HT.out Y HY.out.1 (by rw [← HN3.out]; exact hY1)
            subst eA3
            have hw : wrap64 (Y + 1) = Y + 1 := by have := HY.out; have h_ := Kd.C_max (Kd.R_reads' hr3).2.2; rw [← HN3.out] at h_; unfold wrap64; omega
            have HWY := Aside0.mk hw
            clear hw
            have py : (0 ≤ Y) = True := eq_true HY.out.1
            have qy : (Y < (N3 : Int)) = True := eq_true hY1
            have H44 := Aside0.mk hh44
            have B44 := Aside0.mk hb44
            have hf0 := blk_frozen hh44 (Y.toNat * 2)
            have hf1 := blk_frozen hh44 (Y.toNat * 2 + 1)
            clear hh44 hb44 hY1 hr2 hr3
            go_wp2
            go_roundg k2
            case measure => omega
            case rel => exact ⟨Y + 1, by rw [HWY.out], ⟨by have := HY.out; omega⟩, ⟨(HT.out.set44 H44.out _ _).set44 (blk_set H44.out _ _) _ _⟩, ⟨below_set (below_set HB2.out B44.out) B44.out⟩⟩
/-- THE ONE PURE STATEMENT of garderobelaw08_ClassFresh: yours. -/
def garderobelaw08_ClassFresh.Pure : Prop := ∀ (l0 : List Int), l0.length ≤ maxLen → l0.length * 1 ≤ 140737488351232 → (∀ x ∈ l0, (Lit.int .u8 x).wf = true) → ∃ k, garderobelaw08_ClassFresh.f k l0 = some true
theorem garderobelaw08_ClassFresh.walk (P : garderobelaw08_ClassFresh.Pure) (a0 : Option Addr) (len0 cap0 : Nat) (z0 : List Int) (w : World) (w0 : (a0 = none ∧ len0 = 0 ∧ cap0 = 0 ∧ z0 = []) ∨ ∃ x, a0 = some x ∧ len0 ≤ cap0 ∧ cap0 ≤ maxLen ∧ z0.length = cap0 ∧ (∀ i, i < z0.length → w.cell? (x.add i) = some (.int .u8 (z0.getD i 0))) ∧ ∀ n ∈ z0, (Lit.int .u8 n).wf = true) (y0 : len0 * 1 ≤ 140737488351232) :
    Calls Try.prog 4 #[.slice a0 len0 cap0] w fun e w' => e = .returned (.bool true) ∧ Below w.heap.size w w' := by
  obtain ⟨l0, rfl, hr0, hm0, hw0, hc0⟩ := ReadsInt.ofRowC w0
  obtain ⟨k, h⟩ := P l0 hm0 y0 hw0
  refine (garderobelaw08_ClassFresh.calls k _ _ l0 true w (Kd.C_of_reads (d := (0 : Int)) (h1 := fun _ => rfl) hr0) hc0 h).mono ?_
  rintro e w' ⟨rfl, hd⟩
  exact ⟨rfl, hd⟩
end Go.Proofs.Ytjbpdmkalegacaa.PClassFresh
