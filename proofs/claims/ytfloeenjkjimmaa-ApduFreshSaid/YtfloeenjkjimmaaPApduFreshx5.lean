-- laid by fake.py, a program of this session's, over the kit's print
import Derived.Test.YtfloeenjkjimmaaPApduFreshx0
import Derived.Test.YtfloeenjkjimmaaPApduFreshx4
namespace Go.Proofs.Ytfloeenjkjimmaa.PApduFresh
open Go.RowKit Go.Proofs.YtfloeenjkjimmaaW.PrintWords Go.Proofs.YtfloeenjkjimmaaW.PrintLast Go.Proofs.YtfloeenjkjimmaaW.PrintMore Go.Proofs.YtfloeenjkjimmaaW.Mine
attribute [local go_sem] Go.Proofs.YtfloeenjkjimmaaW.Mine.isSome_set max2_int min2_int max_two min_two max_three min_three max_four min_four   -- for this text's walks alone
set_option linter.unusedVariables false
set_option linter.unusedSimpArgs false

/-! ### apdu_Put: function 15 -/
def apdu_Put.f (k : Nat) (a0_0 : Int) (a0_1 : Int) (a0_2 : Int) (a0_3 : Int) (a0_4 : Int) (l0_5 : List Int) (a0_6 : Int) : Option (List Int × Int) := (apdu_may.f k a0_0 a0_1 a0_2 a0_3 a0_4 l0_5 a0_6).bind fun t233 => (if t233 = true then ((some (([a0_1, a0_2, a0_3, a0_4] : List Int) : List Int)).bind fun y234 => (if (l0_5.length : Int) > 0 then ((ends_PutRow.f k l0_5 1).bind fun bt237 => (if y234.length + bt237.1.length < 140737488355328 then ((some (y234 ++ bt237.1 : List Int)).bind fun y241 => (if a0_6 > 0 then (if y241.length < 140737488355328 then (some ((y241 ++ [(a0_6) % 256]), 0)) else (none)) else (some (y241, 0)))) else (none))) else (if a0_6 > 0 then (if y234.length < 140737488355328 then (some ((y234 ++ [(a0_6) % 256]), 0)) else (none)) else (some (y234, 0))))) else (some (([] : List Int), 2)))
theorem apdu_Put.mono : ∀ a0 a1 a2 a3 a4 a5 a6 k, LeO (apdu_Put.f k a0 a1 a2 a3 a4 a5 a6) (apdu_Put.f (k + 1) a0 a1 a2 a3 a4 a5 a6) := by
  intro a0 a1 a2 a3 a4 a5 a6 k
  unfold apdu_Put.f
  repeat' first
      | (with_reducible exact apdu_may.mono _ _ _ _ _ _ _ _)
      | (with_reducible exact ends_PutRow.mono _ _ _)
      | (with_reducible exact LeO.refl _)
      | (with_reducible exact LeO.none _)
      | (with_reducible refine LeO.ite ?_ ?_)
      | (with_reducible refine LeO.bind ?_ (fun _ => ?_))
      | exact apdu_may.mono _ _ _ _ _ _ _ _
      | exact ends_PutRow.mono _ _ _
      | exact LeO.none _
      | refine LeO.ite ?_ ?_
      | refine LeO.bind ?_ (fun _ => ?_)
set_option maxHeartbeats 8000000 in
set_option maxRecDepth 100000 in
theorem apdu_Put.calls (k : Nat) (a0_0 : Int) (a0_1 : Int) (a0_2 : Int) (a0_3 : Int) (a0_4 : Int) (A0_5 : Option Addr) (c0_5 : Nat) (l0_5 : List Int) (a0_6 : Int) (r1 : List Int) (r2 : Int) (w : World) (hr0_5 : Kd.C (Kd.int .u8) w A0_5 l0_5.length l0_5) (hc0_5 : l0_5.length ≤ c0_5) (h : apdu_Put.f k a0_0 a0_1 a0_2 a0_3 a0_4 l0_5 a0_6 = some (r1, r2)) :
    Calls Try.prog 15 #[.agg #[.int .i64 a0_0, .int .u8 a0_1, .int .u8 a0_2, .int .u8 a0_3, .int .u8 a0_4, .slice A0_5 l0_5.length c0_5, .int .i64 a0_6]] w fun e w' => ∃ v0_ : Value, e = .returned (.tuple #[v0_, .int .i64 r2]) ∧ Kr.R (Kd.int .u8) 5 w' w.heap.size (fun _ => True) v0_ r1 ∧ Below w.heap.size w w' := by
  have hu25 := Try.underlying25
  have HR0_5 := Aside0.mk hr0_5
  have HC0_5 := Aside0.mk hc0_5
  clear hr0_5 hc0_5
  have HB := Aside0.mk (Below.refl w.heap.size w)
  have H : ((apdu_may.f k a0_0 a0_1 a0_2 a0_3 a0_4 l0_5 a0_6).bind fun t233 => (if t233 = true then ((some (([a0_1, a0_2, a0_3, a0_4] : List Int) : List Int)).bind fun y234 => (if (l0_5.length : Int) > 0 then ((ends_PutRow.f k l0_5 1).bind fun bt237 => (if y234.length + bt237.1.length < 140737488355328 then ((some (y234 ++ bt237.1 : List Int)).bind fun y241 => (if a0_6 > 0 then (if y241.length < 140737488355328 then (some ((y241 ++ [(a0_6) % 256]), 0)) else (none)) else (some (y241, 0)))) else (none))) else (if a0_6 > 0 then (if y234.length < 140737488355328 then (some ((y234 ++ [(a0_6) % 256]), 0)) else (none)) else (some (y234, 0))))) else (some (([] : List Int), 2)))) = some (r1, r2) := h
  clear h
  replace H := Option.bind_eq_some_iff.mp H
  obtain ⟨t233, A20, H⟩ := H
  replace H : (if t233 = true then ((some (([a0_1, a0_2, a0_3, a0_4] : List Int) : List Int)).bind fun y234 => (if (l0_5.length : Int) > 0 then ((ends_PutRow.f k l0_5 1).bind fun bt237 => (if y234.length + bt237.1.length < 140737488355328 then ((some (y234 ++ bt237.1 : List Int)).bind fun y241 => (if a0_6 > 0 then (if y241.length < 140737488355328 then (some ((y241 ++ [(a0_6) % 256]), 0)) else (none)) else (some (y241, 0)))) else (none))) else (if a0_6 > 0 then (if y234.length < 140737488355328 then (some ((y234 ++ [(a0_6) % 256]), 0)) else (none)) else (some (y234, 0))))) else (some (([] : List Int), 2))) = some (r1, r2) := H
  have A2 := Aside0.mk A20
  clear A20
  by_cases c3 : t233 = true
  · subst c3
    have H1 : ((some (([a0_1, a0_2, a0_3, a0_4] : List Int) : List Int)).bind fun y234 => (if (l0_5.length : Int) > 0 then ((ends_PutRow.f k l0_5 1).bind fun bt237 => (if y234.length + bt237.1.length < 140737488355328 then ((some (y234 ++ bt237.1 : List Int)).bind fun y241 => (if a0_6 > 0 then (if y241.length < 140737488355328 then (some ((y241 ++ [(a0_6) % 256]), 0)) else (none)) else (some (y241, 0)))) else (none))) else (if a0_6 > 0 then (if y234.length < 140737488355328 then (some ((y234 ++ [(a0_6) % 256]), 0)) else (none)) else (some (y234, 0))))) = some (r1, r2) := by rw [if_pos rfl] at H; exact H
    clear H
    have H := H1
    clear H1
    obtain ⟨y234, hy234⟩ : ∃ y_ : List Int, y_ = (([a0_1, a0_2, a0_3, a0_4] : List Int)) := ⟨_, rfl⟩
    replace H : (if (l0_5.length : Int) > 0 then ((ends_PutRow.f k l0_5 1).bind fun bt237 => (if y234.length + bt237.1.length < 140737488355328 then ((some (y234 ++ bt237.1 : List Int)).bind fun y241 => (if a0_6 > 0 then (if y241.length < 140737488355328 then (some ((y241 ++ [(a0_6) % 256]), 0)) else (none)) else (some (y241, 0)))) else (none))) else (if a0_6 > 0 then (if y234.length < 140737488355328 then (some ((y234 ++ [(a0_6) % 256]), 0)) else (none)) else (some (y234, 0)))) = some (r1, r2) := by first | (rw [hy234]; with_reducible exact H) | (have H2_ := (Option.bind_some _ _).symm.trans H; rw [hy234]; with_reducible exact H2_) | (have H2_ := (Option.bind_some _ _).symm.trans H; with_reducible exact H2_) | with_reducible exact H | (rw [hy234]; exact H) | exact H
    have Ny234 := Aside0.mk hy234
    clear hy234
    by_cases c4 : (l0_5.length : Int) > 0
    · rw [if_pos c4] at H
      have c4b0 : decide (0 < (l0_5.length : Int)) = true := decide_eq_true c4
      have c4b1 : decide (0 < l0_5.length) = true := decide_eq_true (by omega)
      clear c4
      replace H := Option.bind_eq_some_iff.mp H
      obtain ⟨⟨t237, t238⟩, A50, H⟩ := H
      replace H : (if y234.length + t237.length < 140737488355328 then ((some (y234 ++ t237 : List Int)).bind fun y241 => (if a0_6 > 0 then (if y241.length < 140737488355328 then (some ((y241 ++ [(a0_6) % 256]), 0)) else (none)) else (some (y241, 0)))) else (none)) = some (r1, r2) := H
      have A5 := Aside0.mk A50
      clear A50
      by_cases c6 : y234.length + t237.length < 140737488355328
      · rw [if_pos c6] at H
        have LMc6 := Aside0.mk c6
        clear c6
        obtain ⟨y241, hy241⟩ : ∃ y_ : List Int, y_ = (y234 ++ t237) := ⟨_, rfl⟩
        replace H : (if a0_6 > 0 then (if y241.length < 140737488355328 then (some ((y241 ++ [(a0_6) % 256]), 0)) else (none)) else (some (y241, 0))) = some (r1, r2) := by first | (rw [hy241]; with_reducible exact H) | (have H2_ := (Option.bind_some _ _).symm.trans H; rw [hy241]; with_reducible exact H2_) | (have H2_ := (Option.bind_some _ _).symm.trans H; with_reducible exact H2_) | with_reducible exact H | (rw [hy241]; exact H) | exact H
        have Ny241 := Aside0.mk hy241
        clear hy241
        by_cases c7 : a0_6 > 0
        · rw [if_pos c7] at H
          have c7b0 : decide (0 < a0_6) = true := decide_eq_true c7
          clear c7
          by_cases c8 : y241.length < 140737488355328
          · rw [if_pos c8] at H
            have LMc8 := Aside0.mk c8
            clear c8
            obtain ⟨y244, hy244⟩ : ∃ y_ : List Int, y_ = (y241 ++ [(a0_6) % 256]) := ⟨_, rfl⟩
            replace H : (some (y244, 0)) = some (r1, r2) := by first | (rw [hy244]; with_reducible exact H) | (have H2_ := (Option.bind_some _ _).symm.trans H; rw [hy244]; with_reducible exact H2_) | (have H2_ := (Option.bind_some _ _).symm.trans H; with_reducible exact H2_) | with_reducible exact H | (rw [hy244]; exact H) | exact H
            have Ny244 := Aside0.mk hy244
            clear hy244
            simp only [Option.some.injEq, Prod.mk.injEq] at H
            obtain ⟨rfl, rfl⟩ := H
            go_enter Try.func15, Try.ntmps15
            go_wp2_with (first | ((with_reducible refine gate_dst (N := 1) rfl ?_); refine box_event ?hg (N := 1) ?hd (cs := #[.int .i64 a0_0, .int .u8 a0_1, .int .u8 a0_2, .int .u8 a0_3, .int .u8 a0_4, .slice A0_5 l0_5.length c0_5, .int .i64 a0_6]) (t := 25) ?hr ?_; (case hd => rfl); (case hg => rfl); (case hr => first | (go_simp; done) | (go_simp; rfl)); intro gb232 hg w9 hbox hb; have n0_ := Aside0.mk (below_step (by repeat (first | (with_reducible first | exact HB.out | apply below_alloc | apply pw_below_drewN | apply below_drew1) | exact HB.out)) hb); have n1_ := Aside0.mk (hbox); have n2_ := Aside0.mk ((by rw [hg]; exact (below_size (by repeat (first | (with_reducible first | exact HB.out | apply below_alloc | apply pw_below_drewN | apply below_drew1) | exact HB.out))) : w.heap.size ≤ gb232)); have n3_ := Aside0.mk ((by rw [hg]; exact (below_size (by repeat (first | (with_reducible first | exact HB.out | apply below_alloc | apply pw_below_drewN | apply below_drew1) | exact HB.out))) : w.heap.size ≤ gb232)); clear HB; have HB := n0_; have BK232 := n1_; have GW232 := n2_; have GE232 := n3_; clear n0_ n1_ n2_ n3_; clear hb hbox hg; have hcz10_0 : w9.cell? ⟨gb232, 0, none⟩ = some (.int .i64 a0_0) := (blk_cell BK232.out 0).trans rfl; have hcz10_1 : w9.cell? ⟨gb232, 1, none⟩ = some (.int .u8 a0_1) := (blk_cell BK232.out 1).trans rfl; have hcz10_2 : w9.cell? ⟨gb232, 2, none⟩ = some (.int .u8 a0_2) := (blk_cell BK232.out 2).trans rfl; have hcz10_3 : w9.cell? ⟨gb232, 3, none⟩ = some (.int .u8 a0_3) := (blk_cell BK232.out 3).trans rfl; have hcz10_4 : w9.cell? ⟨gb232, 4, none⟩ = some (.int .u8 a0_4) := (blk_cell BK232.out 4).trans rfl; have hcz10_5 : w9.cell? ⟨gb232, 5, none⟩ = some (.slice A0_5 l0_5.length c0_5) := (blk_cell BK232.out 5).trans rfl; have hcz10_6 : w9.cell? ⟨gb232, 6, none⟩ = some (.int .i64 a0_6) := (blk_cell BK232.out 6).trans rfl; have hfz10_0 := blk_frozen BK232.out 0; have hfz10_1 := blk_frozen BK232.out 1; have hfz10_2 := blk_frozen BK232.out 2; have hfz10_3 := blk_frozen BK232.out 3; have hfz10_4 := blk_frozen BK232.out 4; have hfz10_5 := blk_frozen BK232.out 5; have hfz10_6 := blk_frozen BK232.out 6) | ((with_reducible refine gate_callee (f := 23) rfl ?_); refine goesL_ (some 8) rfl rfl Try.func23 (by kernel_rfl) rfl #[.agg #[.int .i64 a0_0, .int .u8 a0_1, .int .u8 a0_2, .int .u8 a0_3, .int .u8 a0_4, .slice A0_5 l0_5.length c0_5, .int .i64 a0_6]] rfl (by (try simp only [List.map_toArray, List.map_cons, List.map_nil]); first | done | rfl | (simp only [List.length_drop, List.length_take]; rfl)) ?_; (with_reducible refine (apdu_may.calls k a0_0 a0_1 a0_2 a0_3 a0_4 _ _ l0_5 a0_6 true _ ?side1 ?side2 A2.out).mono ?_); (case side1 => repeat (first | exact (Kd.C_below HR0_5.out HB.out) | (with_reducible refine Kd.C_alloc ?_ _) | (with_reducible refine Kd.C_drewN ?_ _) | (with_reducible refine Kd.C_drew ?_))); (case side2 => exact HC0_5.out); rintro e w11 ⟨rfl, hb⟩; refine ⟨_, rfl, ?_⟩; have n0_ := Aside0.mk (blk_below (g := gb232) (o := .cells #[.int .i64 a0_0, .int .u8 a0_1, .int .u8 a0_2, .int .u8 a0_3, .int .u8 a0_4, .slice A0_5 l0_5.length c0_5, .int .i64 a0_6] 25 (0, 0)) (by (with_reducible repeat (first | refine blk_drewN ?_ _ | refine blk_drew ?_ | refine blk_alloc ?_ _)); exact BK232.out) hb); have n1_ := Aside0.mk (below_step (by repeat (first | (with_reducible first | exact HB.out | apply below_alloc | apply pw_below_drewN | apply below_drew1 | refine below_set ?_ GE232.out) | exact HB.out)) hb); clear BK232; clear HB; have BK232 := n0_; have HB := n1_; clear n0_ n1_; (try clear hb); (try clear hb2); (try clear hk); (try clear hi); have hcz12_0 : w11.cell? ⟨gb232, 0, none⟩ = some (.int .i64 a0_0) := (blk_cell BK232.out 0).trans rfl; have hcz12_1 : w11.cell? ⟨gb232, 1, none⟩ = some (.int .u8 a0_1) := (blk_cell BK232.out 1).trans rfl; have hcz12_2 : w11.cell? ⟨gb232, 2, none⟩ = some (.int .u8 a0_2) := (blk_cell BK232.out 2).trans rfl; have hcz12_3 : w11.cell? ⟨gb232, 3, none⟩ = some (.int .u8 a0_3) := (blk_cell BK232.out 3).trans rfl; have hcz12_4 : w11.cell? ⟨gb232, 4, none⟩ = some (.int .u8 a0_4) := (blk_cell BK232.out 4).trans rfl; have hcz12_5 : w11.cell? ⟨gb232, 5, none⟩ = some (.slice A0_5 l0_5.length c0_5) := (blk_cell BK232.out 5).trans rfl; have hcz12_6 : w11.cell? ⟨gb232, 6, none⟩ = some (.int .i64 a0_6) := (blk_cell BK232.out 6).trans rfl; have hfz12_0 := blk_frozen BK232.out 0; have hfz12_1 := blk_frozen BK232.out 1; have hfz12_2 := blk_frozen BK232.out 2; have hfz12_3 := blk_frozen BK232.out 3; have hfz12_4 := blk_frozen BK232.out 4; have hfz12_5 := blk_frozen BK232.out 5; have hfz12_6 := blk_frozen BK232.out 6) | ((with_reducible refine gate_dst (N := 18) rfl ?_); refine Kr.R_lit (Kd.int .u8) _ 5 ?hg (N := 18) ?hd (xs := ([a0_1, a0_2, a0_3, a0_4] : List Int)) (inner := [.int .u8 a0_1, .int .u8 a0_2, .int .u8 a0_3, .int .u8 a0_4]) (ok := fun _ => True) (okp := fun _ => True) ?hr ?hp (fun _ hk => hk) trivial (Below.refl _ _) (Nat.le_refl _) (by simp) ?_; (case hd => rfl); (case hg => rfl); (case hr => first | (go_simp; done) | (go_simp; rfl)); (case hp => exact (Reps.one (show Kd.M (Kd.int .u8) _ _ _ a0_1 [.int .u8 a0_1] from rfl) (Reps.one (show Kd.M (Kd.int .u8) _ _ _ a0_2 [.int .u8 a0_2] from rfl) (Reps.one (show Kd.M (Kd.int .u8) _ _ _ a0_3 [.int .u8 a0_3] from rfl) (Reps.one (show Kd.M (Kd.int .u8) _ _ _ a0_4 [.int .u8 a0_4] from rfl) (Reps.none _ _)))))); intro v235 w13 ho14 hb hg_ hnew_; clear hg_ hnew_; (first | rw [← Ny234.out] at ho14 | (simp only [Int.reduceToNat] at ho14; rw [← Ny234.out] at ho14)); have n0_ := Aside0.mk (Kr.R_lower ho14 (below_size (by repeat (first | (with_reducible first | exact HB.out | apply below_alloc | apply pw_below_drewN | apply below_drew1 | refine below_set ?_ GE232.out) | exact HB.out)))); have n1_ := Aside0.mk (blk_below (g := gb232) (o := .cells #[.int .i64 a0_0, .int .u8 a0_1, .int .u8 a0_2, .int .u8 a0_3, .int .u8 a0_4, .slice A0_5 l0_5.length c0_5, .int .i64 a0_6] 25 (0, 0)) (by (with_reducible repeat (first | refine blk_drewN ?_ _ | refine blk_drew ?_ | refine blk_alloc ?_ _)); exact BK232.out) hb); have n2_ := Aside0.mk (below_step (by repeat (first | (with_reducible first | exact HB.out | apply below_alloc | apply pw_below_drewN | apply below_drew1 | refine below_set ?_ GE232.out) | exact HB.out)) hb); clear BK232; clear HB; have HO236 := n0_; have BK232 := n1_; have HB := n2_; clear n0_ n1_ n2_; clear hb ho14; have hcz15_0 : w13.cell? ⟨gb232, 0, none⟩ = some (.int .i64 a0_0) := (blk_cell BK232.out 0).trans rfl; have hcz15_1 : w13.cell? ⟨gb232, 1, none⟩ = some (.int .u8 a0_1) := (blk_cell BK232.out 1).trans rfl; have hcz15_2 : w13.cell? ⟨gb232, 2, none⟩ = some (.int .u8 a0_2) := (blk_cell BK232.out 2).trans rfl; have hcz15_3 : w13.cell? ⟨gb232, 3, none⟩ = some (.int .u8 a0_3) := (blk_cell BK232.out 3).trans rfl; have hcz15_4 : w13.cell? ⟨gb232, 4, none⟩ = some (.int .u8 a0_4) := (blk_cell BK232.out 4).trans rfl; have hcz15_5 : w13.cell? ⟨gb232, 5, none⟩ = some (.slice A0_5 l0_5.length c0_5) := (blk_cell BK232.out 5).trans rfl; have hcz15_6 : w13.cell? ⟨gb232, 6, none⟩ = some (.int .i64 a0_6) := (blk_cell BK232.out 6).trans rfl; have hfz15_0 := blk_frozen BK232.out 0; have hfz15_1 := blk_frozen BK232.out 1; have hfz15_2 := blk_frozen BK232.out 2; have hfz15_3 := blk_frozen BK232.out 3; have hfz15_4 := blk_frozen BK232.out 4; have hfz15_5 := blk_frozen BK232.out 5; have hfz15_6 := blk_frozen BK232.out 6) | ((with_reducible refine gate_callee (f := 24) rfl ?_); refine goesL_ (some 26) rfl rfl Try.func24 (by kernel_rfl) rfl #[.slice A0_5 l0_5.length c0_5, .int .i64 1] rfl (by (try simp only [List.map_toArray, List.map_cons, List.map_nil]); first | done | rfl | (simp only [List.length_drop, List.length_take]; rfl)) ?_; (with_reducible refine (ends_PutRow.calls k _ _ l0_5 1 t237 t238 _ ?side1 ?side2 A5.out).mono ?_); (case side1 => repeat (first | exact (Kd.C_below HR0_5.out HB.out) | (with_reducible refine Kd.C_alloc ?_ _) | (with_reducible refine Kd.C_drewN ?_ _) | (with_reducible refine Kd.C_drew ?_))); (case side2 => exact HC0_5.out); rintro e w16 ⟨v239, rfl, ho0, hb⟩; refine ⟨_, rfl, ?_⟩; have n0_ := Aside0.mk (Kr.R_elder' (by (with_reducible repeat (first | apply Kr.R_alloc | apply Kr.R_drewN | apply Kr.R_drew)); exact HO236.out) (Kr.R_base ho0) hb); have n1_ := Aside0.mk (Kr.R_lower (Kr.R_new' ho0 (Kr.R_lt (by (with_reducible repeat (first | apply Kr.R_alloc | apply Kr.R_drewN | apply Kr.R_drew)); exact HO236.out))) (below_size (by repeat (first | (with_reducible first | exact HB.out | apply below_alloc | apply pw_below_drewN | apply below_drew1 | refine below_set ?_ GE232.out) | exact HB.out)))); have n2_ := Aside0.mk (blk_below (g := gb232) (o := .cells #[.int .i64 a0_0, .int .u8 a0_1, .int .u8 a0_2, .int .u8 a0_3, .int .u8 a0_4, .slice A0_5 l0_5.length c0_5, .int .i64 a0_6] 25 (0, 0)) (by (with_reducible repeat (first | refine blk_drewN ?_ _ | refine blk_drew ?_ | refine blk_alloc ?_ _)); exact BK232.out) hb); have n3_ := Aside0.mk (below_step (by repeat (first | (with_reducible first | exact HB.out | apply below_alloc | apply pw_below_drewN | apply below_drew1 | refine below_set ?_ GE232.out) | exact HB.out)) hb); clear HO236; clear BK232; clear HB; have HO236 := n0_; have HO240 := n1_; have BK232 := n2_; have HB := n3_; clear n0_ n1_ n2_ n3_; (try clear hb); (try clear hb2); (try clear hk); (try clear hi); (try clear ho0); obtain ⟨Ao18, co18, eo18⟩ := Kr.R_slice HO240.out; subst eo18) | ((with_reducible refine gate_builtin (b := .append) (xs := #[.tmp 29, .tmp 30]) rfl ?_); at_builtin; refine Kr.R_append_rows (Kd.int .u8) (w0 := w) w.heap.size rfl (.tmp 29) (.tmp 30) 22 5 (.int .u8 0) 1 rfl Try.underlying22 info5 rfl (by decide) (by omega) v235 y234 t237 _ _ _ (fun k_ => some k_ ≠ (.slice Ao18 t237.length co18 : Value).ownBlock) (fun _ => False) rfl rfl ?aO ?aR (fun _ _ h => h) (fun _ h => h.elim) ?aF ?aB ?aS ?aL ?_; (case aR => repeat (first | exact (Kr.R_reads' HO240.out).2.2 | (with_reducible refine Kd.C_alloc ?_ _) | (with_reducible refine Kd.C_drewN ?_ _) | (with_reducible refine Kd.C_drew ?_))); (case aB => exact (by repeat (first | (with_reducible first | exact HB.out | apply below_alloc | apply pw_below_drewN | apply below_drew1 | refine below_set ?_ GE232.out) | exact HB.out))); (case aF => exact (fun k_ hk => Kd.fresh' (Kr.R_lt (by (with_reducible repeat (first | apply Kr.R_alloc | apply Kr.R_drewN | apply Kr.R_drew)); exact HO240.out)) k_ hk)); (case aO => exact (by (with_reducible repeat (first | apply Kr.R_alloc | apply Kr.R_drewN | apply Kr.R_drew)); exact Kr.R_mono HO236.out (fun _ hk => hk.2))); (case aS => exact (below_size (by repeat (first | (with_reducible first | exact HB.out | apply below_alloc | apply pw_below_drewN | apply below_drew1 | refine below_set ?_ GE232.out) | exact HB.out)))); (case aL => have := LMc6.out; omega); intro v242 w17 ho hb hg hat; rw [← Ny241.out] at ho; have n0_ := Aside0.mk (blk_grown (g := gb232) (o := .cells #[.int .i64 a0_0, .int .u8 a0_1, .int .u8 a0_2, .int .u8 a0_3, .int .u8 a0_4, .slice A0_5 l0_5.length c0_5, .int .i64 a0_6] 25 (0, 0)) (by (with_reducible repeat (first | refine blk_drewN ?_ _ | refine blk_drew ?_ | refine blk_alloc ?_ _)); exact BK232.out) hg (Kr.R_ne HO236.out BK232.out (by decide))); have n1_ := Aside0.mk (Kr.R_after (ok := (fun _ => True)) (by (with_reducible repeat (first | apply Kr.R_alloc | apply Kr.R_drewN | apply Kr.R_drew)); exact HO240.out) hg hat); have n2_ := Aside0.mk (hb); have n3_ := Aside0.mk (ho); clear BK232; clear HO240; clear HB; clear HO236; have BK232 := n0_; have HO240 := n1_; have HB := n2_; have HO243 := n3_; clear n0_ n1_ n2_ n3_; clear ho hb hg hat; have hcz19_0 : w17.cell? ⟨gb232, 0, none⟩ = some (.int .i64 a0_0) := (blk_cell BK232.out 0).trans rfl; have hcz19_1 : w17.cell? ⟨gb232, 1, none⟩ = some (.int .u8 a0_1) := (blk_cell BK232.out 1).trans rfl; have hcz19_2 : w17.cell? ⟨gb232, 2, none⟩ = some (.int .u8 a0_2) := (blk_cell BK232.out 2).trans rfl; have hcz19_3 : w17.cell? ⟨gb232, 3, none⟩ = some (.int .u8 a0_3) := (blk_cell BK232.out 3).trans rfl; have hcz19_4 : w17.cell? ⟨gb232, 4, none⟩ = some (.int .u8 a0_4) := (blk_cell BK232.out 4).trans rfl; have hcz19_5 : w17.cell? ⟨gb232, 5, none⟩ = some (.slice A0_5 l0_5.length c0_5) := (blk_cell BK232.out 5).trans rfl; have hcz19_6 : w17.cell? ⟨gb232, 6, none⟩ = some (.int .i64 a0_6) := (blk_cell BK232.out 6).trans rfl; have hfz19_0 := blk_frozen BK232.out 0; have hfz19_1 := blk_frozen BK232.out 1; have hfz19_2 := blk_frozen BK232.out 2; have hfz19_3 := blk_frozen BK232.out 3; have hfz19_4 := blk_frozen BK232.out 4; have hfz19_5 := blk_frozen BK232.out 5; have hfz19_6 := blk_frozen BK232.out 6) | ((with_reducible refine gate_builtin (b := .append) (xs := #[.tmp 35, .tmp 39]) rfl ?_); at_builtin; refine Kr.R_append (Kd.int .u8) (w0 := w) w.heap.size rfl (.tmp 35) (.tmp 39) 22 5 (.int .u8 0) 1 rfl Try.underlying22 info5 rfl (by decide) (by omega) v242 y241 ((a0_6) % 256) [.int .u8 ((a0_6) % 256)] (fun k_ => some k_ ≠ (.slice Ao18 t237.length co18 : Value).ownBlock) (fun _ => False) rfl rfl ?aP (fun _ hk => hk.elim) ?aF ?aO ?aB ?aS ?aL ?_; (case aP => exact rfl); (case aB => exact (by repeat (first | (with_reducible first | exact HB.out | apply below_alloc | apply pw_below_drewN | apply below_drew1 | refine below_set ?_ GE232.out) | exact HB.out))); (case aF => exact (fun k_ hk => Kd.fresh' (Kr.R_lt (by (with_reducible repeat (first | apply Kr.R_alloc | apply Kr.R_drewN | apply Kr.R_drew)); exact HO240.out)) k_ hk)); (case aO => exact (by (with_reducible repeat (first | apply Kr.R_alloc | apply Kr.R_drewN | apply Kr.R_drew)); exact HO243.out)); (case aS => exact (below_size (by repeat (first | (with_reducible first | exact HB.out | apply below_alloc | apply pw_below_drewN | apply below_drew1 | refine below_set ?_ GE232.out) | exact HB.out)))); (case aL => have := LMc8.out; omega); intro v245 w20 ho hb hg hat; rw [← Ny244.out] at ho; have n0_ := Aside0.mk (blk_grown (g := gb232) (o := .cells #[.int .i64 a0_0, .int .u8 a0_1, .int .u8 a0_2, .int .u8 a0_3, .int .u8 a0_4, .slice A0_5 l0_5.length c0_5, .int .i64 a0_6] 25 (0, 0)) (by (with_reducible repeat (first | refine blk_drewN ?_ _ | refine blk_drew ?_ | refine blk_alloc ?_ _)); exact BK232.out) hg (Kr.R_ne HO243.out BK232.out (by decide))); have n1_ := Aside0.mk (Kr.R_after (ok := (fun _ => True)) (by (with_reducible repeat (first | apply Kr.R_alloc | apply Kr.R_drewN | apply Kr.R_drew)); exact HO240.out) hg hat); have n2_ := Aside0.mk (hb); have n3_ := Aside0.mk (ho); clear BK232; clear HO240; clear HB; clear HO243; have BK232 := n0_; have HO240 := n1_; have HB := n2_; have HO246 := n3_; clear n0_ n1_ n2_ n3_; clear ho hb hg hat))
            go_ret2
            exact ⟨_, by first | rfl | (simp [errW_none, errW_some] <;> rfl) | (simp [*, errW_none, errW_some] <;> rfl), by (with_reducible repeat (first | apply Kr.R_alloc | apply Kr.R_drewN | apply Kr.R_drew)); exact Kr.R_mono HO246.out (fun _ hk => trivial), by repeat (first | (with_reducible first | exact HB.out | apply below_alloc | apply pw_below_drewN | apply below_drew1 | refine below_set ?_ GE232.out) | exact HB.out)⟩
          · rw [if_neg c8] at H
            exact absurd H (by simp)
        · rw [if_neg c7] at H
          have c7b0 : decide (0 < a0_6) = false := decide_eq_false c7
          clear c7
          simp only [Option.some.injEq, Prod.mk.injEq] at H
          obtain ⟨rfl, rfl⟩ := H
          go_enter Try.func15, Try.ntmps15
          go_wp2_with (first | ((with_reducible refine gate_dst (N := 1) rfl ?_); refine box_event ?hg (N := 1) ?hd (cs := #[.int .i64 a0_0, .int .u8 a0_1, .int .u8 a0_2, .int .u8 a0_3, .int .u8 a0_4, .slice A0_5 l0_5.length c0_5, .int .i64 a0_6]) (t := 25) ?hr ?_; (case hd => rfl); (case hg => rfl); (case hr => first | (go_simp; done) | (go_simp; rfl)); intro gb232 hg w21 hbox hb; have n0_ := Aside0.mk (below_step (by repeat (first | (with_reducible first | exact HB.out | apply below_alloc | apply pw_below_drewN | apply below_drew1) | exact HB.out)) hb); have n1_ := Aside0.mk (hbox); have n2_ := Aside0.mk ((by rw [hg]; exact (below_size (by repeat (first | (with_reducible first | exact HB.out | apply below_alloc | apply pw_below_drewN | apply below_drew1) | exact HB.out))) : w.heap.size ≤ gb232)); have n3_ := Aside0.mk ((by rw [hg]; exact (below_size (by repeat (first | (with_reducible first | exact HB.out | apply below_alloc | apply pw_below_drewN | apply below_drew1) | exact HB.out))) : w.heap.size ≤ gb232)); clear HB; have HB := n0_; have BK232 := n1_; have GW232 := n2_; have GE232 := n3_; clear n0_ n1_ n2_ n3_; clear hb hbox hg; have hcz22_0 : w21.cell? ⟨gb232, 0, none⟩ = some (.int .i64 a0_0) := (blk_cell BK232.out 0).trans rfl; have hcz22_1 : w21.cell? ⟨gb232, 1, none⟩ = some (.int .u8 a0_1) := (blk_cell BK232.out 1).trans rfl; have hcz22_2 : w21.cell? ⟨gb232, 2, none⟩ = some (.int .u8 a0_2) := (blk_cell BK232.out 2).trans rfl; have hcz22_3 : w21.cell? ⟨gb232, 3, none⟩ = some (.int .u8 a0_3) := (blk_cell BK232.out 3).trans rfl; have hcz22_4 : w21.cell? ⟨gb232, 4, none⟩ = some (.int .u8 a0_4) := (blk_cell BK232.out 4).trans rfl; have hcz22_5 : w21.cell? ⟨gb232, 5, none⟩ = some (.slice A0_5 l0_5.length c0_5) := (blk_cell BK232.out 5).trans rfl; have hcz22_6 : w21.cell? ⟨gb232, 6, none⟩ = some (.int .i64 a0_6) := (blk_cell BK232.out 6).trans rfl; have hfz22_0 := blk_frozen BK232.out 0; have hfz22_1 := blk_frozen BK232.out 1; have hfz22_2 := blk_frozen BK232.out 2; have hfz22_3 := blk_frozen BK232.out 3; have hfz22_4 := blk_frozen BK232.out 4; have hfz22_5 := blk_frozen BK232.out 5; have hfz22_6 := blk_frozen BK232.out 6) | ((with_reducible refine gate_callee (f := 23) rfl ?_); refine goesL_ (some 8) rfl rfl Try.func23 (by kernel_rfl) rfl #[.agg #[.int .i64 a0_0, .int .u8 a0_1, .int .u8 a0_2, .int .u8 a0_3, .int .u8 a0_4, .slice A0_5 l0_5.length c0_5, .int .i64 a0_6]] rfl (by (try simp only [List.map_toArray, List.map_cons, List.map_nil]); first | done | rfl | (simp only [List.length_drop, List.length_take]; rfl)) ?_; (with_reducible refine (apdu_may.calls k a0_0 a0_1 a0_2 a0_3 a0_4 _ _ l0_5 a0_6 true _ ?side1 ?side2 A2.out).mono ?_); (case side1 => repeat (first | exact (Kd.C_below HR0_5.out HB.out) | (with_reducible refine Kd.C_alloc ?_ _) | (with_reducible refine Kd.C_drewN ?_ _) | (with_reducible refine Kd.C_drew ?_))); (case side2 => exact HC0_5.out); rintro e w23 ⟨rfl, hb⟩; refine ⟨_, rfl, ?_⟩; have n0_ := Aside0.mk (blk_below (g := gb232) (o := .cells #[.int .i64 a0_0, .int .u8 a0_1, .int .u8 a0_2, .int .u8 a0_3, .int .u8 a0_4, .slice A0_5 l0_5.length c0_5, .int .i64 a0_6] 25 (0, 0)) (by (with_reducible repeat (first | refine blk_drewN ?_ _ | refine blk_drew ?_ | refine blk_alloc ?_ _)); exact BK232.out) hb); have n1_ := Aside0.mk (below_step (by repeat (first | (with_reducible first | exact HB.out | apply below_alloc | apply pw_below_drewN | apply below_drew1 | refine below_set ?_ GE232.out) | exact HB.out)) hb); clear BK232; clear HB; have BK232 := n0_; have HB := n1_; clear n0_ n1_; (try clear hb); (try clear hb2); (try clear hk); (try clear hi); have hcz24_0 : w23.cell? ⟨gb232, 0, none⟩ = some (.int .i64 a0_0) := (blk_cell BK232.out 0).trans rfl; have hcz24_1 : w23.cell? ⟨gb232, 1, none⟩ = some (.int .u8 a0_1) := (blk_cell BK232.out 1).trans rfl; have hcz24_2 : w23.cell? ⟨gb232, 2, none⟩ = some (.int .u8 a0_2) := (blk_cell BK232.out 2).trans rfl; have hcz24_3 : w23.cell? ⟨gb232, 3, none⟩ = some (.int .u8 a0_3) := (blk_cell BK232.out 3).trans rfl; have hcz24_4 : w23.cell? ⟨gb232, 4, none⟩ = some (.int .u8 a0_4) := (blk_cell BK232.out 4).trans rfl; have hcz24_5 : w23.cell? ⟨gb232, 5, none⟩ = some (.slice A0_5 l0_5.length c0_5) := (blk_cell BK232.out 5).trans rfl; have hcz24_6 : w23.cell? ⟨gb232, 6, none⟩ = some (.int .i64 a0_6) := (blk_cell BK232.out 6).trans rfl; have hfz24_0 := blk_frozen BK232.out 0; have hfz24_1 := blk_frozen BK232.out 1; have hfz24_2 := blk_frozen BK232.out 2; have hfz24_3 := blk_frozen BK232.out 3; have hfz24_4 := blk_frozen BK232.out 4; have hfz24_5 := blk_frozen BK232.out 5; have hfz24_6 := blk_frozen BK232.out 6) | ((with_reducible refine gate_dst (N := 18) rfl ?_); refine Kr.R_lit (Kd.int .u8) _ 5 ?hg (N := 18) ?hd (xs := ([a0_1, a0_2, a0_3, a0_4] : List Int)) (inner := [.int .u8 a0_1, .int .u8 a0_2, .int .u8 a0_3, .int .u8 a0_4]) (ok := fun _ => True) (okp := fun _ => True) ?hr ?hp (fun _ hk => hk) trivial (Below.refl _ _) (Nat.le_refl _) (by simp) ?_; (case hd => rfl); (case hg => rfl); (case hr => first | (go_simp; done) | (go_simp; rfl)); (case hp => exact (Reps.one (show Kd.M (Kd.int .u8) _ _ _ a0_1 [.int .u8 a0_1] from rfl) (Reps.one (show Kd.M (Kd.int .u8) _ _ _ a0_2 [.int .u8 a0_2] from rfl) (Reps.one (show Kd.M (Kd.int .u8) _ _ _ a0_3 [.int .u8 a0_3] from rfl) (Reps.one (show Kd.M (Kd.int .u8) _ _ _ a0_4 [.int .u8 a0_4] from rfl) (Reps.none _ _)))))); intro v235 w25 ho26 hb hg_ hnew_; clear hg_ hnew_; (first | rw [← Ny234.out] at ho26 | (simp only [Int.reduceToNat] at ho26; rw [← Ny234.out] at ho26)); have n0_ := Aside0.mk (Kr.R_lower ho26 (below_size (by repeat (first | (with_reducible first | exact HB.out | apply below_alloc | apply pw_below_drewN | apply below_drew1 | refine below_set ?_ GE232.out) | exact HB.out)))); have n1_ := Aside0.mk (blk_below (g := gb232) (o := .cells #[.int .i64 a0_0, .int .u8 a0_1, .int .u8 a0_2, .int .u8 a0_3, .int .u8 a0_4, .slice A0_5 l0_5.length c0_5, .int .i64 a0_6] 25 (0, 0)) (by (with_reducible repeat (first | refine blk_drewN ?_ _ | refine blk_drew ?_ | refine blk_alloc ?_ _)); exact BK232.out) hb); have n2_ := Aside0.mk (below_step (by repeat (first | (with_reducible first | exact HB.out | apply below_alloc | apply pw_below_drewN | apply below_drew1 | refine below_set ?_ GE232.out) | exact HB.out)) hb); clear BK232; clear HB; have HO236 := n0_; have BK232 := n1_; have HB := n2_; clear n0_ n1_ n2_; clear hb ho26; have hcz27_0 : w25.cell? ⟨gb232, 0, none⟩ = some (.int .i64 a0_0) := (blk_cell BK232.out 0).trans rfl; have hcz27_1 : w25.cell? ⟨gb232, 1, none⟩ = some (.int .u8 a0_1) := (blk_cell BK232.out 1).trans rfl; have hcz27_2 : w25.cell? ⟨gb232, 2, none⟩ = some (.int .u8 a0_2) := (blk_cell BK232.out 2).trans rfl; have hcz27_3 : w25.cell? ⟨gb232, 3, none⟩ = some (.int .u8 a0_3) := (blk_cell BK232.out 3).trans rfl; have hcz27_4 : w25.cell? ⟨gb232, 4, none⟩ = some (.int .u8 a0_4) := (blk_cell BK232.out 4).trans rfl; have hcz27_5 : w25.cell? ⟨gb232, 5, none⟩ = some (.slice A0_5 l0_5.length c0_5) := (blk_cell BK232.out 5).trans rfl; have hcz27_6 : w25.cell? ⟨gb232, 6, none⟩ = some (.int .i64 a0_6) := (blk_cell BK232.out 6).trans rfl; have hfz27_0 := blk_frozen BK232.out 0; have hfz27_1 := blk_frozen BK232.out 1; have hfz27_2 := blk_frozen BK232.out 2; have hfz27_3 := blk_frozen BK232.out 3; have hfz27_4 := blk_frozen BK232.out 4; have hfz27_5 := blk_frozen BK232.out 5; have hfz27_6 := blk_frozen BK232.out 6) | ((with_reducible refine gate_callee (f := 24) rfl ?_); refine goesL_ (some 26) rfl rfl Try.func24 (by kernel_rfl) rfl #[.slice A0_5 l0_5.length c0_5, .int .i64 1] rfl (by (try simp only [List.map_toArray, List.map_cons, List.map_nil]); first | done | rfl | (simp only [List.length_drop, List.length_take]; rfl)) ?_; (with_reducible refine (ends_PutRow.calls k _ _ l0_5 1 t237 t238 _ ?side1 ?side2 A5.out).mono ?_); (case side1 => repeat (first | exact (Kd.C_below HR0_5.out HB.out) | (with_reducible refine Kd.C_alloc ?_ _) | (with_reducible refine Kd.C_drewN ?_ _) | (with_reducible refine Kd.C_drew ?_))); (case side2 => exact HC0_5.out); rintro e w28 ⟨v239, rfl, ho0, hb⟩; refine ⟨_, rfl, ?_⟩; have n0_ := Aside0.mk (Kr.R_elder' (by (with_reducible repeat (first | apply Kr.R_alloc | apply Kr.R_drewN | apply Kr.R_drew)); exact HO236.out) (Kr.R_base ho0) hb); have n1_ := Aside0.mk (Kr.R_lower (Kr.R_new' ho0 (Kr.R_lt (by (with_reducible repeat (first | apply Kr.R_alloc | apply Kr.R_drewN | apply Kr.R_drew)); exact HO236.out))) (below_size (by repeat (first | (with_reducible first | exact HB.out | apply below_alloc | apply pw_below_drewN | apply below_drew1 | refine below_set ?_ GE232.out) | exact HB.out)))); have n2_ := Aside0.mk (blk_below (g := gb232) (o := .cells #[.int .i64 a0_0, .int .u8 a0_1, .int .u8 a0_2, .int .u8 a0_3, .int .u8 a0_4, .slice A0_5 l0_5.length c0_5, .int .i64 a0_6] 25 (0, 0)) (by (with_reducible repeat (first | refine blk_drewN ?_ _ | refine blk_drew ?_ | refine blk_alloc ?_ _)); exact BK232.out) hb); have n3_ := Aside0.mk (below_step (by repeat (first | (with_reducible first | exact HB.out | apply below_alloc | apply pw_below_drewN | apply below_drew1 | refine below_set ?_ GE232.out) | exact HB.out)) hb); clear HO236; clear BK232; clear HB; have HO236 := n0_; have HO240 := n1_; have BK232 := n2_; have HB := n3_; clear n0_ n1_ n2_ n3_; (try clear hb); (try clear hb2); (try clear hk); (try clear hi); (try clear ho0); obtain ⟨Ao30, co30, eo30⟩ := Kr.R_slice HO240.out; subst eo30) | ((with_reducible refine gate_builtin (b := .append) (xs := #[.tmp 29, .tmp 30]) rfl ?_); at_builtin; refine Kr.R_append_rows (Kd.int .u8) (w0 := w) w.heap.size rfl (.tmp 29) (.tmp 30) 22 5 (.int .u8 0) 1 rfl Try.underlying22 info5 rfl (by decide) (by omega) v235 y234 t237 _ _ _ (fun k_ => some k_ ≠ (.slice Ao30 t237.length co30 : Value).ownBlock) (fun _ => False) rfl rfl ?aO ?aR (fun _ _ h => h) (fun _ h => h.elim) ?aF ?aB ?aS ?aL ?_; (case aR => repeat (first | exact (Kr.R_reads' HO240.out).2.2 | (with_reducible refine Kd.C_alloc ?_ _) | (with_reducible refine Kd.C_drewN ?_ _) | (with_reducible refine Kd.C_drew ?_))); (case aB => exact (by repeat (first | (with_reducible first | exact HB.out | apply below_alloc | apply pw_below_drewN | apply below_drew1 | refine below_set ?_ GE232.out) | exact HB.out))); (case aF => exact (fun k_ hk => Kd.fresh' (Kr.R_lt (by (with_reducible repeat (first | apply Kr.R_alloc | apply Kr.R_drewN | apply Kr.R_drew)); exact HO240.out)) k_ hk)); (case aO => exact (by (with_reducible repeat (first | apply Kr.R_alloc | apply Kr.R_drewN | apply Kr.R_drew)); exact Kr.R_mono HO236.out (fun _ hk => hk.2))); (case aS => exact (below_size (by repeat (first | (with_reducible first | exact HB.out | apply below_alloc | apply pw_below_drewN | apply below_drew1 | refine below_set ?_ GE232.out) | exact HB.out)))); (case aL => have := LMc6.out; omega); intro v242 w29 ho hb hg hat; rw [← Ny241.out] at ho; have n0_ := Aside0.mk (blk_grown (g := gb232) (o := .cells #[.int .i64 a0_0, .int .u8 a0_1, .int .u8 a0_2, .int .u8 a0_3, .int .u8 a0_4, .slice A0_5 l0_5.length c0_5, .int .i64 a0_6] 25 (0, 0)) (by (with_reducible repeat (first | refine blk_drewN ?_ _ | refine blk_drew ?_ | refine blk_alloc ?_ _)); exact BK232.out) hg (Kr.R_ne HO236.out BK232.out (by decide))); have n1_ := Aside0.mk (Kr.R_after (ok := (fun _ => True)) (by (with_reducible repeat (first | apply Kr.R_alloc | apply Kr.R_drewN | apply Kr.R_drew)); exact HO240.out) hg hat); have n2_ := Aside0.mk (hb); have n3_ := Aside0.mk (ho); clear BK232; clear HO240; clear HB; clear HO236; have BK232 := n0_; have HO240 := n1_; have HB := n2_; have HO243 := n3_; clear n0_ n1_ n2_ n3_; clear ho hb hg hat; have hcz31_0 : w29.cell? ⟨gb232, 0, none⟩ = some (.int .i64 a0_0) := (blk_cell BK232.out 0).trans rfl; have hcz31_1 : w29.cell? ⟨gb232, 1, none⟩ = some (.int .u8 a0_1) := (blk_cell BK232.out 1).trans rfl; have hcz31_2 : w29.cell? ⟨gb232, 2, none⟩ = some (.int .u8 a0_2) := (blk_cell BK232.out 2).trans rfl; have hcz31_3 : w29.cell? ⟨gb232, 3, none⟩ = some (.int .u8 a0_3) := (blk_cell BK232.out 3).trans rfl; have hcz31_4 : w29.cell? ⟨gb232, 4, none⟩ = some (.int .u8 a0_4) := (blk_cell BK232.out 4).trans rfl; have hcz31_5 : w29.cell? ⟨gb232, 5, none⟩ = some (.slice A0_5 l0_5.length c0_5) := (blk_cell BK232.out 5).trans rfl; have hcz31_6 : w29.cell? ⟨gb232, 6, none⟩ = some (.int .i64 a0_6) := (blk_cell BK232.out 6).trans rfl; have hfz31_0 := blk_frozen BK232.out 0; have hfz31_1 := blk_frozen BK232.out 1; have hfz31_2 := blk_frozen BK232.out 2; have hfz31_3 := blk_frozen BK232.out 3; have hfz31_4 := blk_frozen BK232.out 4; have hfz31_5 := blk_frozen BK232.out 5; have hfz31_6 := blk_frozen BK232.out 6))
          go_ret2
          exact ⟨_, by first | rfl | (simp [errW_none, errW_some] <;> rfl) | (simp [*, errW_none, errW_some] <;> rfl), by (with_reducible repeat (first | apply Kr.R_alloc | apply Kr.R_drewN | apply Kr.R_drew)); exact Kr.R_mono HO243.out (fun _ hk => trivial), by repeat (first | (with_reducible first | exact HB.out | apply below_alloc | apply pw_below_drewN | apply below_drew1 | refine below_set ?_ GE232.out) | exact HB.out)⟩
      · rw [if_neg c6] at H
        exact absurd H (by simp)
    · rw [if_neg c4] at H
      have c4b0 : decide (0 < (l0_5.length : Int)) = false := decide_eq_false c4
      have c4b1 : decide (0 < l0_5.length) = false := decide_eq_false (by omega)
      clear c4
      by_cases c32 : a0_6 > 0
      · rw [if_pos c32] at H
        have c32b0 : decide (0 < a0_6) = true := decide_eq_true c32
        clear c32
        by_cases c33 : y234.length < 140737488355328
        · rw [if_pos c33] at H
          have LMc33 := Aside0.mk c33
          clear c33
          obtain ⟨y247, hy247⟩ : ∃ y_ : List Int, y_ = (y234 ++ [(a0_6) % 256]) := ⟨_, rfl⟩
          replace H : (some (y247, 0)) = some (r1, r2) := by first | (rw [hy247]; with_reducible exact H) | (have H2_ := (Option.bind_some _ _).symm.trans H; rw [hy247]; with_reducible exact H2_) | (have H2_ := (Option.bind_some _ _).symm.trans H; with_reducible exact H2_) | with_reducible exact H | (rw [hy247]; exact H) | exact H
          have Ny247 := Aside0.mk hy247
          clear hy247
          simp only [Option.some.injEq, Prod.mk.injEq] at H
          obtain ⟨rfl, rfl⟩ := H
          go_enter Try.func15, Try.ntmps15
          go_wp2_with (first | ((with_reducible refine gate_dst (N := 1) rfl ?_); refine box_event ?hg (N := 1) ?hd (cs := #[.int .i64 a0_0, .int .u8 a0_1, .int .u8 a0_2, .int .u8 a0_3, .int .u8 a0_4, .slice A0_5 l0_5.length c0_5, .int .i64 a0_6]) (t := 25) ?hr ?_; (case hd => rfl); (case hg => rfl); (case hr => first | (go_simp; done) | (go_simp; rfl)); intro gb232 hg w34 hbox hb; have n0_ := Aside0.mk (below_step (by repeat (first | (with_reducible first | exact HB.out | apply below_alloc | apply pw_below_drewN | apply below_drew1) | exact HB.out)) hb); have n1_ := Aside0.mk (hbox); have n2_ := Aside0.mk ((by rw [hg]; exact (below_size (by repeat (first | (with_reducible first | exact HB.out | apply below_alloc | apply pw_below_drewN | apply below_drew1) | exact HB.out))) : w.heap.size ≤ gb232)); have n3_ := Aside0.mk ((by rw [hg]; exact (below_size (by repeat (first | (with_reducible first | exact HB.out | apply below_alloc | apply pw_below_drewN | apply below_drew1) | exact HB.out))) : w.heap.size ≤ gb232)); clear HB; have HB := n0_; have BK232 := n1_; have GW232 := n2_; have GE232 := n3_; clear n0_ n1_ n2_ n3_; clear hb hbox hg; have hcz35_0 : w34.cell? ⟨gb232, 0, none⟩ = some (.int .i64 a0_0) := (blk_cell BK232.out 0).trans rfl; have hcz35_1 : w34.cell? ⟨gb232, 1, none⟩ = some (.int .u8 a0_1) := (blk_cell BK232.out 1).trans rfl; have hcz35_2 : w34.cell? ⟨gb232, 2, none⟩ = some (.int .u8 a0_2) := (blk_cell BK232.out 2).trans rfl; have hcz35_3 : w34.cell? ⟨gb232, 3, none⟩ = some (.int .u8 a0_3) := (blk_cell BK232.out 3).trans rfl; have hcz35_4 : w34.cell? ⟨gb232, 4, none⟩ = some (.int .u8 a0_4) := (blk_cell BK232.out 4).trans rfl; have hcz35_5 : w34.cell? ⟨gb232, 5, none⟩ = some (.slice A0_5 l0_5.length c0_5) := (blk_cell BK232.out 5).trans rfl; have hcz35_6 : w34.cell? ⟨gb232, 6, none⟩ = some (.int .i64 a0_6) := (blk_cell BK232.out 6).trans rfl; have hfz35_0 := blk_frozen BK232.out 0; have hfz35_1 := blk_frozen BK232.out 1; have hfz35_2 := blk_frozen BK232.out 2; have hfz35_3 := blk_frozen BK232.out 3; have hfz35_4 := blk_frozen BK232.out 4; have hfz35_5 := blk_frozen BK232.out 5; have hfz35_6 := blk_frozen BK232.out 6) | ((with_reducible refine gate_callee (f := 23) rfl ?_); refine goesL_ (some 8) rfl rfl Try.func23 (by kernel_rfl) rfl #[.agg #[.int .i64 a0_0, .int .u8 a0_1, .int .u8 a0_2, .int .u8 a0_3, .int .u8 a0_4, .slice A0_5 l0_5.length c0_5, .int .i64 a0_6]] rfl (by (try simp only [List.map_toArray, List.map_cons, List.map_nil]); first | done | rfl | (simp only [List.length_drop, List.length_take]; rfl)) ?_; (with_reducible refine (apdu_may.calls k a0_0 a0_1 a0_2 a0_3 a0_4 _ _ l0_5 a0_6 true _ ?side1 ?side2 A2.out).mono ?_); (case side1 => repeat (first | exact (Kd.C_below HR0_5.out HB.out) | (with_reducible refine Kd.C_alloc ?_ _) | (with_reducible refine Kd.C_drewN ?_ _) | (with_reducible refine Kd.C_drew ?_))); (case side2 => exact HC0_5.out); rintro e w36 ⟨rfl, hb⟩; refine ⟨_, rfl, ?_⟩; have n0_ := Aside0.mk (blk_below (g := gb232) (o := .cells #[.int .i64 a0_0, .int .u8 a0_1, .int .u8 a0_2, .int .u8 a0_3, .int .u8 a0_4, .slice A0_5 l0_5.length c0_5, .int .i64 a0_6] 25 (0, 0)) (by (with_reducible repeat (first | refine blk_drewN ?_ _ | refine blk_drew ?_ | refine blk_alloc ?_ _)); exact BK232.out) hb); have n1_ := Aside0.mk (below_step (by repeat (first | (with_reducible first | exact HB.out | apply below_alloc | apply pw_below_drewN | apply below_drew1 | refine below_set ?_ GE232.out) | exact HB.out)) hb); clear BK232; clear HB; have BK232 := n0_; have HB := n1_; clear n0_ n1_; (try clear hb); (try clear hb2); (try clear hk); (try clear hi); have hcz37_0 : w36.cell? ⟨gb232, 0, none⟩ = some (.int .i64 a0_0) := (blk_cell BK232.out 0).trans rfl; have hcz37_1 : w36.cell? ⟨gb232, 1, none⟩ = some (.int .u8 a0_1) := (blk_cell BK232.out 1).trans rfl; have hcz37_2 : w36.cell? ⟨gb232, 2, none⟩ = some (.int .u8 a0_2) := (blk_cell BK232.out 2).trans rfl; have hcz37_3 : w36.cell? ⟨gb232, 3, none⟩ = some (.int .u8 a0_3) := (blk_cell BK232.out 3).trans rfl; have hcz37_4 : w36.cell? ⟨gb232, 4, none⟩ = some (.int .u8 a0_4) := (blk_cell BK232.out 4).trans rfl; have hcz37_5 : w36.cell? ⟨gb232, 5, none⟩ = some (.slice A0_5 l0_5.length c0_5) := (blk_cell BK232.out 5).trans rfl; have hcz37_6 : w36.cell? ⟨gb232, 6, none⟩ = some (.int .i64 a0_6) := (blk_cell BK232.out 6).trans rfl; have hfz37_0 := blk_frozen BK232.out 0; have hfz37_1 := blk_frozen BK232.out 1; have hfz37_2 := blk_frozen BK232.out 2; have hfz37_3 := blk_frozen BK232.out 3; have hfz37_4 := blk_frozen BK232.out 4; have hfz37_5 := blk_frozen BK232.out 5; have hfz37_6 := blk_frozen BK232.out 6) | ((with_reducible refine gate_dst (N := 18) rfl ?_); refine Kr.R_lit (Kd.int .u8) _ 5 ?hg (N := 18) ?hd (xs := ([a0_1, a0_2, a0_3, a0_4] : List Int)) (inner := [.int .u8 a0_1, .int .u8 a0_2, .int .u8 a0_3, .int .u8 a0_4]) (ok := fun _ => True) (okp := fun _ => True) ?hr ?hp (fun _ hk => hk) trivial (Below.refl _ _) (Nat.le_refl _) (by simp) ?_; (case hd => rfl); (case hg => rfl); (case hr => first | (go_simp; done) | (go_simp; rfl)); (case hp => exact (Reps.one (show Kd.M (Kd.int .u8) _ _ _ a0_1 [.int .u8 a0_1] from rfl) (Reps.one (show Kd.M (Kd.int .u8) _ _ _ a0_2 [.int .u8 a0_2] from rfl) (Reps.one (show Kd.M (Kd.int .u8) _ _ _ a0_3 [.int .u8 a0_3] from rfl) (Reps.one (show Kd.M (Kd.int .u8) _ _ _ a0_4 [.int .u8 a0_4] from rfl) (Reps.none _ _)))))); intro v235 w38 ho39 hb hg_ hnew_; clear hg_ hnew_; (first | rw [← Ny234.out] at ho39 | (simp only [Int.reduceToNat] at ho39; rw [← Ny234.out] at ho39)); have n0_ := Aside0.mk (Kr.R_lower ho39 (below_size (by repeat (first | (with_reducible first | exact HB.out | apply below_alloc | apply pw_below_drewN | apply below_drew1 | refine below_set ?_ GE232.out) | exact HB.out)))); have n1_ := Aside0.mk (blk_below (g := gb232) (o := .cells #[.int .i64 a0_0, .int .u8 a0_1, .int .u8 a0_2, .int .u8 a0_3, .int .u8 a0_4, .slice A0_5 l0_5.length c0_5, .int .i64 a0_6] 25 (0, 0)) (by (with_reducible repeat (first | refine blk_drewN ?_ _ | refine blk_drew ?_ | refine blk_alloc ?_ _)); exact BK232.out) hb); have n2_ := Aside0.mk (below_step (by repeat (first | (with_reducible first | exact HB.out | apply below_alloc | apply pw_below_drewN | apply below_drew1 | refine below_set ?_ GE232.out) | exact HB.out)) hb); clear BK232; clear HB; have HO236 := n0_; have BK232 := n1_; have HB := n2_; clear n0_ n1_ n2_; clear hb ho39; have hcz40_0 : w38.cell? ⟨gb232, 0, none⟩ = some (.int .i64 a0_0) := (blk_cell BK232.out 0).trans rfl; have hcz40_1 : w38.cell? ⟨gb232, 1, none⟩ = some (.int .u8 a0_1) := (blk_cell BK232.out 1).trans rfl; have hcz40_2 : w38.cell? ⟨gb232, 2, none⟩ = some (.int .u8 a0_2) := (blk_cell BK232.out 2).trans rfl; have hcz40_3 : w38.cell? ⟨gb232, 3, none⟩ = some (.int .u8 a0_3) := (blk_cell BK232.out 3).trans rfl; have hcz40_4 : w38.cell? ⟨gb232, 4, none⟩ = some (.int .u8 a0_4) := (blk_cell BK232.out 4).trans rfl; have hcz40_5 : w38.cell? ⟨gb232, 5, none⟩ = some (.slice A0_5 l0_5.length c0_5) := (blk_cell BK232.out 5).trans rfl; have hcz40_6 : w38.cell? ⟨gb232, 6, none⟩ = some (.int .i64 a0_6) := (blk_cell BK232.out 6).trans rfl; have hfz40_0 := blk_frozen BK232.out 0; have hfz40_1 := blk_frozen BK232.out 1; have hfz40_2 := blk_frozen BK232.out 2; have hfz40_3 := blk_frozen BK232.out 3; have hfz40_4 := blk_frozen BK232.out 4; have hfz40_5 := blk_frozen BK232.out 5; have hfz40_6 := blk_frozen BK232.out 6) | ((with_reducible refine gate_builtin (b := .append) (xs := #[.tmp 35, .tmp 39]) rfl ?_); at_builtin; refine Kr.R_append (Kd.int .u8) (w0 := w) w.heap.size rfl (.tmp 35) (.tmp 39) 22 5 (.int .u8 0) 1 rfl Try.underlying22 info5 rfl (by decide) (by omega) v235 y234 ((a0_6) % 256) [.int .u8 ((a0_6) % 256)] (fun _ => True) (fun _ => False) rfl rfl ?aP (fun _ hk => hk.elim) ?aF ?aO ?aB ?aS ?aL ?_; (case aP => exact rfl); (case aB => exact (by repeat (first | (with_reducible first | exact HB.out | apply below_alloc | apply pw_below_drewN | apply below_drew1 | refine below_set ?_ GE232.out) | exact HB.out))); (case aF => exact (fun _ _ => trivial)); (case aO => exact (by (with_reducible repeat (first | apply Kr.R_alloc | apply Kr.R_drewN | apply Kr.R_drew)); exact HO236.out)); (case aS => exact (below_size (by repeat (first | (with_reducible first | exact HB.out | apply below_alloc | apply pw_below_drewN | apply below_drew1 | refine below_set ?_ GE232.out) | exact HB.out)))); (case aL => have := LMc33.out; omega); intro v248 w41 ho hb hg hat; rw [← Ny247.out] at ho; have n0_ := Aside0.mk (blk_grown (g := gb232) (o := .cells #[.int .i64 a0_0, .int .u8 a0_1, .int .u8 a0_2, .int .u8 a0_3, .int .u8 a0_4, .slice A0_5 l0_5.length c0_5, .int .i64 a0_6] 25 (0, 0)) (by (with_reducible repeat (first | refine blk_drewN ?_ _ | refine blk_drew ?_ | refine blk_alloc ?_ _)); exact BK232.out) hg (Kr.R_ne HO236.out BK232.out (by decide))); have n1_ := Aside0.mk (hb); have n2_ := Aside0.mk (ho); clear BK232; clear HB; clear HO236; have BK232 := n0_; have HB := n1_; have HO249 := n2_; clear n0_ n1_ n2_; clear ho hb hg hat))
          go_ret2
          exact ⟨_, by first | rfl | (simp [errW_none, errW_some] <;> rfl) | (simp [*, errW_none, errW_some] <;> rfl), by (with_reducible repeat (first | apply Kr.R_alloc | apply Kr.R_drewN | apply Kr.R_drew)); exact HO249.out, by repeat (first | (with_reducible first | exact HB.out | apply below_alloc | apply pw_below_drewN | apply below_drew1 | refine below_set ?_ GE232.out) | exact HB.out)⟩
        · rw [if_neg c33] at H
          exact absurd H (by simp)
      · rw [if_neg c32] at H
        have c32b0 : decide (0 < a0_6) = false := decide_eq_false c32
        clear c32
        simp only [Option.some.injEq, Prod.mk.injEq] at H
        obtain ⟨rfl, rfl⟩ := H
        go_enter Try.func15, Try.ntmps15
        go_wp2_with (first | ((with_reducible refine gate_dst (N := 1) rfl ?_); refine box_event ?hg (N := 1) ?hd (cs := #[.int .i64 a0_0, .int .u8 a0_1, .int .u8 a0_2, .int .u8 a0_3, .int .u8 a0_4, .slice A0_5 l0_5.length c0_5, .int .i64 a0_6]) (t := 25) ?hr ?_; (case hd => rfl); (case hg => rfl); (case hr => first | (go_simp; done) | (go_simp; rfl)); intro gb232 hg w42 hbox hb; have n0_ := Aside0.mk (below_step (by repeat (first | (with_reducible first | exact HB.out | apply below_alloc | apply pw_below_drewN | apply below_drew1) | exact HB.out)) hb); have n1_ := Aside0.mk (hbox); have n2_ := Aside0.mk ((by rw [hg]; exact (below_size (by repeat (first | (with_reducible first | exact HB.out | apply below_alloc | apply pw_below_drewN | apply below_drew1) | exact HB.out))) : w.heap.size ≤ gb232)); have n3_ := Aside0.mk ((by rw [hg]; exact (below_size (by repeat (first | (with_reducible first | exact HB.out | apply below_alloc | apply pw_below_drewN | apply below_drew1) | exact HB.out))) : w.heap.size ≤ gb232)); clear HB; have HB := n0_; have BK232 := n1_; have GW232 := n2_; have GE232 := n3_; clear n0_ n1_ n2_ n3_; clear hb hbox hg; have hcz43_0 : w42.cell? ⟨gb232, 0, none⟩ = some (.int .i64 a0_0) := (blk_cell BK232.out 0).trans rfl; have hcz43_1 : w42.cell? ⟨gb232, 1, none⟩ = some (.int .u8 a0_1) := (blk_cell BK232.out 1).trans rfl; have hcz43_2 : w42.cell? ⟨gb232, 2, none⟩ = some (.int .u8 a0_2) := (blk_cell BK232.out 2).trans rfl; have hcz43_3 : w42.cell? ⟨gb232, 3, none⟩ = some (.int .u8 a0_3) := (blk_cell BK232.out 3).trans rfl; have hcz43_4 : w42.cell? ⟨gb232, 4, none⟩ = some (.int .u8 a0_4) := (blk_cell BK232.out 4).trans rfl; have hcz43_5 : w42.cell? ⟨gb232, 5, none⟩ = some (.slice A0_5 l0_5.length c0_5) := (blk_cell BK232.out 5).trans rfl; have hcz43_6 : w42.cell? ⟨gb232, 6, none⟩ = some (.int .i64 a0_6) := (blk_cell BK232.out 6).trans rfl; have hfz43_0 := blk_frozen BK232.out 0; have hfz43_1 := blk_frozen BK232.out 1; have hfz43_2 := blk_frozen BK232.out 2; have hfz43_3 := blk_frozen BK232.out 3; have hfz43_4 := blk_frozen BK232.out 4; have hfz43_5 := blk_frozen BK232.out 5; have hfz43_6 := blk_frozen BK232.out 6) | ((with_reducible refine gate_callee (f := 23) rfl ?_); refine goesL_ (some 8) rfl rfl Try.func23 (by kernel_rfl) rfl #[.agg #[.int .i64 a0_0, .int .u8 a0_1, .int .u8 a0_2, .int .u8 a0_3, .int .u8 a0_4, .slice A0_5 l0_5.length c0_5, .int .i64 a0_6]] rfl (by (try simp only [List.map_toArray, List.map_cons, List.map_nil]); first | done | rfl | (simp only [List.length_drop, List.length_take]; rfl)) ?_; (with_reducible refine (apdu_may.calls k a0_0 a0_1 a0_2 a0_3 a0_4 _ _ l0_5 a0_6 true _ ?side1 ?side2 A2.out).mono ?_); (case side1 => repeat (first | exact (Kd.C_below HR0_5.out HB.out) | (with_reducible refine Kd.C_alloc ?_ _) | (with_reducible refine Kd.C_drewN ?_ _) | (with_reducible refine Kd.C_drew ?_))); (case side2 => exact HC0_5.out); rintro e w44 ⟨rfl, hb⟩; refine ⟨_, rfl, ?_⟩; have n0_ := Aside0.mk (blk_below (g := gb232) (o := .cells #[.int .i64 a0_0, .int .u8 a0_1, .int .u8 a0_2, .int .u8 a0_3, .int .u8 a0_4, .slice A0_5 l0_5.length c0_5, .int .i64 a0_6] 25 (0, 0)) (by (with_reducible repeat (first | refine blk_drewN ?_ _ | refine blk_drew ?_ | refine blk_alloc ?_ _)); exact BK232.out) hb); have n1_ := Aside0.mk (below_step (by repeat (first | (with_reducible first | exact HB.out | apply below_alloc | apply pw_below_drewN | apply below_drew1 | refine below_set ?_ GE232.out) | exact HB.out)) hb); clear BK232; clear HB; have BK232 := n0_; have HB := n1_; clear n0_ n1_; (try clear hb); (try clear hb2); (try clear hk); (try clear hi); have hcz45_0 : w44.cell? ⟨gb232, 0, none⟩ = some (.int .i64 a0_0) := (blk_cell BK232.out 0).trans rfl; have hcz45_1 : w44.cell? ⟨gb232, 1, none⟩ = some (.int .u8 a0_1) := (blk_cell BK232.out 1).trans rfl; have hcz45_2 : w44.cell? ⟨gb232, 2, none⟩ = some (.int .u8 a0_2) := (blk_cell BK232.out 2).trans rfl; have hcz45_3 : w44.cell? ⟨gb232, 3, none⟩ = some (.int .u8 a0_3) := (blk_cell BK232.out 3).trans rfl; have hcz45_4 : w44.cell? ⟨gb232, 4, none⟩ = some (.int .u8 a0_4) := (blk_cell BK232.out 4).trans rfl; have hcz45_5 : w44.cell? ⟨gb232, 5, none⟩ = some (.slice A0_5 l0_5.length c0_5) := (blk_cell BK232.out 5).trans rfl; have hcz45_6 : w44.cell? ⟨gb232, 6, none⟩ = some (.int .i64 a0_6) := (blk_cell BK232.out 6).trans rfl; have hfz45_0 := blk_frozen BK232.out 0; have hfz45_1 := blk_frozen BK232.out 1; have hfz45_2 := blk_frozen BK232.out 2; have hfz45_3 := blk_frozen BK232.out 3; have hfz45_4 := blk_frozen BK232.out 4; have hfz45_5 := blk_frozen BK232.out 5; have hfz45_6 := blk_frozen BK232.out 6) | ((with_reducible refine gate_dst (N := 18) rfl ?_); refine Kr.R_lit (Kd.int .u8) _ 5 ?hg (N := 18) ?hd (xs := ([a0_1, a0_2, a0_3, a0_4] : List Int)) (inner := [.int .u8 a0_1, .int .u8 a0_2, .int .u8 a0_3, .int .u8 a0_4]) (ok := fun _ => True) (okp := fun _ => True) ?hr ?hp (fun _ hk => hk) trivial (Below.refl _ _) (Nat.le_refl _) (by simp) ?_; (case hd => rfl); (case hg => rfl); (case hr => first | (go_simp; done) | (go_simp; rfl)); (case hp => exact (Reps.one (show Kd.M (Kd.int .u8) _ _ _ a0_1 [.int .u8 a0_1] from rfl) (Reps.one (show Kd.M (Kd.int .u8) _ _ _ a0_2 [.int .u8 a0_2] from rfl) (Reps.one (show Kd.M (Kd.int .u8) _ _ _ a0_3 [.int .u8 a0_3] from rfl) (Reps.one (show Kd.M (Kd.int .u8) _ _ _ a0_4 [.int .u8 a0_4] from rfl) (Reps.none _ _)))))); intro v235 w46 ho47 hb hg_ hnew_; clear hg_ hnew_; (first | rw [← Ny234.out] at ho47 | (simp only [Int.reduceToNat] at ho47; rw [← Ny234.out] at ho47)); have n0_ := Aside0.mk (Kr.R_lower ho47 (below_size (by repeat (first | (with_reducible first | exact HB.out | apply below_alloc | apply pw_below_drewN | apply below_drew1 | refine below_set ?_ GE232.out) | exact HB.out)))); have n1_ := Aside0.mk (blk_below (g := gb232) (o := .cells #[.int .i64 a0_0, .int .u8 a0_1, .int .u8 a0_2, .int .u8 a0_3, .int .u8 a0_4, .slice A0_5 l0_5.length c0_5, .int .i64 a0_6] 25 (0, 0)) (by (with_reducible repeat (first | refine blk_drewN ?_ _ | refine blk_drew ?_ | refine blk_alloc ?_ _)); exact BK232.out) hb); have n2_ := Aside0.mk (below_step (by repeat (first | (with_reducible first | exact HB.out | apply below_alloc | apply pw_below_drewN | apply below_drew1 | refine below_set ?_ GE232.out) | exact HB.out)) hb); clear BK232; clear HB; have HO236 := n0_; have BK232 := n1_; have HB := n2_; clear n0_ n1_ n2_; clear hb ho47; have hcz48_0 : w46.cell? ⟨gb232, 0, none⟩ = some (.int .i64 a0_0) := (blk_cell BK232.out 0).trans rfl; have hcz48_1 : w46.cell? ⟨gb232, 1, none⟩ = some (.int .u8 a0_1) := (blk_cell BK232.out 1).trans rfl; have hcz48_2 : w46.cell? ⟨gb232, 2, none⟩ = some (.int .u8 a0_2) := (blk_cell BK232.out 2).trans rfl; have hcz48_3 : w46.cell? ⟨gb232, 3, none⟩ = some (.int .u8 a0_3) := (blk_cell BK232.out 3).trans rfl; have hcz48_4 : w46.cell? ⟨gb232, 4, none⟩ = some (.int .u8 a0_4) := (blk_cell BK232.out 4).trans rfl; have hcz48_5 : w46.cell? ⟨gb232, 5, none⟩ = some (.slice A0_5 l0_5.length c0_5) := (blk_cell BK232.out 5).trans rfl; have hcz48_6 : w46.cell? ⟨gb232, 6, none⟩ = some (.int .i64 a0_6) := (blk_cell BK232.out 6).trans rfl; have hfz48_0 := blk_frozen BK232.out 0; have hfz48_1 := blk_frozen BK232.out 1; have hfz48_2 := blk_frozen BK232.out 2; have hfz48_3 := blk_frozen BK232.out 3; have hfz48_4 := blk_frozen BK232.out 4; have hfz48_5 := blk_frozen BK232.out 5; have hfz48_6 := blk_frozen BK232.out 6))
        go_ret2
        exact ⟨_, by first | rfl | (simp [errW_none, errW_some] <;> rfl) | (simp [*, errW_none, errW_some] <;> rfl), by (with_reducible repeat (first | apply Kr.R_alloc | apply Kr.R_drewN | apply Kr.R_drew)); exact HO236.out, by repeat (first | (with_reducible first | exact HB.out | apply below_alloc | apply pw_below_drewN | apply below_drew1 | refine below_set ?_ GE232.out) | exact HB.out)⟩
  · replace c3 := Bool.eq_false_iff.mpr c3
    subst c3
    have H1 : (some (([] : List Int), 2)) = some (r1, r2) := by rw [if_neg (show ¬ (false = true) by decide)] at H; exact H
    clear H
    have H := H1
    clear H1
    simp only [Option.some.injEq, Prod.mk.injEq] at H
    obtain ⟨rfl, rfl⟩ := H
    go_enter Try.func15, Try.ntmps15
    go_wp2_with (first | ((with_reducible refine gate_dst (N := 1) rfl ?_); refine box_event ?hg (N := 1) ?hd (cs := #[.int .i64 a0_0, .int .u8 a0_1, .int .u8 a0_2, .int .u8 a0_3, .int .u8 a0_4, .slice A0_5 l0_5.length c0_5, .int .i64 a0_6]) (t := 25) ?hr ?_; (case hd => rfl); (case hg => rfl); (case hr => first | (go_simp; done) | (go_simp; rfl)); intro gb232 hg w49 hbox hb; have n0_ := Aside0.mk (below_step (by repeat (first | (with_reducible first | exact HB.out | apply below_alloc | apply pw_below_drewN | apply below_drew1) | exact HB.out)) hb); have n1_ := Aside0.mk (hbox); have n2_ := Aside0.mk ((by rw [hg]; exact (below_size (by repeat (first | (with_reducible first | exact HB.out | apply below_alloc | apply pw_below_drewN | apply below_drew1) | exact HB.out))) : w.heap.size ≤ gb232)); have n3_ := Aside0.mk ((by rw [hg]; exact (below_size (by repeat (first | (with_reducible first | exact HB.out | apply below_alloc | apply pw_below_drewN | apply below_drew1) | exact HB.out))) : w.heap.size ≤ gb232)); clear HB; have HB := n0_; have BK232 := n1_; have GW232 := n2_; have GE232 := n3_; clear n0_ n1_ n2_ n3_; clear hb hbox hg; have hcz50_0 : w49.cell? ⟨gb232, 0, none⟩ = some (.int .i64 a0_0) := (blk_cell BK232.out 0).trans rfl; have hcz50_1 : w49.cell? ⟨gb232, 1, none⟩ = some (.int .u8 a0_1) := (blk_cell BK232.out 1).trans rfl; have hcz50_2 : w49.cell? ⟨gb232, 2, none⟩ = some (.int .u8 a0_2) := (blk_cell BK232.out 2).trans rfl; have hcz50_3 : w49.cell? ⟨gb232, 3, none⟩ = some (.int .u8 a0_3) := (blk_cell BK232.out 3).trans rfl; have hcz50_4 : w49.cell? ⟨gb232, 4, none⟩ = some (.int .u8 a0_4) := (blk_cell BK232.out 4).trans rfl; have hcz50_5 : w49.cell? ⟨gb232, 5, none⟩ = some (.slice A0_5 l0_5.length c0_5) := (blk_cell BK232.out 5).trans rfl; have hcz50_6 : w49.cell? ⟨gb232, 6, none⟩ = some (.int .i64 a0_6) := (blk_cell BK232.out 6).trans rfl; have hfz50_0 := blk_frozen BK232.out 0; have hfz50_1 := blk_frozen BK232.out 1; have hfz50_2 := blk_frozen BK232.out 2; have hfz50_3 := blk_frozen BK232.out 3; have hfz50_4 := blk_frozen BK232.out 4; have hfz50_5 := blk_frozen BK232.out 5; have hfz50_6 := blk_frozen BK232.out 6) | ((with_reducible refine gate_callee (f := 23) rfl ?_); refine goesL_ (some 8) rfl rfl Try.func23 (by kernel_rfl) rfl #[.agg #[.int .i64 a0_0, .int .u8 a0_1, .int .u8 a0_2, .int .u8 a0_3, .int .u8 a0_4, .slice A0_5 l0_5.length c0_5, .int .i64 a0_6]] rfl (by (try simp only [List.map_toArray, List.map_cons, List.map_nil]); first | done | rfl | (simp only [List.length_drop, List.length_take]; rfl)) ?_; (with_reducible refine (apdu_may.calls k a0_0 a0_1 a0_2 a0_3 a0_4 _ _ l0_5 a0_6 false _ ?side1 ?side2 A2.out).mono ?_); (case side1 => repeat (first | exact (Kd.C_below HR0_5.out HB.out) | (with_reducible refine Kd.C_alloc ?_ _) | (with_reducible refine Kd.C_drewN ?_ _) | (with_reducible refine Kd.C_drew ?_))); (case side2 => exact HC0_5.out); rintro e w51 ⟨rfl, hb⟩; refine ⟨_, rfl, ?_⟩; have n0_ := Aside0.mk (blk_below (g := gb232) (o := .cells #[.int .i64 a0_0, .int .u8 a0_1, .int .u8 a0_2, .int .u8 a0_3, .int .u8 a0_4, .slice A0_5 l0_5.length c0_5, .int .i64 a0_6] 25 (0, 0)) (by (with_reducible repeat (first | refine blk_drewN ?_ _ | refine blk_drew ?_ | refine blk_alloc ?_ _)); exact BK232.out) hb); have n1_ := Aside0.mk (below_step (by repeat (first | (with_reducible first | exact HB.out | apply below_alloc | apply pw_below_drewN | apply below_drew1 | refine below_set ?_ GE232.out) | exact HB.out)) hb); clear BK232; clear HB; have BK232 := n0_; have HB := n1_; clear n0_ n1_; (try clear hb); (try clear hb2); (try clear hk); (try clear hi)))
    go_ret2
    exact ⟨_, by first | rfl | (simp [errW_none, errW_some] <;> rfl) | (simp [*, errW_none, errW_some] <;> rfl), by first | exact Kr.R_nil _ _ _ _ _ | exact Kd.N_nil _ _ _ _ _ | exact Kd.V_nil _ _ _ _ _ | exact Kd.Q_nil _ _ _ _ _ | exact Kd.S_nil _ _ _ _ _, by repeat (first | (with_reducible first | exact HB.out | apply below_alloc | apply pw_below_drewN | apply below_drew1 | refine below_set ?_ GE232.out) | exact HB.out)⟩

/-! ### garderoberef00_Wide: function 18 -/
mutual
def garderoberef00_Wide.l0 : Nat → List Int → List Int → Int → Option (List Int)
  | 0, _, _, _ => none
  | k + 1, x0, x3, x4 => if x4 < (x0.length : Int) then (if 0 ≤ x4 then (if x4 < (x3.length : Int) then (garderoberef00_Wide.l0 k x0 (x3.set (x4 : Int).toNat (rd x0 x4)) (wrap64 (x4 + 1))) else (none)) else (none)) else (garderoberef00_Wide.l1 k x0 x3 (x0.length : Int))
def garderoberef00_Wide.l1 : Nat → List Int → List Int → Int → Option (List Int)
  | 0, _, _, _ => none
  | k + 1, x0, x3, x5 => if x5 < (x3.length : Int) then (if 0 ≤ x5 then (garderoberef00_Wide.l1 k x0 (x3.set (x5 : Int).toNat 7) (wrap64 (x5 + 1))) else (none)) else (if 0 ≤ (x0.length : Int) then (if (x0.length : Int) ≤ (x3.length : Int) then (some (x3.take ((x0.length : Int) : Int).toNat)) else (none)) else (none))
end
def garderoberef00_Wide.f (_k : Nat) (l0 : List Int) : Option (List Int) := if l0.length ≤ 140737488355328 then some l0 else none
theorem garderoberef00_Wide.mono_l : ∀ k, (∀ y0 y1 y2, LeO (garderoberef00_Wide.l0 k y0 y1 y2) (garderoberef00_Wide.l0 (k + 1) y0 y1 y2)) ∧ (∀ y0 y1 y2, LeO (garderoberef00_Wide.l1 k y0 y1 y2) (garderoberef00_Wide.l1 (k + 1) y0 y1 y2))
  | 0 => ⟨fun _ _ _ r h => by simp [garderoberef00_Wide.l0] at h, fun _ _ _ r h => by simp [garderoberef00_Wide.l1] at h⟩
  | k + 1 => by
    obtain ⟨ih0, ih1⟩ := garderoberef00_Wide.mono_l k
    refine ⟨?_, ?_⟩
    · intro y0 y1 y2
      unfold garderoberef00_Wide.l0
      repeat' first
      | (with_reducible exact ih0 _ _ _)
      | (with_reducible exact ih1 _ _ _)
      | (with_reducible exact LeO.refl _)
      | (with_reducible exact LeO.none _)
      | (with_reducible refine LeO.ite ?_ ?_)
      | (with_reducible refine LeO.bind ?_ (fun _ => ?_))
      | exact ih0 _ _ _
      | exact ih1 _ _ _
      | exact LeO.none _
      | refine LeO.ite ?_ ?_
      | refine LeO.bind ?_ (fun _ => ?_)
    · intro y0 y1 y2
      unfold garderoberef00_Wide.l1
      repeat' first
      | (with_reducible exact ih0 _ _ _)
      | (with_reducible exact ih1 _ _ _)
      | (with_reducible exact LeO.refl _)
      | (with_reducible exact LeO.none _)
      | (with_reducible refine LeO.ite ?_ ?_)
      | (with_reducible refine LeO.bind ?_ (fun _ => ?_))
      | exact ih0 _ _ _
      | exact ih1 _ _ _
      | exact LeO.none _
      | refine LeO.ite ?_ ?_
      | refine LeO.bind ?_ (fun _ => ?_)
theorem garderoberef00_Wide.mono : ∀ a0 k, LeO (garderoberef00_Wide.f k a0) (garderoberef00_Wide.f (k + 1) a0) := by
  intro a0 k
  obtain ⟨ih0, ih1⟩ := garderoberef00_Wide.mono_l k
  unfold garderoberef00_Wide.f
  repeat' first
      | (with_reducible exact ih0 _ _ _)
      | (with_reducible exact ih1 _ _ _)
      | (with_reducible exact LeO.refl _)
      | (with_reducible exact LeO.none _)
      | (with_reducible refine LeO.ite ?_ ?_)
      | (with_reducible refine LeO.bind ?_ (fun _ => ?_))
      | exact ih0 _ _ _
      | exact ih1 _ _ _
      | exact LeO.none _
      | refine LeO.ite ?_ ?_
      | refine LeO.bind ?_ (fun _ => ?_)
set_option maxHeartbeats 8000000 in
set_option maxRecDepth 100000 in
theorem garderoberef00_Wide.calls (k : Nat) (A0 : Option Addr) (c0 : Nat) (l0 : List Int) (r : List Int) (w : World) (hr0 : Kd.C (Kd.int .u8) w A0 l0.length l0) (hc0 : l0.length ≤ c0) (h : garderoberef00_Wide.f k l0 = some r) :
    Calls Try.prog 18 #[.slice A0 l0.length c0] w fun e w' => ∃ v0_ : Value, e = .returned (v0_) ∧ Kr.R (Kd.int .u8) 5 w' w.heap.size (fun _ => True) v0_ r ∧ Kr.R (Kd.int .u8) 5 w' w.heap.size (fun _ => True) (Go.Proofs.YtfloeenjkjimmaaW.Mine.longV v0_) (r ++ [7, 7, 7]) ∧ Below w.heap.size w w' := by
  have hlen : l0.length ≤ 140737488355328 := by
    unfold garderoberef00_Wide.f at h
    split at h
    · assumption
    · cases h
  have hr_ : l0 = r := by
    unfold garderoberef00_Wide.f at h
    rw [if_pos hlen] at h
    exact Option.some.inj h
  subst hr_
  clear h
  have HR0 := Aside0.mk hr0
  have HC0 := Aside0.mk hc0
  have HL := Aside0.mk hlen
  clear hr0 hc0
  have HB := Aside0.mk (Below.refl w.heap.size w)
  obtain ⟨ji2, hji2⟩ : ∃ j_ : Int, (wrap64 ((l0.length : Int) + 3)) = j_ := ⟨_, rfl⟩
  have hji2w : (IntKind.i64.wrap ((l0.length : Int) + 3)) = ji2 := (i64_w _).trans hji2
  have hj3 : ji2 = ((l0.length + 3 : Nat) : Int) := by rw [← hji2]; unfold wrap64; omega
  have HJ3 := Aside0.mk hj3
  obtain ⟨m3, hm3_⟩ : ∃ m_ : Nat, m_ = l0.length + 3 := ⟨_, rfl⟩
  have HM3 := Aside0.mk hm3_
  clear hm3_
  have c3 : 0 ≤ ji2 := by omega
  have c4 : ji2.toNat ≤ 281474976710656 := by omega
  clear hj3 hlen
  have c3b0 := eq_true c3
  have c3b1 : decide (0 ≤ (ji2)) = true := decide_eq_true c3
  have c4b0 := eq_true c4
  have c4b1 : decide ((ji2 : Int).toNat ≤ 281474976710656) = true := decide_eq_true c4
  clear c3 c4
  obtain ⟨y166, hy166⟩ : ∃ y_ : List Int, y_ = (List.replicate (ji2 : Int).toNat 0) := ⟨_, rfl⟩
  have Ny250 := Aside0.mk hy166
  clear hy166
  go_enter Try.func18, Try.ntmps18
  go_wp2_with (first | ((with_reducible refine gate_dst (N := 9) rfl ?_); refine Kr.R_make (Kd.int .u8) _ 5 rfl (N := 9) rfl 22 _ _ rfl ji2 rfl rfl Try.underlying22 (.int .u8 0) 1 info5 rfl (by decide) (by omega) 0 (ok := fun _ => True) (okp := fun _ => True) rfl (fun _ hk => hk) trivial (of_decide_eq_true (by first | (with_reducible assumption) | assumption)) (Nat.le_trans (Nat.mul_le_mul_right _ (of_decide_eq_true (by first | (with_reducible assumption) | assumption) : ji2.toNat ≤ 281474976710656)) (by omega)) (Below.refl _ _) (Nat.le_refl _) ?_; intro v251 w5 ho6 hb hg_ hnew_; clear hg_ hnew_; (first | rw [← Ny250.out] at ho6 | (simp only [Int.reduceToNat] at ho6; rw [← Ny250.out] at ho6)); have n0_ := Aside0.mk (Kr.R_lower ho6 (below_size (by repeat (first | (with_reducible first | exact HB.out | apply below_alloc | apply pw_below_drewN | apply below_drew1) | exact HB.out)))); have n1_ := Aside0.mk (below_step (by repeat (first | (with_reducible first | exact HB.out | apply below_alloc | apply pw_below_drewN | apply below_drew1) | exact HB.out)) hb); clear HB; have HO252 := n0_; have HB := n1_; clear n0_ n1_; clear hb ho6))
  have hy0_ : y166 = Go.Proofs.YtfloeenjkjimmaaW.Mine.wideA l0 0 := by rw [Ny250.out, Go.Proofs.YtfloeenjkjimmaaW.Mine.wideA_zero, HJ3.out]; rfl
  have h0_ := HO252.out
  rw [hy0_] at h0_
  obtain ⟨A_, co_, e_⟩ := Kr.R_slice h0_
  rw [Go.Proofs.YtfloeenjkjimmaaW.Mine.wideA_length l0 0 (by omega), ← HM3.out] at e_
  subst e_
  have HO_9 := Aside0.mk h0_
  clear h0_ hy0_ HO252
  try clear c3b0
  try clear c3b1
  try clear c4b0
  try clear c4b1
  go_loopg [4] l0.length (fun kq v4 w' => ∃ (x4_1 : Int), v4 = .int .i64 x4_1 ∧ Aside0 (0 ≤ x4_1 ∧ (kq : Int) + x4_1 = l0.length) ∧ Aside0 (Kr.R (Kd.int .u8) 5 w' w.heap.size (fun _ => True) (.slice A_ m3 co_) (Go.Proofs.YtfloeenjkjimmaaW.Mine.wideA l0 x4_1.toNat)) ∧ Aside0 (Below w.heap.size w w'))
  case atStart => exact ⟨0, (by first | rfl | (simp; done) | (simp [*]; done)), ⟨by omega⟩, ⟨by (with_reducible repeat (first | apply Kr.R_alloc | apply Kr.R_drewN | apply Kr.R_drew)); exact HO_9.out⟩, ⟨by repeat (first | (with_reducible first | exact HB.out | apply below_alloc | apply pw_below_drewN | apply below_drew1) | exact HB.out)⟩⟩
  case round =>
    obtain ⟨x4_1, rfl, HA, HO_3, HB⟩ := hrel
    obtain ⟨x3_1, hx3_⟩ : ∃ x_ : List Int, x_ = Go.Proofs.YtfloeenjkjimmaaW.Mine.wideA l0 x4_1.toNat := ⟨_, rfl⟩
    rw [← hx3_] at HO_3
    have HLN : Aside0 (x3_1.length = m3) := ⟨by rw [hx3_, Go.Proofs.YtfloeenjkjimmaaW.Mine.wideA_length, HM3.out]; have := HA.out; omega⟩
    have HX3 := Aside0.mk hx3_
    clear hx3_
    by_cases c4 : x4_1 < (l0.length : Int)
    · have c4b0 : decide (x4_1 < (l0.length : Int)) = true := decide_eq_true c4
      have c4_ := Aside0.mk c4
      clear c4
      cases gk with
      | zero => exact absurd HA.out.2 (by have := c4_.out; omega)
      | succ k1 =>
          have hw_ : wrap64 (x4_1 + 1) = x4_1 + 1 := by
            have := HL.out
            have := HA.out
            unfold wrap64
            omega
          have HWW := Aside0.mk hw_
          clear hw_
          have p10 : 0 ≤ x4_1 := HA.out.1
          obtain ⟨ad169, e169, hx169_0⟩ := Kd.at_int HR0.out x4_1 p10 c4_.out
          cases e169
          have q169 := eq_true c4_.out
          replace hx169_0 := (HB.out.cell (World.block_lt_of_cell? w _ hx169_0)).trans hx169_0
          obtain ⟨go10, co10, eo10, gb10, gl10, cl10, HG10⟩ := Kr.R_form HO_3.out (by rw [HLN.out, HM3.out]; omega)
          injection eo10 with ea_ en_ ec_
          (first | subst ea_ | (injection ea_ with ea_; subst ea_))
          clear ec_ en_
          have GB10 := Aside0.mk gb10
          clear gb10 gl10 HG10
          obtain ⟨hx10_0, hf10_0⟩ := Kr.R_celln 0 HO_3.out x4_1 p10 (by have h_ := HM3.out; have h2_ := c4_.out; have h3_ := HA.out; omega)
          replace p10 := eq_true p10
          have q10 : (x4_1 < (m3 : Int)) = True := eq_true (by have h_ := HM3.out; have h2_ := c4_.out; have h3_ := HA.out; omega)
          have HP11 := Kr.R_putg HO_3.out x4_1 (rd l0 x4_1)
          go_wp2_with (first | ((with_reducible refine gate_store (t := 5) (p := 22) rfl ?_); refine store_event (t := 5) (p := 22) (v := ?vo_w22) (w1 := (wr.setCell ⟨go10, (x4_1 : Int).toNat, none⟩ (.int .u8 (rd l0 x4_1)))) ?hg ?ho ?hn ?hr ?_; (case ho => rfl); (case hg => rfl); (case hn => rfl); (case hr => first | (go_simp; done) | (go_simp; rfl)); intro w12 hw; have hg : wr.grownBy w12 (some go10) := (by rw [hw]; exact HP11.2); have hp_ : Kr.R (Kd.int .u8) 5 w12 w.heap.size (fun _ => True) (.slice (some ⟨go10, 0, none⟩) m3 co_) (x3_1.set (x4_1 : Int).toNat (rd l0 x4_1)) := (by rw [hw]; exact HP11.1); clear HP11; have n0_ := Aside0.mk (hp_); have n1_ := Aside0.mk ((by rw [hw]; exact below_set (HB.out) GB10.out : Below w.heap.size w w12)); clear HO_3; clear HB; have HO_3 := n0_; have HB := n1_; clear n0_ n1_; clear hg hw hp_))

          go_roundg k1
          case measure => omega
          case rel =>
            refine ⟨x4_1 + 1, ?_, ⟨by have := HA.out; omega⟩, ⟨?_⟩, ⟨by repeat (first | (with_reducible first | exact HB.out | apply below_alloc | apply pw_below_drewN | apply below_drew1) | exact HB.out)⟩⟩
            · first | (rw [HWW.out]; done) | (simp only [HWW.out]; done) | (simp [HWW.out]; done) | (rw [← HWW.out])
            · have h8_ := Go.Proofs.YtfloeenjkjimmaaW.Mine.wideA_succ l0 x4_1.toNat (by have := c4_.out; have := HA.out; omega)
              have h7_ : ((x4_1.toNat : Nat) : Int) = x4_1 := Int.toNat_of_nonneg HA.out.1
              rw [← HX3.out, h7_, show x4_1.toNat + 1 = (x4_1 + 1).toNat from by have := HA.out; omega] at h8_
              have h9_ := HO_3.out
              rw [h8_] at h9_
              (with_reducible repeat (first | apply Kr.R_alloc | apply Kr.R_drewN | apply Kr.R_drew))
              exact h9_
    · have c4b0 : decide (x4_1 < (l0.length : Int)) = false := decide_eq_false c4
      have c4_ := Aside0.mk c4
      clear c4
      have h0_ := HO_3.out
      rw [HX3.out, show x4_1.toNat = l0.length from by have := c4_.out; have := HA.out; omega, Go.Proofs.YtfloeenjkjimmaaW.Mine.wideA_all] at h0_
      have HO_9 := Aside0.mk h0_
      clear h0_ HO_3
      go_wp2
      go_loopg [5] 3 (fun kq v5 w' => ∃ (x5_2 : Int), v5 = .int .i64 x5_2 ∧ Aside0 ((l0.length : Int) ≤ x5_2 ∧ (kq : Int) + x5_2 = (l0.length : Int) + 3) ∧ Aside0 (Kr.R (Kd.int .u8) 5 w' w.heap.size (fun _ => True) (.slice A_ m3 co_) (Go.Proofs.YtfloeenjkjimmaaW.Mine.wideB l0 x5_2.toNat)) ∧ Aside0 (Below w.heap.size w w'))
      case atStart => exact ⟨(l0.length : Int), (by first | rfl | (simp; done) | (simp [*]; done)), ⟨by omega⟩, ⟨by rw [Int.toNat_natCast]; exact (by (with_reducible repeat (first | apply Kr.R_alloc | apply Kr.R_drewN | apply Kr.R_drew)); exact HO_9.out)⟩, ⟨by repeat (first | (with_reducible first | exact HB.out | apply below_alloc | apply pw_below_drewN | apply below_drew1) | exact HB.out)⟩⟩
      case round =>
        clear HX3 HLN HA
        obtain ⟨x5_2, rfl, HA, HO_3, HB⟩ := hrel
        obtain ⟨x3_1, hx3_⟩ : ∃ x_ : List Int, x_ = Go.Proofs.YtfloeenjkjimmaaW.Mine.wideB l0 x5_2.toNat := ⟨_, rfl⟩
        rw [← hx3_] at HO_3
        have HLN : Aside0 (x3_1.length = m3) := ⟨by rw [hx3_, HM3.out, Go.Proofs.YtfloeenjkjimmaaW.Mine.wideB_length] <;> (have := HA.out; omega)⟩
        have HX3 := Aside0.mk hx3_
        clear hx3_
        by_cases c5 : x5_2 < (m3 : Int)
        · have c5b0 : decide (x5_2 < (m3 : Int)) = true := decide_eq_true c5
          clear c4_
          have c4_ := Aside0.mk c5
          clear c5
          cases gk with
          | zero => exact absurd HA.out.2 (by have := c4_.out; have := HM3.out; omega)
          | succ k1 =>
          have hw_ : wrap64 (x5_2 + 1) = x5_2 + 1 := by
            have := HL.out
            have := HA.out
            unfold wrap64
            omega
          have HWW := Aside0.mk hw_
          clear hw_
          have p10 : 0 ≤ x5_2 := by have := HA.out; omega
          obtain ⟨go10, co10, eo10, gb10, gl10, cl10, HG10⟩ := Kr.R_form HO_3.out (by rw [HLN.out, HM3.out]; omega)
          injection eo10 with ea_ en_ ec_
          (first | subst ea_ | (injection ea_ with ea_; subst ea_))
          clear ec_ en_
          have GB10 := Aside0.mk gb10
          clear gb10 gl10 HG10
          obtain ⟨hx10_0, hf10_0⟩ := Kr.R_celln 0 HO_3.out x5_2 p10 (by have h_ := HM3.out; have h2_ := c4_.out; have h3_ := HA.out; omega)
          replace p10 := eq_true p10
          have q10 : (x5_2 < (m3 : Int)) = True := eq_true (by have h_ := HM3.out; have h2_ := c4_.out; have h3_ := HA.out; omega)
          have HP11 := Kr.R_putg HO_3.out x5_2 (7)
          go_wp2_with (first | ((with_reducible refine gate_store (t := 5) (p := 33) rfl ?_); refine store_event (t := 5) (p := 33) (v := ?vo_w33) (w1 := (wr.setCell ⟨go10, (x5_2 : Int).toNat, none⟩ (.int .u8 (7)))) ?hg ?ho ?hn ?hr ?_; (case ho => rfl); (case hg => rfl); (case hn => rfl); (case hr => first | (go_simp; done) | (go_simp; rfl)); intro w12 hw; have hg : wr.grownBy w12 (some go10) := (by rw [hw]; exact HP11.2); have hp_ : Kr.R (Kd.int .u8) 5 w12 w.heap.size (fun _ => True) (.slice (some ⟨go10, 0, none⟩) m3 co_) (x3_1.set (x5_2 : Int).toNat (7)) := (by rw [hw]; exact HP11.1); clear HP11; have n0_ := Aside0.mk (hp_); have n1_ := Aside0.mk ((by rw [hw]; exact below_set (HB.out) GB10.out : Below w.heap.size w w12)); clear HO_3; clear HB; have HO_3 := n0_; have HB := n1_; clear n0_ n1_; clear hg hw hp_))

          go_roundg k1
          case measure => omega
          case rel =>
            refine ⟨x5_2 + 1, ?_, ⟨by have := HA.out; omega⟩, ⟨?_⟩, ⟨by repeat (first | (with_reducible first | exact HB.out | apply below_alloc | apply pw_below_drewN | apply below_drew1) | exact HB.out)⟩⟩
            · first | (rw [HWW.out]; done) | (simp only [HWW.out]; done) | (simp [HWW.out]; done) | (rw [← HWW.out])
            · have h8_ := Go.Proofs.YtfloeenjkjimmaaW.Mine.wideB_succ l0 x5_2.toNat (by have := HA.out; omega) (by have := c4_.out; have := HA.out; have := HM3.out; omega)
              rw [← HX3.out, show x5_2.toNat + 1 = (x5_2 + 1).toNat from by have := HA.out; omega] at h8_
              have h9_ := HO_3.out
              rw [h8_] at h9_
              (with_reducible repeat (first | apply Kr.R_alloc | apply Kr.R_drewN | apply Kr.R_drew))
              exact h9_
        · have c5b0 : decide (x5_2 < (m3 : Int)) = false := decide_eq_false c5
          have h0_ := HO_3.out
          rw [HX3.out, show x5_2.toNat = l0.length + 3 from by have := HA.out; have := HM3.out; omega, Go.Proofs.YtfloeenjkjimmaaW.Mine.wideB_all] at h0_
          obtain ⟨i0_, hi0_, _, hsz0_, _⟩ := info_parts info5
          have hcc_ := (Kr.R_reads' h0_).2.1
          have hcut := cut_to (P := Try.prog) 22 5 .i64 Try.underlying22 hi0_ A_ m3 co_ (l0.length : Int) (by omega) (by have := HM3.out; omega) hcc_
          have hr_ := Kr.R_take (m := ((l0.length : Int) : Int).toNat) h0_ (by simp)
          have ht_ : (l0 ++ [7, 7, 7]).take ((l0.length : Int) : Int).toNat = l0 := by rw [Int.toNat_natCast, List.take_left]
          rw [ht_] at hr_
          simp only [Int.toNat_natCast] at hcut hr_
          have HO_8 := Aside0.mk hr_
          rw [HM3.out] at h0_
          have HO_7 := Aside0.mk h0_
          clear hr_ h0_ ht_ hi0_ hsz0_ hcc_ c5
          have c6b1 : decide (0 ≤ (l0.length : Int)) = true := decide_eq_true (by omega)
          have c7b1 : decide ((l0.length : Int) ≤ (m3 : Int)) = true := decide_eq_true (by have := HM3.out; omega)
          have c8b1 := eq_true (show (l0.length : Int) ≤ (m3 : Int) by have := HM3.out; omega)
          go_wp2
          go_ret
          refine ⟨_, rfl, by (with_reducible repeat (first | apply Kr.R_alloc | apply Kr.R_drewN | apply Kr.R_drew)); exact HO_8.out, ?_, by repeat (first | (with_reducible first | exact HB.out | apply below_alloc | apply pw_below_drewN | apply below_drew1) | exact HB.out)⟩
          show Kr.R (Kd.int .u8) 5 _ _ _ (.slice A_ (l0.length + 3) co_) _
          (with_reducible repeat (first | apply Kr.R_alloc | apply Kr.R_drewN | apply Kr.R_drew)); exact HO_7.out

/-! ### garderoberef00_Spoil: function 19 -/
def garderoberef00_Spoil.l0 : Nat → List Int → Int → Int → Option (List Int)
  | 0, _, _, _ => none
  | k + 1, x0, x1, x5 => if x5 < (x0.length : Int) then (if 0 ≤ x5 then (garderoberef00_Spoil.l0 k (x0.set (x5 : Int).toNat (((rd x0 x5) + x1) % 256)) x1 (wrap64 (x5 + 1))) else (none)) else (some x0)
def garderoberef00_Spoil.f (_k : Nat) (l0 : List Int) (a1 : Int) : Option (List Int) := some (l0.map (fun x => (x + a1) % 256))
theorem garderoberef00_Spoil.mono_l : ∀ k, (∀ y0 y1 y2, LeO (garderoberef00_Spoil.l0 k y0 y1 y2) (garderoberef00_Spoil.l0 (k + 1) y0 y1 y2))
  | 0 => fun _ _ _ r h => by simp [garderoberef00_Spoil.l0] at h
  | k + 1 => by
    have ih0 := garderoberef00_Spoil.mono_l k
    · intro y0 y1 y2
      unfold garderoberef00_Spoil.l0
      repeat' first
      | (with_reducible exact ih0 _ _ _)
      | (with_reducible exact LeO.refl _)
      | (with_reducible exact LeO.none _)
      | (with_reducible refine LeO.ite ?_ ?_)
      | (with_reducible refine LeO.bind ?_ (fun _ => ?_))
      | exact ih0 _ _ _
      | exact LeO.none _
      | refine LeO.ite ?_ ?_
      | refine LeO.bind ?_ (fun _ => ?_)
theorem garderoberef00_Spoil.mono : ∀ a0 a1 k, LeO (garderoberef00_Spoil.f k a0 a1) (garderoberef00_Spoil.f (k + 1) a0 a1) := by
  intro a0 a1 k
  have ih0 := garderoberef00_Spoil.mono_l k
  unfold garderoberef00_Spoil.f
  repeat' first
      | (with_reducible exact ih0 _ _ _)
      | (with_reducible exact LeO.refl _)
      | (with_reducible exact LeO.none _)
      | (with_reducible refine LeO.ite ?_ ?_)
      | (with_reducible refine LeO.bind ?_ (fun _ => ?_))
      | exact ih0 _ _ _
      | exact LeO.none _
      | refine LeO.ite ?_ ?_
      | refine LeO.bind ?_ (fun _ => ?_)
set_option maxHeartbeats 8000000 in
set_option maxRecDepth 100000 in
theorem garderoberef00_Spoil.calls (k : Nat) (P0_ : Nat → Prop) (u9000_ : Value) (l0 : List Int) (a1 : Int) (r : List Int) (w0 w : World) (hB : Below w0.heap.size w0 w) (ho0 : Kr.R (Kd.int .u8) 5 w w0.heap.size P0_ u9000_ l0) (h : garderoberef00_Spoil.f k l0 a1 = some r) :
    Calls Try.prog 19 #[u9000_, .int .u8 a1] w fun e w' => e = .returned (.tuple #[]) ∧ Kr.R (Kd.int .u8) 5 w' w0.heap.size (fun k_ => (P0_ k_ ∨ w.heap.size ≤ k_)) u9000_ r ∧ Below w0.heap.size w0 w' ∧ Kept w w' (fun k_ => P0_ k_) := by
  have HO0 := Aside0.mk (show Kr.R (Kd.int .u8) 5 w w0.heap.size (fun k_ => (P0_ k_ ∨ w.heap.size ≤ k_)) u9000_ l0 from Kr.R_mono ho0 (fun k_ hk => (.inl hk)))
  have HK := Aside0.mk (Kept.refl w (fun k_ => P0_ k_))
  have HW0 := Aside0.mk hB.size
  have HB := Aside0.mk hB
  clear hB ho0
  obtain rfl := Option.some.inj h
  clear h
  obtain ⟨Ao3, co3, eo3⟩ := Kr.R_slice HO0.out
  subst eo3
  have hnc := (Kr.R_reads' HO0.out).2.1
  obtain ⟨L, hLl, hLt, hL⟩ := Kr.R_whole HO0.out
  have hmax : co3 ≤ 9223372036854775807 := by
    have h1_ := Kd.C_max (Kr.R_reads' hL).2.2
    omega
  obtain ⟨i0_, hi0, _, hsz0, _⟩ := info_parts info5
  have hcut : ∀ W : World, (Instr.slice 22 (.slice Ao3 l0.length co3) none (some (.int .i64 co3)) (some (.int .i64 co3))).run Try.prog W = .ok (.slice Ao3 co3 co3) W := fun W => Go.Proofs.YtfloeenjkjimmaaW.Mine.whole3_of 22 5 .i64 .i64 Try.underlying22 hi0 hsz0 Ao3 l0.length co3 W
  clear hi0 hsz0
  have HL0 := Aside0.mk hL
  have HLl := Aside0.mk hLl
  have HLt := Aside0.mk hLt
  have HNC := Aside0.mk hnc
  have HMX := Aside0.mk hmax
  clear hL hLl hLt hnc hmax HO0
  go_enter Try.func19, Try.ntmps19
  go_wp2
  go_loopg [5] co3 (fun kq v5 w' => ∃ (x5_1 : Int), v5 = .int .i64 x5_1 ∧ Aside0 (0 ≤ x5_1 ∧ (kq : Int) + x5_1 = co3) ∧ Aside0 (Kr.R (Kd.int .u8) 5 w' w0.heap.size (fun k_ => (P0_ k_ ∨ w.heap.size ≤ k_)) (.slice Ao3 co3 co3) (Go.Proofs.YtfloeenjkjimmaaW.Mine.spoilt a1 L x5_1.toNat)) ∧ Aside0 (Kept w w' (fun k_ => P0_ k_)) ∧ Aside0 (Below w0.heap.size w0 w'))
  case atStart => exact ⟨0, rfl, ⟨by omega⟩, ⟨by rw [Int.toNat_zero, Go.Proofs.YtfloeenjkjimmaaW.Mine.spoilt_zero]; exact (by (with_reducible repeat (first | apply Kr.R_alloc | apply Kr.R_drewN | apply Kr.R_drew)); exact HL0.out)⟩, ⟨by repeat (first | (with_reducible first | exact HK.out | apply Kept.alloc | apply Kept.drewN | apply Kept.drew) | exact HK.out)⟩, ⟨by repeat (first | (with_reducible first | exact HB.out | apply below_alloc | apply pw_below_drewN | apply below_drew1) | exact HB.out)⟩⟩
  case round =>
    obtain ⟨x5_1, rfl, HA, HO_0, HK, HB⟩ := hrel
    obtain ⟨x0_1, hx0_⟩ : ∃ x_ : List Int, x_ = Go.Proofs.YtfloeenjkjimmaaW.Mine.spoilt a1 L x5_1.toNat := ⟨_, rfl⟩
    rw [← hx0_] at HO_0
    have hlen_ : x0_1.length = co3 := by rw [hx0_, Go.Proofs.YtfloeenjkjimmaaW.Mine.spoilt_length]; exact HLl.out
    have HX0 := Aside0.mk hx0_
    have HLN := Aside0.mk hlen_
    clear hx0_ hlen_
    by_cases c4 : x5_1 < (co3 : Int)
    · have c4b0 : decide (x5_1 < (co3 : Int)) = true := decide_eq_true c4
      cases gk with
      | zero => exact absurd HA.out.2 (by omega)
      | succ k1 =>
        have hw_ : wrap64 (x5_1 + 1) = x5_1 + 1 := by
          have := HMX.out
          have := HA.out
          unfold wrap64
          omega
        have HWW := Aside0.mk hw_
        clear hw_
        have p173 : 0 ≤ x5_1 := HA.out.1
        have q173 : x5_1 < (x0_1.length : Int) := by rw [HLN.out]; exact c4
        obtain ⟨ad173, e173, hx173_0⟩ := Kd.at_int (Kr.R_reads' HO_0.out).2.2 x5_1 p173 q173
        cases e173
        clear q173
        have c4_ := Aside0.mk c4
        clear c4
        obtain ⟨go6, co6, eo6, gb6, gl6, cl6, HG6⟩ := Kr.R_form HO_0.out (by rw [HLN.out]; have := c4_.out; have := HA.out; omega)
        injection eo6 with ea_ en_ ec_
        (first | subst ea_ | (injection ea_ with ea_; subst ea_))
        clear ec_ en_
        have GB6 := Aside0.mk gb6
        clear gb6 gl6 HG6
        (first | simp only [add_plain] at hx173_0 | skip)
        obtain ⟨hx6_0, hf6_0⟩ := Kr.R_celln 0 HO_0.out x5_1 p173 c4_.out
        replace p173 := eq_true p173
        have q6 := eq_true c4_.out
        have HP7 := Kr.R_putg HO_0.out x5_1 (((rd x0_1 x5_1) + a1) % 256)
        go_wp2_with (first | ((with_reducible refine gate_store (t := 5) (p := 26) rfl ?_); refine store_event (t := 5) (p := 26) (v := ?vo_w8) (w1 := (wr.setCell ⟨go6, x5_1.toNat, none⟩ (.int .u8 (((rd x0_1 x5_1) + a1) % 256)))) ?hg ?ho ?hn ?hr ?_; (case ho => rfl); (case hg => rfl); (case hn => rfl); (case hr => first | (go_simp; done) | (go_simp; rfl)); intro w8 hw; have hg : wr.grownBy w8 (some go6) := (by rw [hw]; exact HP7.2); have hp_ : Kr.R (Kd.int .u8) 5 w8 w0.heap.size (fun k_ => (P0_ k_ ∨ w.heap.size ≤ k_)) (.slice (some ⟨go6, 0, none⟩) co3 co3) (x0_1.set x5_1.toNat (((rd x0_1 x5_1) + a1) % 256)) := (by rw [hw]; exact HP7.1); clear HP7; have n0_ := Aside0.mk (hp_); have n1_ := Aside0.mk ((by rw [hw]; exact below_set (HB.out) GB6.out : Below w0.heap.size w0 w8)); have n2_ := Aside0.mk (Kept.of_grown (S := (fun k_ => P0_ k_)) hg (by repeat (first | (with_reducible first | exact HK.out | apply Kept.alloc | apply Kept.drewN | apply Kept.drew) | exact HK.out)) (fun k_ e_ => (HO_0.out.1.1 k_ e_))); clear HO_0; clear HB; clear HK; have HO_0 := n0_; have HB := n1_; have HK := n2_; clear n0_ n1_ n2_; clear hg hw hp_))
        go_roundg k1
        case measure => omega
        case rel =>
          refine ⟨x5_1 + 1, ?_, ⟨by have := HA.out; omega⟩, ⟨?_⟩, ⟨by repeat (first | (with_reducible first | exact HK.out | apply Kept.alloc | apply Kept.drewN | apply Kept.drew) | exact HK.out)⟩, ⟨by repeat (first | (with_reducible first | exact HB.out | apply below_alloc | apply pw_below_drewN | apply below_drew1) | exact HB.out)⟩⟩
          · first | (rw [HWW.out]; done) | (simp only [HWW.out]; done) | (simp [HWW.out]; done) | (rw [← HWW.out])
          · have h8_ := Go.Proofs.YtfloeenjkjimmaaW.Mine.spoilt_succ a1 L x5_1.toNat (by rw [HLl.out]; have := c4_.out; have := HA.out; omega)
            have h7_ : ((x5_1.toNat : Nat) : Int) = x5_1 := Int.toNat_of_nonneg HA.out.1
            rw [← HX0.out, h7_, show x5_1.toNat + 1 = (x5_1 + 1).toNat from by have := HA.out; omega] at h8_
            have h9_ := HO_0.out
            rw [h8_] at h9_
            (with_reducible repeat (first | apply Kr.R_alloc | apply Kr.R_drewN | apply Kr.R_drew))
            exact h9_
    · have c4b0 : decide (x5_1 < (co3 : Int)) = false := decide_eq_false c4
      have c4_ := Aside0.mk c4
      clear c4
      go_wp2
      first | go_end0 | ((try simp only [Exit.inBlock, Exit.then]); refine bodyPost_ret (results_none rfl _ _ _) rfl ?_)
      have h9_ := Kr.R_short HO_0.out HNC.out
      rw [HX0.out, Go.Proofs.YtfloeenjkjimmaaW.Mine.spoilt_all a1 L x5_1.toNat (by have h1_ := c4_.out; have h2_ := HLl.out; have h3_ := HA.out; omega), ← List.map_take, HLt.out] at h9_
      refine ⟨by first | rfl | (simp; done) | (simp [*]; done), ?_, by repeat (first | (with_reducible first | exact HB.out | apply below_alloc | apply pw_below_drewN | apply below_drew1) | exact HB.out), by repeat (first | (with_reducible first | exact HK.out | apply Kept.alloc | apply Kept.drewN | apply Kept.drew) | exact HK.out)⟩
      (with_reducible repeat (first | apply Kr.R_alloc | apply Kr.R_drewN | apply Kr.R_drew))
      exact h9_

/-! ### garderoberef00_Left: function 20 -/
def garderoberef00_Left.l0 : Nat → List Int → List Int → Int → Option (Bool)
  | 0, _, _, _ => none
  | k + 1, x0, x1, x5 => if x5 < (x0.length : Int) then (if 0 ≤ x5 then (if x5 < (x1.length : Int) then (if (rd x0 x5) = (rd x1 x5) then (garderoberef00_Left.l0 k x0 x1 (wrap64 (x5 + 1))) else (some false)) else (none)) else (none)) else (some true)
def garderoberef00_Left.f (_k : Nat) (l0 : List Int) (l1 : List Int) : Option (Bool) := if l0 = l1 ∧ l0.length ≤ 140737488355328 then some true else none
theorem garderoberef00_Left.mono_l : ∀ k, (∀ y0 y1 y2, LeO (garderoberef00_Left.l0 k y0 y1 y2) (garderoberef00_Left.l0 (k + 1) y0 y1 y2))
  | 0 => fun _ _ _ r h => by simp [garderoberef00_Left.l0] at h
  | k + 1 => by
    have ih0 := garderoberef00_Left.mono_l k
    · intro y0 y1 y2
      unfold garderoberef00_Left.l0
      repeat' first
      | (with_reducible exact ih0 _ _ _)
      | (with_reducible exact LeO.refl _)
      | (with_reducible exact LeO.none _)
      | (with_reducible refine LeO.ite ?_ ?_)
      | (with_reducible refine LeO.bind ?_ (fun _ => ?_))
      | exact ih0 _ _ _
      | exact LeO.none _
      | refine LeO.ite ?_ ?_
      | refine LeO.bind ?_ (fun _ => ?_)
theorem garderoberef00_Left.mono : ∀ a0 a1 k, LeO (garderoberef00_Left.f k a0 a1) (garderoberef00_Left.f (k + 1) a0 a1) := by
  intro a0 a1 k
  have ih0 := garderoberef00_Left.mono_l k
  unfold garderoberef00_Left.f
  repeat' first
      | (with_reducible exact ih0 _ _ _)
      | (with_reducible exact LeO.refl _)
      | (with_reducible exact LeO.none _)
      | (with_reducible refine LeO.ite ?_ ?_)
      | (with_reducible refine LeO.bind ?_ (fun _ => ?_))
      | exact ih0 _ _ _
      | exact LeO.none _
      | refine LeO.ite ?_ ?_
      | refine LeO.bind ?_ (fun _ => ?_)
set_option maxHeartbeats 8000000 in
set_option maxRecDepth 100000 in
theorem garderoberef00_Left.calls (k : Nat) (A0 : Option Addr) (c0 : Nat) (l0 : List Int) (A1 : Option Addr) (c1 : Nat) (l1 : List Int) (r : Bool) (w : World) (hr0 : Kd.C (Kd.int .u8) w A0 l0.length l0) (hc0 : l0.length ≤ c0) (hr1 : Kd.C (Kd.int .u8) w A1 l1.length l1) (hc1 : l1.length ≤ c1) (hlong : (Kd.int .u8).C w A0 (l0.length + 3) (l0 ++ [7, 7, 7])) (hc3 : l0.length + 3 ≤ c0) (h : garderoberef00_Left.f k l0 l1 = some r) :
    Calls Try.prog 20 #[.slice A0 l0.length c0, .slice A1 l1.length c1] w fun e w' => e = .returned (.bool r) ∧ Drawn0 w w' := by
  have hall_ : l0 = l1 ∧ l0.length ≤ 140737488355328 := by
    unfold garderoberef00_Left.f at h
    split at h
    · assumption
    · cases h
  have hr_ : r = true := by
    unfold garderoberef00_Left.f at h
    rw [if_pos hall_] at h
    exact (Option.some.inj h).symm
  subst hr_
  obtain ⟨rfl, hlen⟩ := hall_
  clear h
  have key : ∀ d i : Nat, i + d = l0.length → garderoberef00_Same.l0 (d + 1) l0 l0 (i : Int) = some true := by
    intro d
    induction d with
    | zero =>
      intro i hi
      rw [garderoberef00_Same.l0, if_neg (by omega)]
    | succ d ih =>
      intro i hi
      rw [garderoberef00_Same.l0, if_pos (by omega), if_pos (by omega), if_pos (by omega), if_pos rfl, show wrap64 ((i : Int) + 1) = ((i + 1 : Nat) : Int) from by unfold wrap64; omega]
      exact ih (i + 1) (by omega)
  have hsame : garderoberef00_Same.f (l0.length + 1) l0 l0 = some true := by
    unfold garderoberef00_Same.f
    rw [if_pos rfl]
    exact key l0.length 0 (by omega)
  clear key
  have HS := Aside0.mk hsame
  have HR0 := Aside0.mk hr0
  have HC0 := Aside0.mk hc0
  have HR1 := Aside0.mk hr1
  have HC1 := Aside0.mk hc1
  have HL := Aside0.mk hlen
  have HLG := Aside0.mk hlong
  have HL3 := Aside0.mk hc3
  obtain ⟨m3, hm3_⟩ : ∃ m_ : Nat, m_ = l0.length + 3 := ⟨_, rfl⟩
  obtain ⟨i0_, hi0_, _, hsz0_, _⟩ := info_parts info5
  have hcut : ∀ W : World, (Instr.slice 22 (.slice A0 l0.length c0) none (some (.int .i64 (m3 : Int))) (some (.int .i64 (m3 : Int)))).run Try.prog W = .ok (.slice A0 m3 m3) W := fun W => by
    have h_ := Go.Proofs.YtfloeenjkjimmaaW.Mine.upto3_of 22 5 .i64 .i64 Try.underlying22 hi0_ hsz0_ A0 l0.length c0 (m3 : Int) (by omega) (by omega) W
    simpa using h_
  clear hsame hr0 hc0 hr1 hc1 hlong hi0_ hsz0_
  have hji2 : (wrap64 ((l0.length : Int) + 3)) = (m3 : Int) := by unfold wrap64; omega
  have hji2w : (IntKind.i64.wrap ((l0.length : Int) + 3)) = (m3 : Int) := (i64_w _).trans hji2
  have c1b0 : decide ((c0 : Int) < (m3 : Int)) = false := decide_eq_false (by omega)
  have c1b2 : decide (c0 < m3) = false := decide_eq_false (by omega)
  have HM3 := Aside0.mk hm3_
  clear hlen hc3 hm3_
  go_enter Try.func20, Try.ntmps20
  go_wp2_with (first | (go_at_call 10; (with_reducible refine (garderoberef00_Same.calls (l0.length + 1) _ _ l0 _ _ l0 true _ ?side1 ?side2 ?side3 ?side4 HS.out).mono ?_); (case side1 => repeat (first | exact HR0.out | (with_reducible refine Kd.C_alloc ?_ _) | (with_reducible refine Kd.C_drewN ?_ _) | (with_reducible refine Kd.C_drew ?_))); (case side2 => exact HC0.out); (case side3 => repeat (first | exact HR1.out | (with_reducible refine Kd.C_alloc ?_ _) | (with_reducible refine Kd.C_drewN ?_ _) | (with_reducible refine Kd.C_drew ?_))); (case side4 => exact HC1.out); rintro e w' ⟨rfl, ⟨nd, rfl⟩⟩))
  go_loopg [6] 3 (fun kq v6 w' => ∃ (x6_2 : Int), v6 = .int .i64 x6_2 ∧ Aside0 ((l0.length : Int) ≤ x6_2 ∧ (kq : Int) + x6_2 = (l0.length : Int) + 3) ∧ Drawn0 w w')
  case atStart => exact ⟨(l0.length : Int), (by first | rfl | (simp; done) | (simp [*]; done)), ⟨by omega⟩, by first | exact ⟨_, rfl⟩ | (repeat (first | exact Drawn0.refl _ | apply Drawn0.step))⟩
  case round =>
    obtain ⟨x6_2, rfl, HA, ⟨nd2, rfl⟩⟩ := hrel
    by_cases c5 : x6_2 < (m3 : Int)
    · have c5b0 : decide (x6_2 < (m3 : Int)) = true := decide_eq_true c5
      have c5_ := Aside0.mk c5
      clear c5
      cases gk with
      | zero => exact absurd HA.out.2 (by have := c5_.out; have := HM3.out; omega)
      | succ k1 =>
        have hw_ : wrap64 (x6_2 + 1) = x6_2 + 1 := by
          have := HL.out
          have := HA.out
          unfold wrap64
          omega
        have HWW := Aside0.mk hw_
        clear hw_
        have p10 : 0 ≤ x6_2 := by have := HA.out; omega
        obtain ⟨ad169, e169, hx169_0⟩ := Kd.at_int HLG.out x6_2 p10 (by have := c5_.out; have := HM3.out; omega)
        have h7_ := Go.Proofs.YtfloeenjkjimmaaW.Mine.long_at l0 x6_2.toNat (by have := HA.out; omega) (by have := c5_.out; have := HM3.out; omega)
        rw [Int.toNat_of_nonneg p10] at h7_
        rw [h7_] at hx169_0
        cases e169
        (try simp only [add_plain] at hx169_0)
        replace p10 := eq_true p10
        have q10 := eq_true c5_.out
        go_wp2
        go_roundg k1
        case measure => omega
        case rel =>
          refine ⟨x6_2 + 1, ?_, ⟨by have := HA.out; omega⟩, ?_⟩
          · first | (rw [HWW.out]; done) | (simp only [HWW.out]; done) | (simp [HWW.out]; done) | (rw [← HWW.out])
          · first | exact ⟨_, rfl⟩ | (repeat (first | exact Drawn0.refl _ | apply Drawn0.step))
    · have c5b0 : decide (x6_2 < (m3 : Int)) = false := decide_eq_false c5
      clear c5
      go_wp2
      go_ret
      exact ⟨rfl, by first | exact ⟨_, rfl⟩ | (repeat (first | exact Drawn0.refl _ | apply Drawn0.step))⟩

end Go.Proofs.Ytfloeenjkjimmaa.PApduFresh
